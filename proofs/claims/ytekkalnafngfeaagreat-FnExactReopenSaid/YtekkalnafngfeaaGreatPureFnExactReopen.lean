/- Formats opened again: the program's Reopen and the reference's make the same page. No conditions but the sizes. Formats opened again: the program's Reopen and the reference's make the same page, of the call's own: the pure statement of the law FnExactReopen. No conditions but the row's. -/
import Derived.Test.YtekkalnafngfeaaGreatPuC
import Derived.Test.YtekkalnafngfeaaGreatPr26
import Derived.Test.YtekkalnafngfeaaGreatPr31
import Derived.Test.YtekkalnafngfeaaGreatPr44
import Derived.Test.YtekkalnafngfeaaGreatPr46
set_option linter.unusedVariables false
set_option linter.unusedSimpArgs false
namespace Go.Proofs.YtekkalnafngfeaaGreat.Pt
open Go.RowKit Go.Proofs.YtekkalnafngfeaaGreat.P Go.Proofs.YtekkalnafngfeaaGreat.Evs Go.Proofs.YtekkalnafngfeaaGreat.It Go.Proofs.YtekkalnafngfeaaGreat.Tr Go.Proofs.YtekkalnafngfeaaGreat.Pg Go.Proofs.YtekkalnafngfeaaGreatW.PrintWords Go.Proofs.YtekkalnafngfeaaGreatW.PrintLast

/-! ### a number in a row -/
theorem Index_none (O : List Int) (a : Int) (hl : O.length ≤ 1048576) (hn : ∀ i, i < O.length → ¬ rd O (i : Int) = a) : ∀ (d j : Nat), O.length - j = d → j ≤ O.length → Ev (fun k => slices_Index_int_int.l0 k O a O.length j) (-1) := by
 intro d
 induction d with
 | zero =>
  intro j hd hj
  refine Ev.here fun k => ?_
  simp only [slices_Index_int_int.l0]
  rw [if_neg (by omega)]
 | succ d ih =>
  intro j hd hj
  have hw : wrap64 ((j : Int) + 1) = ((j + 1 : Nat) : Int) := succ64 (by omega)
  refine Ev.step (fun k => ?_) (ih (j + 1) (by omega) (by omega))
  simp only [slices_Index_int_int.l0, hw]
  rw [if_pos (by omega), if_pos (by omega), if_pos (by omega), if_neg (fun q => hn j (by omega) q.symm)]
theorem Contains_tells (O : List Int) (a : Int) (hl : O.length ≤ 1048576) : Ev (fun k => slices_Contains_int_int.f k O a) (!decide (O.count a = 0)) := by
 unfold slices_Contains_int_int.f
 by_cases c : ∃ i, i < O.length ∧ rd O (i : Int) = a
 ·obtain ⟨i, h1, h2⟩ := Index_tells O a hl c
  have hm : ¬ O.count a = 0 := by
   obtain ⟨hi, e, _⟩ := h1
   rw [rdI O i hi] at e
   have := List.count_pos_iff.mpr (e ▸ List.getElem_mem hi)
   omega
  refine Ev.bind h2 (Ev.const fun _ => ?_)
  rw [decide_eq_true (show (i : Int) ≥ 0 by omega), decide_eq_false hm]
  rfl
 ·have hn : ∀ i, i < O.length → ¬ rd O (i : Int) = a := fun i hi e => c ⟨i, hi, e⟩
  have hm : O.count a = 0 := by
   rw [List.count_eq_zero]
   intro hmem
   obtain ⟨i, hi, e⟩ := List.getElem_of_mem hmem
   exact hn i hi (by rw [rdI O i hi]; exact e)
  refine Ev.bind (Index_none O a hl hn O.length 0 (by omega) (by omega)) (Ev.const fun _ => ?_)
  rw [decide_eq_false (show ¬ ((-1 : Int) ≥ 0) by omega), decide_eq_true hm]
  rfl

/-! ### how far back -/
theorem from_same (O F : List Int) (hO : O.length ≤ 1048576) (hF : F.length ≤ 1048576) : ∀ x : Nat, x ≤ F.length → ∃ n : Nat, n ≤ x ∧ (∀ j, n ≤ j → j < x → ¬ rd F (j : Int) = -1) ∧ Ev (fun k => spec_Reopen.l0 k O F x) (n : Int) ∧ Ev (fun k => impl_Page_reopen.l0 k O F x) (n : Int)
 | 0, _ => ⟨0, Nat.le_refl _, fun j _ h => absurd h (Nat.not_lt_zero _), Ev.here fun k => by simp only [spec_Reopen.l0]; rw [if_neg (by omega)], Ev.here fun k => by simp only [impl_Page_reopen.l0]; rw [if_neg (by omega)]⟩
 | x + 1, hx => by
  have hw : wrap64 (((x + 1 : Nat) : Int) - 1) = (x : Int) := by rw [w64 (by omega) (by omega)]; omega
  by_cases c : rd F (x : Int) = -1
  ·refine ⟨x + 1, Nat.le_refl _, fun j h1 h2 => absurd h2 (by omega), Ev.here fun k => ?_, Ev.here fun k => ?_⟩
   ·simp only [spec_Reopen.l0, hw]; rw [if_pos (by omega), if_pos (by omega), if_pos c]
   ·simp only [impl_Page_reopen.l0, hw]; rw [if_pos (by omega), if_pos (by omega), if_pos c]
  ·have es := Count_tells O (rd F (x : Int)) hO
   have ei := Contains_tells O (rd F (x : Int)) hO
   by_cases d : O.count (rd F (x : Int)) = 0
   ·obtain ⟨n, h1, h2, h3, h4⟩ := from_same O F hO hF x (by omega)
    refine ⟨n, by omega, fun j q1 q2 => if e : j = x then by rw [e]; exact c else h2 j q1 (by omega), ?_, ?_⟩
    ·refine Ev.step (f := fun k => (spec_l6Count.f k O (rd F (x : Int))).bind fun t => if t = 0 then spec_Reopen.l0 k O F (x : Int) else some ((x + 1 : Nat) : Int)) (fun k => ?_) (Ev.bind es (Ev.ite_pos (by omega) h3))
     simp only [spec_Reopen.l0, hw]; rw [if_pos (by omega), if_pos (by omega), if_neg c]
    ·refine Ev.step (f := fun k => (slices_Contains_int_int.f k O (rd F (x : Int))).bind fun t => if t = true then some ((x + 1 : Nat) : Int) else impl_Page_reopen.l0 k O F (x : Int)) (fun k => ?_) (Ev.bind ei (Ev.ite_neg (by rw [decide_eq_true d]; decide) h4))
     simp only [impl_Page_reopen.l0, hw]; rw [if_pos (by omega), if_pos (by omega), if_neg c]
   ·refine ⟨x + 1, Nat.le_refl _, fun j h1 h2 => absurd h2 (by omega), ?_, ?_⟩
    ·refine Ev.step (f := fun k => (spec_l6Count.f k O (rd F (x : Int))).bind fun t => if t = 0 then spec_Reopen.l0 k O F (x : Int) else some ((x + 1 : Nat) : Int)) (fun k => ?_) (Ev.bind es (Ev.ite_neg (by omega) (Ev.now _)))
     simp only [spec_Reopen.l0, hw]; rw [if_pos (by omega), if_pos (by omega), if_neg c]
    ·refine Ev.step (f := fun k => (slices_Contains_int_int.f k O (rd F (x : Int))).bind fun t => if t = true then some ((x + 1 : Nat) : Int) else impl_Page_reopen.l0 k O F (x : Int)) (fun k => ?_) (Ev.bind ei (Ev.ite_pos (by rw [decide_eq_false d]; decide) (Ev.now _)))
     simp only [impl_Page_reopen.l0, hw]; rw [if_pos (by omega), if_pos (by omega), if_neg c]

/-! ### a tag put into a right page -/
theorem tag_step (L : List S53) (O F : List Int) (a b : Int) (hS : Small L) (hN : Named L) (hO : O.length ≤ 1048576) (hP : PageR L O F a b) (y2 : ByteArray) (l3 : List S56) (a1 : Int) (h2 : y2.size ≤ 1048576) (h3 : l3.length ≤ 1048576) (hx : Plain (⟨2, a1, y2, l3, (⟨#[]⟩ : ByteArray), 0, []⟩ : S53)) :
  (L.length < 3000 → ∃ (u : Nat) (q : Int) (O2 : List Int), u < L.length ∧ O2.length ≤ 1048576 ∧ Ev (fun k => spec_l9Place.f k L O F a b) ((u : Int), q) ∧ spec_l9Tag.f L O (u : Int) q 2 a1 y2 l3 (⟨#[]⟩ : ByteArray) 0 [] true = some (addL L u (hang_at q (it L u).f6.length) (leaf 2 a1 y2 l3 (⟨#[]⟩ : ByteArray) u), O2) ∧
   Ev (fun k => impl_Page_putTag.f k L O F a b y2 l3 a1 true) ((L.length : Int), addL L u (hang_at q (it L u).f6.length) (leaf 2 a1 y2 l3 (⟨#[]⟩ : ByteArray) u), O2) ∧ PageR (addL L u (hang_at q (it L u).f6.length) (leaf 2 a1 y2 l3 (⟨#[]⟩ : ByteArray) u)) O2 F a b ∧
   Small (addL L u (hang_at q (it L u).f6.length) (leaf 2 a1 y2 l3 (⟨#[]⟩ : ByteArray) u)) ∧ Named (addL L u (hang_at q (it L u).f6.length) (leaf 2 a1 y2 l3 (⟨#[]⟩ : ByteArray) u))) ∧
  (¬ L.length < 3000 → Ev (fun k => impl_Page_putTag.f k L O F a b y2 l3 a1 true) (0, L, O)) := by
 have hR : Right L := hP.2.2.2.2.2.2
 have hT : Tags L O := fun j hj => (hP.1 j (Nat.zero_le _) hj).1
 obtain ⟨p, q, ⟨u, rfl, hu, hku⟩, ep, ip⟩ := place_up L O F a b hS hN hO hR hT (last_up hP)
 constructor
 ·intro cn
  have er : decide ((L.length : Int) < 3000) = true := decide_eq_true (by omega)
  obtain ⟨w, hw, _, ew, _⟩ := Plain_tells (⟨2, a1, y2, l3, (⟨#[]⟩ : ByteArray), 0, []⟩ : S53) h3
  have hwt : w = true := hw.mpr hx
  have hl : Plain (leaf 2 a1 y2 l3 (⟨#[]⟩ : ByteArray) u) := plain_eq rfl rfl rfl rfl rfl (Or.inr rfl) hx
  have hA := (PageR_add u (hang_at q (it L u).f6.length) (leaf 2 a1 y2 l3 (⟨#[]⟩ : ByteArray) u) hP cn hu hku rfl rfl).mpr ⟨hl, by show ¬ (2 : Int) = 1; omega⟩
  have hS2 := small_add u (hang_at q (it L u).f6.length) (leaf 2 a1 y2 l3 (⟨#[]⟩ : ByteArray) u) hS hR hu h3 rfl
  have hN2 := named_add u (hang_at q (it L u).f6.length) (leaf 2 a1 y2 l3 (⟨#[]⟩ : ByteArray) u) hN hu h2
  have ea := l6Add_tells L u 2 a1 y2 l3 (⟨#[]⟩ : ByteArray) 0 [] q hS hu h3 (by simp)
  have eh := hang_tells L u 2 a1 y2 l3 (⟨#[]⟩ : ByteArray) q hS hu h3
  have eg : (w && !((2 : Int) == 1)) = true := by rw [hwt]; rfl
  have go : ∀ O2 : List Int, Ev (fun k => if true = true ∧ (O.length : Int) < 40 then some ((L.length : Int), addL L u (hang_at q (it L u).f6.length) (leaf 2 a1 y2 l3 (⟨#[]⟩ : ByteArray) u), O ++ [(L.length : Int)]) else some ((L.length : Int), addL L u (hang_at q (it L u).f6.length) (leaf 2 a1 y2 l3 (⟨#[]⟩ : ByteArray) u), O)) ((L.length : Int), addL L u (hang_at q (it L u).f6.length) (leaf 2 a1 y2 l3 (⟨#[]⟩ : ByteArray) u), O2) → Ev (fun k => impl_Page_putTag.f k L O F a b y2 l3 a1 true) ((L.length : Int), addL L u (hang_at q (it L u).f6.length) (leaf 2 a1 y2 l3 (⟨#[]⟩ : ByteArray) u), O2) := by
   intro O2 h
   unfold impl_Page_putTag.f impl_Page_tagAt.f
   exact Ev.bind ip (Ev.opt (a := (true, a, b)) (by unfold impl_Page_hasRoom.f; rw [er]) (Ev.ite_pos rfl (Ev.bind ew (Ev.ite_pos eg (Ev.opt eh h)))))
  by_cases c : (O.length : Int) < 40
  ·refine ⟨u, q, O ++ [(L.length : Int)], hu, by rw [List.length_append, List.length_singleton]; omega, ep, ?_, go _ (Ev.ite_pos ⟨rfl, c⟩ (Ev.now _)), PageR_tag u _ _ hP hA hu rfl (by omega), hS2, hN2⟩
   unfold spec_l9Tag.f
   rw [ea]
   dsimp only [Option.bind_some]
   rw [if_pos ⟨rfl, c⟩]
  ·refine ⟨u, q, O, hu, hO, ep, ?_, go _ (Ev.ite_neg (fun h => c h.2) (Ev.now _)), hA, hS2, hN2⟩
   unfold spec_l9Tag.f
   rw [ea]
   dsimp only [Option.bind_some]
   rw [if_neg (fun h => c h.2)]
 ·intro cn
  have er : decide ((L.length : Int) < 3000) = false := decide_eq_false (by omega)
  unfold impl_Page_putTag.f impl_Page_tagAt.f
  exact Ev.bind ip (Ev.opt (a := (false, a, b)) (by unfold impl_Page_hasRoom.f; rw [er]) (Ev.ite_neg Bool.false_ne_true (Ev.now _)))
/-- What stands in a form's place is put again as a tag that is right by itself. -/
theorem plain_again {L : List S53} (hR : Right L) {i : Int} (ht : tag L i (⟨#[]⟩ : ByteArray) = true) : Plain (⟨2, (rd_T53 L i).f1, (rd_T53 L i).f2, (rd_T53 L i).f3, (⟨#[]⟩ : ByteArray), 0, []⟩ : S53) := by
 obtain ⟨h0, h1, h2, _⟩ := tag_parts ht
 have hp := (hR.2.2.1 i.toNat (by omega)).1
 rw [it_toNat L h0] at hp
 unfold Plain at hp ⊢
 rw [if_pos h2] at hp
 rw [if_pos rfl]
 exact ⟨hp.1, nil_list, hp.2.2⟩
theorem fo_new (L : List S53) (u h : Nat) (x : S53) (hu : u < L.length) (h0 : x.f0 = 2) (hf : fm x.f2 = true) : fo (addL L u h x) (L.length : Int) = true := by
 have e : rd_T53 (addL L u h x) (L.length : Int) = x := by
  have := it_addL L u h x hu L.length
  rw [if_neg (by omega), if_pos rfl] at this
  exact this
 unfold fo
 rw [tag_new L u h x hu h0, e, hf]
 rfl
theorem rd_set (F : List Int) (j i : Nat) (n : Int) (hi : i < F.length) : rd (F.set j n) (i : Int) = if i = j then n else rd F (i : Int) := by
 rw [rdI (F.set j n) i (by rw [List.length_set]; exact hi), rdI F i hi, List.getElem_set]
 by_cases c : j = i
 ·rw [if_pos c, if_pos c.symm]
 ·rw [if_neg c, if_neg (fun e => c e.symm)]
theorem PageR_form {L : List S53} {O F : List Int} {hd bd : Int} (hP : PageR L O F hd bd) (j : Nat) (n : Int) (hn : fo L n = true) : PageR L O (F.set j n) hd bd := by
 obtain ⟨c1, c2, f1, f2, f3, f4, hR⟩ := hP
 refine ⟨c1, fun i q1 q2 => ?_, f1, by rw [List.length_set]; exact f2, f3, f4, hR⟩
 rw [List.length_set] at q2
 unfold FormOk
 rw [rd_set F j i n q2]
 by_cases c : i = j
 ·rw [if_pos c]; exact Or.inr hn
 ·rw [if_neg c]; exact c2 i q1 q2

/-! ### each put again -/
theorem again (a b : Int) (N : Nat) (hN1 : N ≤ 1048576) : ∀ (d x : Nat) (L : List S53) (O F : List Int), N - x = d → x ≤ N → F.length = N → PageR L O F a b → Small L → Named L → O.length ≤ 1048576 → (∀ j, x ≤ j → j < N → ¬ rd F (j : Int) = -1) →
  ∃ (r : List S53) (O2 F2 : List Int), Small r ∧ O2.length ≤ 1048576 ∧ F2.length ≤ 1048576 ∧ Ev (fun k => spec_Reopen.l1 k N L O F a b x) (r, O2, F2) ∧ Ev (fun k => impl_Page_reopen.l1 k L O F a b x) (r, O2, F2) := by
 intro d
 induction d with
 | zero =>
  intro x L O F hd hx hF hP hS hN hO hm
  refine ⟨L, O, F, hS, hO, by omega, Ev.here fun k => ?_, Ev.here fun k => ?_⟩
  ·simp only [spec_Reopen.l1]; rw [if_neg (by omega)]
  ·simp only [impl_Page_reopen.l1]; rw [if_neg (by omega)]
 | succ d ih =>
  intro x L O F hd hx hF hP hS hN hO hm
  have hL := hS.1
  have hfo : fo L (rd F (x : Int)) = true := (hP.2.1 x (Nat.zero_le _) (by omega)).elim (fun q => absurd q (hm x (Nat.le_refl _) (by omega))) id
  have hfo2 := hfo
  unfold fo at hfo2
  rw [Bool.and_eq_true] at hfo2
  obtain ⟨ht, hfm⟩ := hfo2
  obtain ⟨t0, t1, t2, _⟩ := tag_parts ht
  have hR : Right L := hP.2.2.2.2.2.2
  have hp := plain_again hR ht
  have hs : (rd_T53 L (rd F (x : Int))).f2.size ≤ 1048576 := by rw [← it_toNat L t0]; exact hN _ (by omega)
  have h3 : (rd_T53 L (rd F (x : Int))).f3.length ≤ 1048576 := by rw [← it_toNat L t0]; exact (it_small hS (by omega)).1
  obtain ⟨g1, g2⟩ := tag_step L O F a b hS hN hO hP _ _ (rd_T53 L (rd F (x : Int))).f1 hs h3 hp
  by_cases cn : L.length < 3000
  ·obtain ⟨u, q, O2, hu, hO2, ep, et, ei, hP2, hS2, hN2⟩ := g1 cn
   clear g1 g2
   have er : decide ((L.length : Int) < 3000) = true := decide_eq_true (by omega)
   have hf2 := fo_new L u (hang_at q (it L u).f6.length) (leaf 2 (rd_T53 L (rd F (x : Int))).f1 (rd_T53 L (rd F (x : Int))).f2 (rd_T53 L (rd F (x : Int))).f3 (⟨#[]⟩ : ByteArray) u) hu rfl hfm
   obtain ⟨r, O3, F3, k1, k2, k3, k4, k5⟩ := ih (x + 1) _ O2 (F.set x (L.length : Int)) (by omega) (by omega) (by rw [List.length_set]; exact hF) (PageR_form hP2 x _ hf2) hS2 hN2 hO2 (fun j q1 q2 => by
    rw [rd_set F x j _ (by omega), if_neg (by omega)]
    exact hm j (by omega) q2)
   refine ⟨r, O3, F3, k1, k2, k3, ?_, ?_⟩
   ·refine Ev.step (f := fun k => (spec_l9Place.f k L O F a b).bind fun p => (spec_l9Tag.f L O p.1 p.2 2 (rd_T53 L (rd F (x : Int))).f1 (rd_T53 L (rd F (x : Int))).f2 (rd_T53 L (rd F (x : Int))).f3 (⟨#[]⟩ : ByteArray) 0 [] true).bind fun q => spec_Reopen.l1 k N q.1 q.2 (F.set x (L.length : Int)) a b ((x + 1 : Nat) : Int)) (fun k => ?_) (Ev.bind ep (Ev.opt et k4))
    simp only [spec_Reopen.l1, succ64 (show x < 9223372036854775807 by omega), spec_l9Room.f, er, Option.bind_some, Int.toNat_natCast]
    rw [if_pos (by omega), if_pos trivial, if_pos ⟨⟨by omega, by omega, t0, t1⟩, by omega⟩]
   ·refine Ev.step (f := fun k => (impl_Page_putTag.f k L O F a b (rd_T53 L (rd F (x : Int))).f2 (rd_T53 L (rd F (x : Int))).f3 (rd_T53 L (rd F (x : Int))).f1 true).bind fun z => if z.1 = 0 then some (z.2.1, z.2.2, F) else impl_Page_reopen.l1 k z.2.1 z.2.2 (F.set x z.1) a b ((x + 1 : Nat) : Int)) (fun k => ?_) (Ev.bind ei (Ev.ite_neg (by have := hR.1.1; show ¬ (L.length : Int) = 0; omega) k5))
    simp only [impl_Page_reopen.l1, succ64 (show x < 9223372036854775807 by omega), Int.toNat_natCast]
    rw [if_pos (by omega), if_pos ⟨by omega, t0, t1⟩]
  ·have g3 := g2 cn
   clear g1 g2
   have er : decide ((L.length : Int) < 3000) = false := decide_eq_false (by omega)
   refine ⟨L, O, F, hS, hO, by omega, Ev.here fun k => ?_, ?_⟩
   ·simp only [spec_Reopen.l1, spec_l9Room.f, er, Option.bind_some]
    rw [if_pos (by omega), if_neg Bool.false_ne_true]
   ·refine Ev.step (f := fun k => (impl_Page_putTag.f k L O F a b (rd_T53 L (rd F (x : Int))).f2 (rd_T53 L (rd F (x : Int))).f3 (rd_T53 L (rd F (x : Int))).f1 true).bind fun z => if z.1 = 0 then some (z.2.1, z.2.2, F) else impl_Page_reopen.l1 k z.2.1 z.2.2 (F.set x z.1) a b ((x + 1 : Nat) : Int)) (fun k => ?_) (Ev.bind g3 (Ev.ite_pos rfl (Ev.now _)))
    simp only [impl_Page_reopen.l1, succ64 (show x < 9223372036854775807 by omega), Int.toNat_natCast]
    rw [if_pos (by omega), if_pos ⟨by omega, t0, t1⟩]
theorem Reopen_same (L : List S53) (O F : List Int) (a b : Int) (hS : Small L) (hN : Named L) (hO : O.length ≤ 1048576) (hF : F.length ≤ 1048576) :
  ∃ (r : List S53) (O2 F2 : List Int), Small r ∧ O2.length ≤ 1048576 ∧ F2.length ≤ 1048576 ∧ Ev (fun k => spec_Reopen.f k L O F a b) (r, O2, F2, a, b) ∧ Ev (fun k => impl_Reopen.f k L O F a b) (r, O2, F2, a, b) := by
 obtain ⟨v, hv, e1, e2⟩ := PageOk_iff L O F a b hS hN hO hF
 have ec := l8Copy_tells L O F a b hS hO hF
 have ei := copyPage_tells L O F a b hS hO hF
 unfold spec_Reopen.f impl_Reopen.f
 cases v with
 | false => exact ⟨L, O, F, hS, hO, hF, Ev.bind ec (Ev.bind e1 (Ev.ite_neg Bool.false_ne_true (Ev.now _))), Ev.opt ei (Ev.bind e2 (Ev.ite_neg Bool.false_ne_true (Ev.now _)))⟩
 | true =>
  obtain ⟨n, h1, h2, h3, h4⟩ := from_same O F hO hF F.length (Nat.le_refl _)
  obtain ⟨r, O2, F2, k1, k2, k3, k4, k5⟩ := again a b F.length hF (F.length - n) n L O F rfl h1 rfl (hv.mp rfl) hS hN hO h2
  exact ⟨r, O2, F2, k1, k2, k3, Ev.bind ec (Ev.bind e1 (Ev.ite_pos rfl (Ev.bind h3 (Ev.bind k4 (Ev.now _))))), Ev.opt ei (Ev.bind e2 (Ev.ite_pos rfl (Ev.bind (Ev.bind h4 k5) (Ev.now _))))⟩
end Go.Proofs.YtekkalnafngfeaaGreat.Pt
namespace Go.Proofs.YtekkalnafngfeaaGreat.Pure
open Go.RowKit Go.Proofs.YtekkalnafngfeaaGreat.P Go.Proofs.YtekkalnafngfeaaGreat.Evs Go.Proofs.YtekkalnafngfeaaGreat.It Go.Proofs.YtekkalnafngfeaaGreat.Tr Go.Proofs.YtekkalnafngfeaaGreat.Pg Go.Proofs.YtekkalnafngfeaaGreat.Mk Go.Proofs.YtekkalnafngfeaaGreat.Pt Go.Proofs.YtekkalnafngfeaaGreatW.PrintWords Go.Proofs.YtekkalnafngfeaaGreatW.PrintLast

theorem FnExactReopen : laws_FnExactReopen.Pure := by
 intro n x hx
 suffices h : Ev (fun k => laws_FnExactReopen.f k x.f0 x.f1 x.f2 x.f3 x.f4) true from h.rounds
 unfold laws_FnExactReopen.f
 obtain ⟨t, t1, et, tq⟩ := szPage_tells n x hx
 by_cases c : t < 0
 ·exact Ev.bind et (Ev.ite_pos c (Ev.now _))
 obtain ⟨⟨q1, q2⟩, q3, q4⟩ := tq c
 obtain ⟨hS, hN, ex⟩ := toPage_tells n x q1 q2 q3 q4
 obtain ⟨r, O, F, hr, hO, hF, ep, ei⟩ := Reopen_same (x.f0.map toI) x.f1 x.f2 x.f3 x.f4 hS hN q3 q4
 have eq1 := eqPage_same r O F x.f3 x.f4 hr hO hF
 have eq2 := eqPage_same (x.f0.map toI) x.f1 x.f2 x.f3 x.f4 hS q3 q4
 obtain ⟨n1, z1, b1, em1, _⟩ := markPage_tells (x.f0.map toI) x.f1 x.f2 hS q3 q4 x.f3 x.f4
 obtain ⟨n3, z3, b3, em3, eh3⟩ := markPage_tells r O F hr hO hF x.f3 x.f4
 exact Ev.bind et (Ev.ite_neg c (Ev.bind ex (Ev.bind ep (Ev.bind ei (Ev.bind eq1 (Ev.ite_pos rfl (Ev.bind eq2 (Ev.ite_pos rfl (Ev.bind em1 (Ev.ite_neg (by omega) (Ev.bind em3 (Ev.bind eh3 (Ev.ite_neg (by omega) (Ev.ite_pos rfl (Ev.now _)))))))))))))))
end Go.Proofs.YtekkalnafngfeaaGreat.Pure
