/- The place of a page: the program's Place and the reference's tell the same: the pure statement of the law FnExactPlace. No conditions but the row's. -/
import Derived.Test.YtgljgbkbjlondaaPageOkBase
import Derived.Test.YtgljgbkbjlondaaTreeSmall
import Derived.Test.YtgljgbkbjlondaaPl18
set_option linter.unusedVariables false
set_option linter.unusedSimpArgs false
namespace Go.Proofs.Ytgljgbkbjlondaa.Pure
open Go.RowKit Go.Proofs.Ytgljgbkbjlondaa.P Go.Proofs.Ytgljgbkbjlondaa.Evs Go.Proofs.Ytgljgbkbjlondaa.It Go.Proofs.Ytgljgbkbjlondaa.Tr Go.Proofs.Ytgljgbkbjlondaa.Pg Go.Proofs.YtgljgbkbjlondaaW.PrintWords Go.Proofs.YtgljgbkbjlondaaW.PrintLast

def Tags (L : List S50) (O : List Int) : Prop := ∀ j, j < O.length → tag L (rd O (j : Int)) (⟨#[]⟩ : ByteArray) = true
def nm (L : List S50) (O : List Int) (i : Nat) : ByteArray := (rd_T50 L (rd O (i : Int))).f2
theorem name_spec (L : List S50) (O F : List Int) (a b : Int) (hT : Tags L O) (i : Nat) (hi : i < O.length) : spec_l8Name.f L O F a b (i : Int) = some (nm L O i) := by
 obtain ⟨h0, h1, _⟩ := tag_in (hT i hi)
 unfold spec_l8Name.f
 rw [if_neg (by omega), if_neg (by omega), if_pos (by omega), if_pos (by omega), if_neg (by omega), if_neg (by omega), if_pos h0, if_pos h1]
 rfl
theorem name_impl (L : List S50) (hL : L.length ≤ 1048576) (O F : List Int) (a b : Int) (hT : Tags L O) (i : Nat) (hi : i < O.length) : impl_Page_nameOf.f L O F a b (i : Int) = some (nm L O i, a, b) := by
 obtain ⟨h0, h1, _⟩ := tag_in (hT i hi)
 have hw : wrap64 ((L.length : Int) - 1) = (L.length : Int) - 1 := w64 (by omega) (by omega)
 unfold impl_Page_nameOf.f
 rw [if_pos (by omega), if_pos (by omega), hw, inRange_eq]
 simp only [Option.bind_some]
 rw [decide_eq_true (show 0 ≤ rd O (i : Int) ∧ rd O (i : Int) ≤ (L.length : Int) - 1 by omega), if_pos rfl, if_pos h0, if_pos h1]
 rfl
def lastN (L : List S50) (O : List Int) : ByteArray := if O.length = 0 then (⟨#[]⟩ : ByteArray) else nm L O (O.length - 1)
def lastV (O : List Int) : Int := if O.length = 0 then 0 else rd O ((O.length - 1 : Nat) : Int)
theorem len_wrap (O : List Int) (hO : O.length ≤ 1048576) (h : ¬ O.length = 0) : wrap64 ((O.length : Int) - 1) = ((O.length - 1 : Nat) : Int) := by
 rw [w64 (by omega) (by omega)]; omega
theorem lastN_spec (L : List S50) (O F : List Int) (a b : Int) (hO : O.length ≤ 1048576) (hT : Tags L O) : spec_l8Last.f L O F a b = some (lastN L O) := by
 unfold spec_l8Last.f lastN
 by_cases c : O.length = 0
 ·rw [if_pos c, show wrap64 ((O.length : Int) - 1) = -1 by rw [w64 (by omega) (by omega)]; omega]
  rfl
 ·rw [if_neg c, len_wrap O hO c, name_spec L O F a b hT _ (by omega)]
  rfl
theorem lastN_impl (L : List S50) (hL : L.length ≤ 1048576) (O F : List Int) (a b : Int) (hO : O.length ≤ 1048576) (hT : Tags L O) : impl_Page_lastName.f L O F a b = some (lastN L O, a, b) := by
 unfold impl_Page_lastName.f lastN
 by_cases c : O.length = 0
 ·rw [if_pos c, if_pos (by omega)]
 ·rw [if_neg c, if_neg (by omega), len_wrap O hO c, name_impl L hL O F a b hT _ (by omega)]
  rfl
theorem last_impl (L : List S50) (O F : List Int) (a b : Int) (hO : O.length ≤ 1048576) : impl_Page_last.f L O F a b = some (lastV O, a, b) := by
 unfold impl_Page_last.f lastV
 by_cases c : O.length = 0
 ·rw [if_pos c, if_pos (by omega)]
 ·rw [if_neg c, if_neg (by omega), len_wrap O hO c, if_pos (by omega), if_pos (by omega)]
def tb (n : ByteArray) : Bool := [[116, 97, 98, 108, 101], [116, 98, 111, 100, 121], [116, 114]].any (n.toList == ·)
theorem in_spec (L : List S50) (O F : List Int) (a b : Int) (hO : O.length ≤ 1048576) (hT : Tags L O) : spec_InTable.f L O F a b = some (tb (lastN L O)) := by
 unfold spec_InTable.f tb
 rw [lastN_spec L O F a b hO hT]
 simp only [Option.bind_some, List.any_cons, List.any_nil, Bool.or_false]
 by_cases c : (lastN L O).toList = [116, 97, 98, 108, 101]
 ·rw [if_pos c, c]; rfl
 ·rw [if_neg c, beq_eq_false_iff_ne.mpr c, Bool.false_or]
  by_cases d : (lastN L O).toList = [116, 98, 111, 100, 121]
  ·rw [if_pos d, d]; rfl
  ·rw [if_neg d, beq_eq_false_iff_ne.mpr d, Bool.false_or]
theorem in_impl (L : List S50) (hL : L.length ≤ 1048576) (hN : Named L) (O F : List Int) (a b : Int) (hO : O.length ≤ 1048576) (hT : Tags L O) : impl_Page_inTable.f L O F a b = some (tb (lastN L O), a, b) := by
 have hs : (lastN L O).size ≤ 1048576 := by
  unfold lastN
  by_cases c : O.length = 0
  ·rw [if_pos c]; decide
  ·rw [if_neg c]
   obtain ⟨h0, h1, _⟩ := tag_in (hT (O.length - 1) (by omega))
   unfold nm
   rw [← it_toNat L h0]; exact hN _ (by omega)
 unfold impl_Page_inTable.f
 rw [lastN_impl L hL O F a b hO hT]
 simp only [Option.bind_some]
 rw [Sg.isOneOf_tells (lastN L O) _ [[116, 97, 98, 108, 101], [116, 98, 111, 100, 121], [116, 114]] hs (by decide) (by decide) (by decide) (by decide)]
 rfl
def tn : ByteArray := (⟨#[116, 97, 98, 108, 101]⟩ : ByteArray)
theorem find_same (L : List S50) (hL : L.length ≤ 1048576) (O F : List Int) (a b : Int) (hO : O.length ≤ 1048576) (hT : Tags L O) : ∀ j, j ≤ O.length → ∃ t : Int, (t = -1 ∨ ∃ i : Nat, i < O.length ∧ t = (i : Int)) ∧ Ev (fun k => spec_l8Find.l0 k tn ((j : Int) - 1) L O F a b) t ∧ impl_Page_openAt tn L O F a b j = some t
 | 0, _ => ⟨-1, Or.inl rfl, Ev.here fun k => by simp only [spec_l8Find.l0]; rw [if_neg (by omega)]; rfl, rfl⟩
 | j + 1, h => by
  have hj : ((j + 1 : Nat) : Int) - 1 = (j : Int) := by omega
  have hw : wrap64 ((j : Int) - 1) = (j : Int) - 1 := w64 (by omega) (by omega)
  rw [hj]
  have en := name_spec L O F a b hT j (by omega)
  have ei := name_impl L hL O F a b hT j (by omega)
  by_cases c : (nm L O j).toList = tn.toList
  ·refine ⟨(j : Int), Or.inr ⟨j, by omega, rfl⟩, Ev.here fun k => ?_, ?_⟩
   ·simp only [spec_l8Find.l0]
    rw [if_pos (by omega), en]
    simp only [Option.bind_some]
    rw [if_pos c]
   ·unfold impl_Page_openAt
    rw [ei]
    simp only [Option.bind_some]
    rw [if_pos (beq_iff_eq.mpr c)]
  ·obtain ⟨t, h1, h2, h3⟩ := find_same L hL O F a b hO hT j (by omega)
   refine ⟨t, h1, Ev.step (fun k => ?_) h2, ?_⟩
   ·simp only [spec_l8Find.l0]
    rw [if_pos (by omega), en]
    simp only [Option.bind_some]
    rw [if_neg c, hw]
   ·unfold impl_Page_openAt
    rw [ei]
    simp only [Option.bind_some]
    rw [if_neg (by rw [beq_eq_false_iff_ne.mpr c]; exact Bool.false_ne_true), h3]
theorem open_same (L : List S50) (hL : L.length ≤ 1048576) (O F : List Int) (a b : Int) (hO : O.length ≤ 1048576) (hT : Tags L O) : ∃ t : Int, (t = -1 ∨ ∃ i : Nat, i < O.length ∧ t = (i : Int)) ∧ Ev (fun k => spec_TableOpen.f k L O F a b) t ∧ impl_Page_tableOpen.f L O F a b = some (t, a, b) := by
 obtain ⟨t, h1, h2, h3⟩ := find_same L hL O F a b hO hT O.length (Nat.le_refl _)
 have hw : wrap64 ((O.length : Int) - 1) = (O.length : Int) - 1 := w64 (by omega) (by omega)
 refine ⟨t, h1, ?_, ?_⟩
 ·unfold spec_TableOpen.f spec_l8Find.f
  simp only [hw]
  exact Ev.bind h2 (Ev.now _)
 ·unfold impl_Page_tableOpen.f
  rw [show impl_Page_openAt (⟨#[116, 97, 98, 108, 101]⟩ : ByteArray) L O F a b O.length = some t from h3]
  rfl
theorem Kid_loop (K : List Int) (x : Int) (hK : K.length ≤ 1048576) (i : Nat) (h : First K x i) : ∀ d j, i - j = d → j ≤ i → Ev (fun k => spec_l9Kid.l0 k x K (j : Int)) (i : Int) := by
 have hw : wrap64 ((K.length : Int) - 1) = (K.length : Int) - 1 := w64 (by have := h.1; omega) (by omega)
 have hi := h.1
 intro d
 induction d with
 | zero =>
  intro j hd hj
  obtain rfl : j = i := by omega
  refine Ev.here fun k => ?_
  simp only [spec_l9Kid.l0, hw]
  by_cases c : (j : Int) < (K.length : Int) - 1
  ·rw [if_pos c, if_pos (by omega), if_pos (by omega), if_pos h.2.1]
  ·rw [if_neg c]
 | succ d ih =>
  intro j hd hj
  have hs : wrap64 ((j : Int) + 1) = ((j + 1 : Nat) : Int) := succ64 (by omega)
  refine Ev.step (fun k => ?_) (ih (j + 1) (by omega) (by omega))
  simp only [spec_l9Kid.l0, hw, hs]
  rw [if_pos (by omega), if_pos (by omega), if_pos (by omega), if_neg (h.2.2 j (by omega))]
theorem place_same (L : List S50) (O F : List Int) (a b : Int) (hS : Small L) (hN : Named L) (hO : O.length ≤ 1048576) (hR : Right L) (hT : Tags L O) :
  ∃ p q : Int, Ev (fun k => spec_l9Place.f k L O F a b) (p, q) ∧ Ev (fun k => impl_Page_place.f k L O F a b) (p, q, a, b) := by
 have hL := hS.1
 obtain ⟨t, h1, h2, h3⟩ := open_same L hL O F a b hO hT
 have e1 := in_spec L O F a b hO hT
 have e2 := in_impl L hL hN O F a b hO hT
 have e3 := last_impl L O F a b hO
 have jf : Ev (fun k => spec_l9Place.j0 k t false L O F a b) (lastV O, -1) := Ev.here fun k => by
  unfold spec_l9Place.j0
  refine (if_neg Bool.false_ne_true).trans ?_
  unfold lastV
  by_cases c : O.length = 0
  ·rw [if_pos c, if_pos (by omega)]
  ·rw [if_neg c, if_neg (by omega), len_wrap O hO c, if_pos (by omega), if_pos (by omega)]
 unfold spec_l9Place.f impl_Page_place.f
 simp only [e1, e2, e3, h3, Option.bind_some]
 cases tb (lastN L O) with
 | false => exact ⟨lastV O, -1, Ev.bind h2 (Ev.ite_neg Bool.false_ne_true jf), Ev.ite_neg Bool.false_ne_true (Ev.now _)⟩
 | true =>
  rcases h1 with rfl | ⟨j, hj, rfl⟩
  ·exact ⟨lastV O, -1, Ev.bind h2 (Ev.ite_pos rfl jf), Ev.ite_pos rfl (Ev.ite_pos (by omega) (Ev.now _))⟩
  ·obtain ⟨g0, g1, g2⟩ := tag_in (hT j hj)
   have hx : it L (rd O (j : Int)).toNat = rd_T50 L (rd O (j : Int)) := it_toNat L g0
   have hlt : (rd O (j : Int)).toNat < L.length := by omega
   have hne : ¬ (rd O (j : Int)).toNat = 0 := fun q => by
    rw [q] at hx
    have := hR.2.1
    rw [hx, g2] at this
    omega
   have hu := (hR.2.2.2.1 _ hlt).1
   unfold UpOk at hu
   rw [if_neg hne, hx, ofNat_of _ g0] at hu
   obtain ⟨u0, u1, u2⟩ := hu
   have hm := List.count_pos_iff.mp (show 0 < List.count (rd O (j : Int)) (rd_T50 L (rd_T50 L (rd O (j : Int))).f5).f6 by omega)
   have hK : (rd_T50 L (rd_T50 L (rd O (j : Int))).f5).f6.length ≤ 1048576 := by
    rw [← it_toNat L u0]; exact (it_small hS (by omega)).2
   obtain ⟨m, hm1, hm2⟩ := List.getElem_of_mem hm
   obtain ⟨i, f1, f2⟩ := Index_tells _ (rd O (j : Int)) hK ⟨m, hm1, by rw [rdI _ m hm1]; exact hm2⟩
   have f3 := Kid_loop _ _ hK i f1 i 0 (by omega) (by omega)
   refine ⟨(rd_T50 L (rd O (j : Int))).f5, (i : Int), Ev.bind h2 (Ev.ite_pos rfl ?_), Ev.ite_pos rfl (Ev.ite_neg (by omega) (Ev.ite_pos (by omega) (Ev.ite_pos (by omega) (Ev.ite_pos g0 (Ev.ite_pos g1 (Ev.ite_pos u0 (Ev.ite_pos u1 (Ev.bind f2 (Ev.now _)))))))))⟩
   rw [decide_eq_true (show (j : Int) ≥ 0 by omega)]
   refine Ev.step (f := fun k => (spec_l9Kid.f k L (rd O (j : Int))).bind fun t => some ((rd_T50 L (rd O (j : Int))).f5, t)) (fun k => ?_) (Ev.bind ?_ (Ev.now _))
   ·unfold spec_l9Place.j0
    refine (if_pos rfl).trans ?_
    rw [if_pos (by omega), if_pos (by omega), if_pos g0, if_pos g1]
   ·unfold spec_l9Kid.f
    exact Ev.ite_pos g0 (Ev.ite_pos g1 (Ev.ite_pos u0 (Ev.ite_pos u1 f3)))
theorem Place_same (L : List S50) (O F : List Int) (a b : Int) (hS : Small L) (hN : Named L) (hO : O.length ≤ 1048576) (hF : F.length ≤ 1048576) :
  ∃ p q : Int, Ev (fun k => spec_Place.f k L O F a b) (p, q) ∧ Ev (fun k => impl_Place.f k L O F a b) (p, q) := by
 obtain ⟨v, h1, h2, h3⟩ := PageOk_tells L O F a b hS hN hO hF
 unfold spec_Place.f impl_Place.f
 cases v with
 | false => exact ⟨0, -1, Ev.bind h2 (Ev.ite_neg Bool.false_ne_true (Ev.now _)), Ev.bind h3 (Ev.ite_neg Bool.false_ne_true (Ev.now _))⟩
 | true =>
  obtain ⟨hR, hT⟩ := h1 rfl
  obtain ⟨p, q, e1, e2⟩ := place_same L O F a b hS hN hO hR hT
  exact ⟨p, q, Ev.bind h2 (Ev.ite_pos rfl (Ev.bind e1 (Ev.now _))), Ev.bind h3 (Ev.ite_pos rfl (Ev.bind e2 (Ev.now _)))⟩
theorem szIntS_tells (xs : List Int) (left : Int) (hl : xs.length ≤ maxLen) (h0 : 0 ≤ left) (h1 : left ≤ 1048576) : ∃ t, laws_szIntS.f xs left = some t ∧ t ≤ 1048576 ∧ (¬ t < 0 → xs.length ≤ 1048576) := by
 unfold maxLen at hl
 have hw : wrap64 (left - (xs.length : Int)) = left - (xs.length : Int) := w64 (by omega) (by omega)
 unfold laws_szIntS.f
 rw [hw]
 by_cases c : left - (xs.length : Int) < 0
 ·exact ⟨-1, by rw [if_pos c], by omega, fun h => absurd (show (-1 : Int) < 0 by omega) h⟩
 ·exact ⟨left - (xs.length : Int), by rw [if_neg c], by omega, fun _ => by omega⟩
theorem szPage_tells (n : Nat) (x : S35) (h : G35 maxLen n x) : ∃ t, Ev (fun k => laws_szPage.f k x.f0 x.f1 x.f2 x.f3 x.f4 1048576) t ∧ (¬ t < 0 → (x.f0.length ≤ 1048576 ∧ ∀ y ∈ x.f0, G47 1048576 n y) ∧ x.f1.length ≤ 1048576 ∧ x.f2.length ≤ 1048576) := by
 obtain ⟨⟨h1, h2⟩, ⟨h3, _⟩, ⟨h4, _⟩, _⟩ := h
 unfold laws_szPage.f
 obtain ⟨t, et, _, t1, tq⟩ := szItemS_tells n x.f0 1048576 h1 h2 (by omega) (by omega)
 by_cases c : t < 0
 ·exact ⟨-1, Ev.bind et (Ev.ite_pos c (Ev.now _)), fun q => absurd (show (-1 : Int) < 0 by omega) q⟩
 obtain ⟨u, eu, u1, uq⟩ := szIntS_tells x.f1 t h3 (by omega) (by omega)
 by_cases d : u < 0
 ·exact ⟨-1, Ev.bind et (Ev.ite_neg c (Ev.opt eu (Ev.ite_pos d (Ev.now _)))), fun q => absurd (show (-1 : Int) < 0 by omega) q⟩
 obtain ⟨v, ev, v1, vq⟩ := szIntS_tells x.f2 u h4 (by omega) u1
 by_cases e : v < 0
 ·exact ⟨-1, Ev.bind et (Ev.ite_neg c (Ev.opt eu (Ev.ite_neg d (Ev.opt ev (Ev.ite_pos e (Ev.now _)))))), fun q => absurd (show (-1 : Int) < 0 by omega) q⟩
 ·exact ⟨v, Ev.bind et (Ev.ite_neg c (Ev.opt eu (Ev.ite_neg d (Ev.opt ev (Ev.ite_neg e (Ev.now _)))))), fun _ => ⟨tq (by omega), uq d, vq e⟩⟩
theorem FnExactPlace : laws_FnExactPlace.Pure := by
 intro n x hx
 suffices h : Ev (fun k => laws_FnExactPlace.f k x.f0 x.f1 x.f2 x.f3 x.f4) true from h.rounds
 unfold laws_FnExactPlace.f
 obtain ⟨t, et, tq⟩ := szPage_tells n x hx
 by_cases c : t < 0
 ·exact Ev.bind et (Ev.ite_pos c (Ev.now _))
 obtain ⟨⟨q1, q2⟩, q3, q4⟩ := tq c
 obtain ⟨s1, s2⟩ := toItems_small n x.f0 q1 q2
 have hN : Named (x.f0.map toI) := fun i hi => by
  obtain ⟨_, _, g2, _⟩ := s2 _ (List.getElem_mem hi)
  rw [it_get hi]; exact g2
 have e2 : Ev (fun k => laws_toPage.f k x.f0 x.f1 x.f2 x.f3 x.f4) (x.f0.map toI, x.f1, x.f2, x.f3, x.f4) := by
  unfold laws_toPage.f
  exact Ev.bind (toItemS_tells n x.f0 q1 q2) (Ev.bind (toIntS_tells x.f1 q3) (Ev.bind (toIntS_tells x.f2 q4) (Ev.now _)))
 obtain ⟨p, q, e3, e4⟩ := Place_same (x.f0.map toI) x.f1 x.f2 x.f3 x.f4 s1 hN q3 q4
 have e5 : Ev (fun k => laws_eqPage.f k (x.f0.map toI) x.f1 x.f2 x.f3 x.f4 (x.f0.map toI) x.f1 x.f2 x.f3 x.f4) true := by
  unfold laws_eqPage.f
  exact Ev.bind (eqItemS_self n _ s1.1 s2) (Ev.ite_pos rfl (Ev.bind (eqIntS_self x.f1 q3) (Ev.ite_pos rfl (Ev.bind (eqIntS_self x.f2 q4) (Ev.ite_pos rfl (Ev.ite_pos rfl (Ev.ite_pos rfl (Ev.now _))))))))
 have e6 : Ev (fun k => laws_FnExactPlace.j0 k (q != q) x.f0 x.f1 x.f2 x.f3 x.f4 (x.f0.map toI) x.f1 x.f2 x.f3 x.f4) true := by
  refine Ev.step (f := fun k => (laws_toPage.f k x.f0 x.f1 x.f2 x.f3 x.f4).bind fun b => (laws_eqPage.f k (x.f0.map toI) x.f1 x.f2 x.f3 x.f4 b.1 b.2.1 b.2.2.1 b.2.2.2.1 b.2.2.2.2).bind fun t => if t = true then some true else some false) (fun k => ?_) (Ev.bind e2 (Ev.bind e5 (Ev.ite_pos rfl (Ev.now _))))
  rw [bne_self_eq_false]
  unfold laws_FnExactPlace.j0
  exact if_neg Bool.false_ne_true
 exact Ev.bind et (Ev.ite_neg c (Ev.bind e2 (Ev.bind e3 (Ev.bind e2 (Ev.bind e4 (Ev.ite_pos rfl e6))))))
end Go.Proofs.Ytgljgbkbjlondaa.Pure
