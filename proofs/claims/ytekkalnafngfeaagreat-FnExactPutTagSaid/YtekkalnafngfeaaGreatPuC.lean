/- A tag that was hung into a right page is opened: its number behind what is open. The page stays right. The place of a right page: the program's place and the reference's tell the same, and it is an item that may have kids. -/
import Derived.Test.YtekkalnafngfeaaGreatPuB
import Derived.Test.YtekkalnafngfeaaGreatPuA
import Derived.Test.YtekkalnafngfeaaGreatPt36
import Derived.Test.YtekkalnafngfeaaGreatPt8
set_option linter.unusedVariables false
set_option linter.unusedSimpArgs false
namespace Go.Proofs.YtekkalnafngfeaaGreat.Pg
open Go.RowKit Go.Proofs.YtekkalnafngfeaaGreat.P Go.Proofs.YtekkalnafngfeaaGreat.Evs Go.Proofs.YtekkalnafngfeaaGreat.Tr Go.Proofs.YtekkalnafngfeaaGreatW.PrintWords Go.Proofs.YtekkalnafngfeaaGreatW.PrintLast

theorem rd_snoc_lt (O : List Int) (n : Int) {i : Nat} (hi : i < O.length) : rd (O ++ [n]) (i : Int) = rd O (i : Int) := by
 unfold rd
 simp [List.getD_eq_getElem?_getD, List.getElem?_append_left hi]
theorem rd_snoc_end (O : List Int) (n : Int) : rd (O ++ [n]) (O.length : Int) = n := by
 unfold rd
 simp [List.getD_eq_getElem?_getD]
theorem tag_new (L : List S53) (u h : Nat) (x : S53) (hu : u < L.length) (h0 : x.f0 = 2) : tag (addL L u h x) (L.length : Int) (⟨#[]⟩ : ByteArray) = true := by
 have e : rd_T53 (addL L u h x) (L.length : Int) = x := by
  have := it_addL L u h x hu L.length
  rw [if_neg (by omega), if_pos rfl] at this
  exact this
 unfold tag
 rw [e, addL_length]
 simp [h0, nil_list]
theorem PageR_open {L : List S53} {O F : List Int} {hd bd : Int} (hP : PageR L O F hd bd) (n : Int) (ht : tag L n (⟨#[]⟩ : ByteArray) = true) (hn : ∀ j : Nat, j < O.length → ¬ rd O (j : Int) = n) (hl : O.length < 40) : PageR L (O ++ [n]) F hd bd := by
 obtain ⟨c1, c2, f1, f2, f3, f4, hR⟩ := hP
 have ho : ∀ j : Nat, j < O.length → O.count (rd O (j : Int)) = 1 := fun j hj => (c1 j (by omega) (by omega)).2
 have h1 := (once_iff O).mp ho
 have h2 : ∀ j : Nat, j < (O ++ [n]).length → (O ++ [n]).count (rd (O ++ [n]) (j : Int)) = 1 := by
  refine (once_iff (O ++ [n])).mpr (fun j hj i hij => ?_)
  rw [List.length_append, List.length_singleton] at hj
  rw [rd_snoc_lt O n (show i < O.length by omega)]
  by_cases e : j = O.length
  ·subst e; rw [rd_snoc_end]; exact hn i hij
  ·rw [rd_snoc_lt O n (show j < O.length by omega)]; exact h1 j (by omega) i hij
 refine ⟨fun j q1 q2 => ⟨?_, h2 j (by omega)⟩, c2, by rw [List.length_append, List.length_singleton]; omega, f2, f3, f4, hR⟩
 rw [List.length_append, List.length_singleton] at q2
 by_cases e : j = O.length
 ·subst e; rw [rd_snoc_end]; exact ht
 ·rw [rd_snoc_lt O n (show j < O.length by omega)]; exact (c1 j (by omega) (by omega)).1
/-- The tag hung into the page is opened. -/
theorem PageR_tag {L : List S53} {O F : List Int} {hd bd : Int} (u h : Nat) (x : S53) (hP : PageR L O F hd bd) (hQ : PageR (addL L u h x) O F hd bd) (hu : u < L.length) (h0 : x.f0 = 2) (hl : O.length < 40) : PageR (addL L u h x) (O ++ [(L.length : Int)]) F hd bd := by
 refine PageR_open hQ _ (tag_new L u h x hu h0) (fun j hj e => ?_) hl
 have := (tag_parts (hP.1 j (by omega) (by omega)).1).2.1
 omega
end Go.Proofs.YtekkalnafngfeaaGreat.Pg
namespace Go.Proofs.YtekkalnafngfeaaGreat.Pg
open Go.RowKit Go.Proofs.YtekkalnafngfeaaGreat.P Go.Proofs.YtekkalnafngfeaaGreat.Evs Go.Proofs.YtekkalnafngfeaaGreat.It Go.Proofs.YtekkalnafngfeaaGreat.Tr Go.Proofs.YtekkalnafngfeaaGreatW.PrintWords Go.Proofs.YtekkalnafngfeaaGreatW.PrintLast

def Tags (L : List S53) (O : List Int) : Prop := ∀ j, j < O.length → tag L (rd O (j : Int)) (⟨#[]⟩ : ByteArray) = true
def nm (L : List S53) (O : List Int) (i : Nat) : ByteArray := (rd_T53 L (rd O (i : Int))).f2
theorem name_spec (L : List S53) (O F : List Int) (a b : Int) (hT : Tags L O) (i : Nat) (hi : i < O.length) : spec_l8Name.f L O F a b (i : Int) = some (nm L O i) := by
 obtain ⟨h0, h1, _⟩ := tag_in (hT i hi)
 unfold spec_l8Name.f
 rw [if_neg (by omega), if_neg (by omega), if_pos (by omega), if_pos (by omega), if_neg (by omega), if_neg (by omega), if_pos h0, if_pos h1]
 rfl
theorem name_impl (L : List S53) (hL : L.length ≤ 1048576) (O F : List Int) (a b : Int) (hT : Tags L O) (i : Nat) (hi : i < O.length) : impl_Page_nameOf.f L O F a b (i : Int) = some (nm L O i, a, b) := by
 obtain ⟨h0, h1, _⟩ := tag_in (hT i hi)
 have hw : wrap64 ((L.length : Int) - 1) = (L.length : Int) - 1 := w64 (by omega) (by omega)
 unfold impl_Page_nameOf.f
 rw [if_pos (by omega), if_pos (by omega), hw, inRange_eq]
 simp only [Option.bind_some]
 rw [decide_eq_true (show 0 ≤ rd O (i : Int) ∧ rd O (i : Int) ≤ (L.length : Int) - 1 by omega), if_pos rfl, if_pos h0, if_pos h1]
 rfl
def lastN (L : List S53) (O : List Int) : ByteArray := if O.length = 0 then (⟨#[]⟩ : ByteArray) else nm L O (O.length - 1)
theorem len_wrap (O : List Int) (hO : O.length ≤ 1048576) (h : ¬ O.length = 0) : wrap64 ((O.length : Int) - 1) = ((O.length - 1 : Nat) : Int) := by
 rw [w64 (by omega) (by omega)]; omega
theorem lastN_spec (L : List S53) (O F : List Int) (a b : Int) (hO : O.length ≤ 1048576) (hT : Tags L O) : spec_l8Last.f L O F a b = some (lastN L O) := by
 unfold spec_l8Last.f lastN
 by_cases c : O.length = 0
 ·rw [if_pos c, show wrap64 ((O.length : Int) - 1) = -1 by rw [w64 (by omega) (by omega)]; omega]
  rfl
 ·rw [if_neg c, len_wrap O hO c, name_spec L O F a b hT _ (by omega)]
  rfl
theorem lastN_impl (L : List S53) (hL : L.length ≤ 1048576) (O F : List Int) (a b : Int) (hO : O.length ≤ 1048576) (hT : Tags L O) : impl_Page_lastName.f L O F a b = some (lastN L O, a, b) := by
 unfold impl_Page_lastName.f lastN
 by_cases c : O.length = 0
 ·rw [if_pos c, if_pos (by omega)]
 ·rw [if_neg c, if_neg (by omega), len_wrap O hO c, name_impl L hL O F a b hT _ (by omega)]
  rfl
theorem last_impl (L : List S53) (O F : List Int) (a b : Int) (hO : O.length ≤ 1048576) : impl_Page_last.f L O F a b = some (lastV O, a, b) := by
 unfold impl_Page_last.f lastV
 by_cases c : O.length = 0
 ·rw [if_pos c, if_pos (by omega)]
 ·rw [if_neg c, if_neg (by omega), len_wrap O hO c, if_pos (by omega), if_pos (by omega)]
def tb (n : ByteArray) : Bool := [[116, 97, 98, 108, 101], [116, 98, 111, 100, 121], [116, 114]].any (n.toList == ·)
theorem in_spec (L : List S53) (O F : List Int) (a b : Int) (hO : O.length ≤ 1048576) (hT : Tags L O) : spec_InTable.f L O F a b = some (tb (lastN L O)) := by
 unfold spec_InTable.f tb
 rw [lastN_spec L O F a b hO hT]
 simp only [Option.bind_some, List.any_cons, List.any_nil, Bool.or_false]
 by_cases c : (lastN L O).toList = [116, 97, 98, 108, 101]
 ·rw [if_pos c, c]; rfl
 ·rw [if_neg c, beq_eq_false_iff_ne.mpr c, Bool.false_or]
  by_cases d : (lastN L O).toList = [116, 98, 111, 100, 121]
  ·rw [if_pos d, d]; rfl
  ·rw [if_neg d, beq_eq_false_iff_ne.mpr d, Bool.false_or]
theorem in_impl (L : List S53) (hL : L.length ≤ 1048576) (hN : Named L) (O F : List Int) (a b : Int) (hO : O.length ≤ 1048576) (hT : Tags L O) : impl_Page_inTable.f L O F a b = some (tb (lastN L O), a, b) := by
 have hs : (lastN L O).size ≤ 1048576 := by
  unfold lastN
  by_cases c : O.length = 0
  ·rw [if_pos c]; decide
  ·rw [if_neg c]
   obtain ⟨h0, h1, _⟩ := tag_in (hT (O.length - 1) (by omega))
   unfold nm
   rw [← it_toNat L h0]; exact hN _ (by omega)
 unfold impl_Page_inTable.f
 rw [lastN_impl L hL O F a b hO hT]
 simp only [Option.bind_some]
 rw [Sg.isOneOf_tells (lastN L O) _ [[116, 97, 98, 108, 101], [116, 98, 111, 100, 121], [116, 114]] hs (by decide) (by decide) (by decide) (by decide)]
 rfl
def tn : ByteArray := (⟨#[116, 97, 98, 108, 101]⟩ : ByteArray)
theorem find_same (L : List S53) (hL : L.length ≤ 1048576) (O F : List Int) (a b : Int) (hO : O.length ≤ 1048576) (hT : Tags L O) : ∀ j, j ≤ O.length → ∃ t : Int, (t = -1 ∨ ∃ i : Nat, i < O.length ∧ t = (i : Int)) ∧ Ev (fun k => spec_l8Find.l0 k tn ((j : Int) - 1) L O F a b) t ∧ impl_Page_openAt tn L O F a b j = some t
 | 0, _ => ⟨-1, Or.inl rfl, Ev.here fun k => by simp only [spec_l8Find.l0]; rw [if_neg (by omega)]; rfl, rfl⟩
 | j + 1, h => by
  have hj : ((j + 1 : Nat) : Int) - 1 = (j : Int) := by omega
  have hw : wrap64 ((j : Int) - 1) = (j : Int) - 1 := w64 (by omega) (by omega)
  rw [hj]
  have en := name_spec L O F a b hT j (by omega)
  have ei := name_impl L hL O F a b hT j (by omega)
  by_cases c : (nm L O j).toList = tn.toList
  ·refine ⟨(j : Int), Or.inr ⟨j, by omega, rfl⟩, Ev.here fun k => ?_, ?_⟩
   ·simp only [spec_l8Find.l0]
    rw [if_pos (by omega), en]
    simp only [Option.bind_some]
    rw [if_pos c]
   ·unfold impl_Page_openAt
    rw [ei]
    simp only [Option.bind_some]
    rw [if_pos (beq_iff_eq.mpr c)]
  ·obtain ⟨t, h1, h2, h3⟩ := find_same L hL O F a b hO hT j (by omega)
   refine ⟨t, h1, Ev.step (fun k => ?_) h2, ?_⟩
   ·simp only [spec_l8Find.l0]
    rw [if_pos (by omega), en]
    simp only [Option.bind_some]
    rw [if_neg c, hw]
   ·unfold impl_Page_openAt
    rw [ei]
    simp only [Option.bind_some]
    rw [if_neg (by rw [beq_eq_false_iff_ne.mpr c]; exact Bool.false_ne_true), h3]
theorem open_same (L : List S53) (hL : L.length ≤ 1048576) (O F : List Int) (a b : Int) (hO : O.length ≤ 1048576) (hT : Tags L O) : ∃ t : Int, (t = -1 ∨ ∃ i : Nat, i < O.length ∧ t = (i : Int)) ∧ Ev (fun k => spec_TableOpen.f k L O F a b) t ∧ impl_Page_tableOpen.f L O F a b = some (t, a, b) := by
 obtain ⟨t, h1, h2, h3⟩ := find_same L hL O F a b hO hT O.length (Nat.le_refl _)
 have hw : wrap64 ((O.length : Int) - 1) = (O.length : Int) - 1 := w64 (by omega) (by omega)
 refine ⟨t, h1, ?_, ?_⟩
 ·unfold spec_TableOpen.f spec_l8Find.f
  simp only [hw]
  exact Ev.bind h2 (Ev.now _)
 ·unfold impl_Page_tableOpen.f
  rw [show impl_Page_openAt (⟨#[116, 97, 98, 108, 101]⟩ : ByteArray) L O F a b O.length = some t from h3]
  rfl
theorem Kid_loop (K : List Int) (x : Int) (hK : K.length ≤ 1048576) (i : Nat) (h : First K x i) : ∀ d j, i - j = d → j ≤ i → Ev (fun k => spec_l9Kid.l0 k x K (j : Int)) (i : Int) := by
 have hw : wrap64 ((K.length : Int) - 1) = (K.length : Int) - 1 := w64 (by have := h.1; omega) (by omega)
 have hi := h.1
 intro d
 induction d with
 | zero =>
  intro j hd hj
  obtain rfl : j = i := by omega
  refine Ev.here fun k => ?_
  simp only [spec_l9Kid.l0, hw]
  by_cases c : (j : Int) < (K.length : Int) - 1
  ·rw [if_pos c, if_pos (by omega), if_pos (by omega), if_pos h.2.1]
  ·rw [if_neg c]
 | succ d ih =>
  intro j hd hj
  have hs : wrap64 ((j : Int) + 1) = ((j + 1 : Nat) : Int) := succ64 (by omega)
  refine Ev.step (fun k => ?_) (ih (j + 1) (by omega) (by omega))
  simp only [spec_l9Kid.l0, hw, hs]
  rw [if_pos (by omega), if_pos (by omega), if_pos (by omega), if_neg (h.2.2 j (by omega))]
theorem kids_kind {x : S53} (h : Plain x) (hk : ¬ x.f6 = []) : x.f0 = 1 ∨ x.f0 = 2 := by
 unfold Plain at h
 by_cases c1 : x.f0 = 1
 ·exact Or.inl c1
 by_cases c2 : x.f0 = 2
 ·exact Or.inr c2
 exfalso
 apply hk
 simp_all
theorem place_up (L : List S53) (O F : List Int) (a b : Int) (hS : Small L) (hN : Named L) (hO : O.length ≤ 1048576) (hR : Right L) (hT : Tags L O) (hV : ∃ u : Nat, lastV O = (u : Int) ∧ u < L.length ∧ ((it L u).f0 = 1 ∨ (it L u).f0 = 2)) :
  ∃ p q : Int, (∃ u : Nat, p = (u : Int) ∧ u < L.length ∧ ((it L u).f0 = 1 ∨ (it L u).f0 = 2)) ∧ Ev (fun k => spec_l9Place.f k L O F a b) (p, q) ∧ Ev (fun k => impl_Page_place.f k L O F a b) (p, q, a, b) := by
 have hL := hS.1
 obtain ⟨t, h1, h2, h3⟩ := open_same L hL O F a b hO hT
 have e1 := in_spec L O F a b hO hT
 have e2 := in_impl L hL hN O F a b hO hT
 have e3 := last_impl L O F a b hO
 have jf : Ev (fun k => spec_l9Place.j0 k t false L O F a b) (lastV O, -1) := Ev.here fun k => by
  unfold spec_l9Place.j0
  refine (if_neg Bool.false_ne_true).trans ?_
  unfold lastV
  by_cases c : O.length = 0
  ·rw [if_pos c, if_pos (by omega)]
  ·rw [if_neg c, if_neg (by omega), len_wrap O hO c, if_pos (by omega), if_pos (by omega)]
 unfold spec_l9Place.f impl_Page_place.f
 simp only [e1, e2, e3, h3, Option.bind_some]
 cases tb (lastN L O) with
 | false => exact ⟨lastV O, -1, hV, Ev.bind h2 (Ev.ite_neg Bool.false_ne_true jf), Ev.ite_neg Bool.false_ne_true (Ev.now _)⟩
 | true =>
  rcases h1 with rfl | ⟨j, hj, rfl⟩
  ·exact ⟨lastV O, -1, hV, Ev.bind h2 (Ev.ite_pos rfl jf), Ev.ite_pos rfl (Ev.ite_pos (by omega) (Ev.now _))⟩
  ·obtain ⟨g0, g1, g2⟩ := tag_in (hT j hj)
   have hx : it L (rd O (j : Int)).toNat = rd_T53 L (rd O (j : Int)) := it_toNat L g0
   have hlt : (rd O (j : Int)).toNat < L.length := by omega
   have hne : ¬ (rd O (j : Int)).toNat = 0 := fun q => by
    rw [q] at hx
    have := hR.2.1
    rw [hx, g2] at this
    omega
   have hu := (hR.2.2.2.1 _ hlt).1
   unfold UpOk at hu
   rw [if_neg hne, hx, ofNat_of _ g0] at hu
   obtain ⟨u0, u1, u2⟩ := hu
   have hm := List.count_pos_iff.mp (show 0 < List.count (rd O (j : Int)) (rd_T53 L (rd_T53 L (rd O (j : Int))).f5).f6 by omega)
   have hK : (rd_T53 L (rd_T53 L (rd O (j : Int))).f5).f6.length ≤ 1048576 := by
    rw [← it_toNat L u0]; exact (it_small hS (by omega)).2
   obtain ⟨m, hm1, hm2⟩ := List.getElem_of_mem hm
   obtain ⟨i, f1, f2⟩ := Index_tells _ (rd O (j : Int)) hK ⟨m, hm1, by rw [rdI _ m hm1]; exact hm2⟩
   have f3 := Kid_loop _ _ hK i f1 i 0 (by omega) (by omega)
   have hk : (it L (rd_T53 L (rd O (j : Int))).f5.toNat).f0 = 1 ∨ (it L (rd_T53 L (rd O (j : Int))).f5.toNat).f0 = 2 := by
    refine kids_kind (hR.2.2.1 _ (by omega)).1 ?_
    rw [it_toNat L u0]; intro q; rw [q] at hm1; simp at hm1
   refine ⟨(rd_T53 L (rd O (j : Int))).f5, (i : Int), ⟨(rd_T53 L (rd O (j : Int))).f5.toNat, (Int.toNat_of_nonneg u0).symm, by omega, hk⟩, Ev.bind h2 (Ev.ite_pos rfl ?_), Ev.ite_pos rfl (Ev.ite_neg (by omega) (Ev.ite_pos (by omega) (Ev.ite_pos (by omega) (Ev.ite_pos g0 (Ev.ite_pos g1 (Ev.ite_pos u0 (Ev.ite_pos u1 (Ev.bind f2 (Ev.now _)))))))))⟩
   rw [decide_eq_true (show (j : Int) ≥ 0 by omega)]
   refine Ev.step (f := fun k => (spec_l9Kid.f k L (rd O (j : Int))).bind fun t => some ((rd_T53 L (rd O (j : Int))).f5, t)) (fun k => ?_) (Ev.bind ?_ (Ev.now _))
   ·unfold spec_l9Place.j0
    refine (if_pos rfl).trans ?_
    rw [if_pos (by omega), if_pos (by omega), if_pos g0, if_pos g1]
   ·unfold spec_l9Kid.f
    exact Ev.ite_pos g0 (Ev.ite_pos g1 (Ev.ite_pos u0 (Ev.ite_pos u1 f3)))
end Go.Proofs.YtekkalnafngfeaaGreat.Pg
