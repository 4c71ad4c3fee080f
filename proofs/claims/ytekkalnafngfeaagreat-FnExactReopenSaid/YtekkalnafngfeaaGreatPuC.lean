/- A tag that was hung into a right page is opened: its number behind what is open. The page stays right. The place of a right page: the program's place and the reference's tell the same, and it is an item that may have kids. Pages copied, an item hung: what the program's functions and the reference's tell. No conditions but the sizes. A page measured, copied, compared, marked by the law's own functions. No conditions but the sizes. -/
import Derived.Test.YtekkalnafngfeaaGreatPuB
import Derived.Test.YtekkalnafngfeaaGreatPuA
import Derived.Test.YtekkalnafngfeaaGreatPr2
import Derived.Test.YtekkalnafngfeaaGreatPr13
import Derived.Test.YtekkalnafngfeaaGreatPr15
import Derived.Test.YtekkalnafngfeaaGreatPr20
import Derived.Test.YtekkalnafngfeaaGreatPr26
import Derived.Test.YtekkalnafngfeaaGreatPr44
import Derived.Test.YtekkalnafngfeaaGreatPr46
import Derived.Test.YtekkalnafngfeaaGreatPr10
set_option linter.unusedVariables false
set_option linter.unusedSimpArgs false
namespace Go.Proofs.YtekkalnafngfeaaGreat.Pg
open Go.RowKit Go.Proofs.YtekkalnafngfeaaGreat.P Go.Proofs.YtekkalnafngfeaaGreat.Evs Go.Proofs.YtekkalnafngfeaaGreat.Tr Go.Proofs.YtekkalnafngfeaaGreatW.PrintWords Go.Proofs.YtekkalnafngfeaaGreatW.PrintLast

theorem rd_snoc_lt (O : List Int) (n : Int) {i : Nat} (hi : i < O.length) : rd (O ++ [n]) (i : Int) = rd O (i : Int) := by
 unfold rd
 simp [List.getD_eq_getElem?_getD, List.getElem?_append_left hi]
theorem rd_snoc_end (O : List Int) (n : Int) : rd (O ++ [n]) (O.length : Int) = n := by
 unfold rd
 simp [List.getD_eq_getElem?_getD]
theorem tag_new (L : List S53) (u h : Nat) (x : S53) (hu : u < L.length) (h0 : x.f0 = 2) : tag (addL L u h x) (L.length : Int) (⟨#[]⟩ : ByteArray) = true := by
 have e : rd_T53 (addL L u h x) (L.length : Int) = x := by
  have := it_addL L u h x hu L.length
  rw [if_neg (by omega), if_pos rfl] at this
  exact this
 unfold tag
 rw [e, addL_length]
 simp [h0, nil_list]
theorem PageR_open {L : List S53} {O F : List Int} {hd bd : Int} (hP : PageR L O F hd bd) (n : Int) (ht : tag L n (⟨#[]⟩ : ByteArray) = true) (hn : ∀ j : Nat, j < O.length → ¬ rd O (j : Int) = n) (hl : O.length < 40) : PageR L (O ++ [n]) F hd bd := by
 obtain ⟨c1, c2, f1, f2, f3, f4, hR⟩ := hP
 have ho : ∀ j : Nat, j < O.length → O.count (rd O (j : Int)) = 1 := fun j hj => (c1 j (by omega) (by omega)).2
 have h1 := (once_iff O).mp ho
 have h2 : ∀ j : Nat, j < (O ++ [n]).length → (O ++ [n]).count (rd (O ++ [n]) (j : Int)) = 1 := by
  refine (once_iff (O ++ [n])).mpr (fun j hj i hij => ?_)
  rw [List.length_append, List.length_singleton] at hj
  rw [rd_snoc_lt O n (show i < O.length by omega)]
  by_cases e : j = O.length
  ·subst e; rw [rd_snoc_end]; exact hn i hij
  ·rw [rd_snoc_lt O n (show j < O.length by omega)]; exact h1 j (by omega) i hij
 refine ⟨fun j q1 q2 => ⟨?_, h2 j (by omega)⟩, c2, by rw [List.length_append, List.length_singleton]; omega, f2, f3, f4, hR⟩
 rw [List.length_append, List.length_singleton] at q2
 by_cases e : j = O.length
 ·subst e; rw [rd_snoc_end]; exact ht
 ·rw [rd_snoc_lt O n (show j < O.length by omega)]; exact (c1 j (by omega) (by omega)).1
/-- The tag hung into the page is opened. -/
theorem PageR_tag {L : List S53} {O F : List Int} {hd bd : Int} (u h : Nat) (x : S53) (hP : PageR L O F hd bd) (hQ : PageR (addL L u h x) O F hd bd) (hu : u < L.length) (h0 : x.f0 = 2) (hl : O.length < 40) : PageR (addL L u h x) (O ++ [(L.length : Int)]) F hd bd := by
 refine PageR_open hQ _ (tag_new L u h x hu h0) (fun j hj e => ?_) hl
 have := (tag_parts (hP.1 j (by omega) (by omega)).1).2.1
 omega
end Go.Proofs.YtekkalnafngfeaaGreat.Pg
namespace Go.Proofs.YtekkalnafngfeaaGreat.Pg
open Go.RowKit Go.Proofs.YtekkalnafngfeaaGreat.P Go.Proofs.YtekkalnafngfeaaGreat.Evs Go.Proofs.YtekkalnafngfeaaGreat.It Go.Proofs.YtekkalnafngfeaaGreat.Tr Go.Proofs.YtekkalnafngfeaaGreatW.PrintWords Go.Proofs.YtekkalnafngfeaaGreatW.PrintLast

def Tags (L : List S53) (O : List Int) : Prop := ∀ j, j < O.length → tag L (rd O (j : Int)) (⟨#[]⟩ : ByteArray) = true
def nm (L : List S53) (O : List Int) (i : Nat) : ByteArray := (rd_T53 L (rd O (i : Int))).f2
theorem name_spec (L : List S53) (O F : List Int) (a b : Int) (hT : Tags L O) (i : Nat) (hi : i < O.length) : spec_l8Name.f L O F a b (i : Int) = some (nm L O i) := by
 obtain ⟨h0, h1, _⟩ := tag_in (hT i hi)
 unfold spec_l8Name.f
 rw [if_neg (by omega), if_neg (by omega), if_pos (by omega), if_pos (by omega), if_neg (by omega), if_neg (by omega), if_pos h0, if_pos h1]
 rfl
theorem name_impl (L : List S53) (hL : L.length ≤ 1048576) (O F : List Int) (a b : Int) (hT : Tags L O) (i : Nat) (hi : i < O.length) : impl_Page_nameOf.f L O F a b (i : Int) = some (nm L O i, a, b) := by
 obtain ⟨h0, h1, _⟩ := tag_in (hT i hi)
 have hw : wrap64 ((L.length : Int) - 1) = (L.length : Int) - 1 := w64 (by omega) (by omega)
 unfold impl_Page_nameOf.f
 rw [if_pos (by omega), if_pos (by omega), hw, inRange_eq]
 simp only [Option.bind_some]
 rw [decide_eq_true (show 0 ≤ rd O (i : Int) ∧ rd O (i : Int) ≤ (L.length : Int) - 1 by omega), if_pos rfl, if_pos h0, if_pos h1]
 rfl
def lastN (L : List S53) (O : List Int) : ByteArray := if O.length = 0 then (⟨#[]⟩ : ByteArray) else nm L O (O.length - 1)
theorem len_wrap (O : List Int) (hO : O.length ≤ 1048576) (h : ¬ O.length = 0) : wrap64 ((O.length : Int) - 1) = ((O.length - 1 : Nat) : Int) := by
 rw [w64 (by omega) (by omega)]; omega
theorem lastN_spec (L : List S53) (O F : List Int) (a b : Int) (hO : O.length ≤ 1048576) (hT : Tags L O) : spec_l8Last.f L O F a b = some (lastN L O) := by
 unfold spec_l8Last.f lastN
 by_cases c : O.length = 0
 ·rw [if_pos c, show wrap64 ((O.length : Int) - 1) = -1 by rw [w64 (by omega) (by omega)]; omega]
  rfl
 ·rw [if_neg c, len_wrap O hO c, name_spec L O F a b hT _ (by omega)]
  rfl
theorem lastN_impl (L : List S53) (hL : L.length ≤ 1048576) (O F : List Int) (a b : Int) (hO : O.length ≤ 1048576) (hT : Tags L O) : impl_Page_lastName.f L O F a b = some (lastN L O, a, b) := by
 unfold impl_Page_lastName.f lastN
 by_cases c : O.length = 0
 ·rw [if_pos c, if_pos (by omega)]
 ·rw [if_neg c, if_neg (by omega), len_wrap O hO c, name_impl L hL O F a b hT _ (by omega)]
  rfl
theorem last_impl (L : List S53) (O F : List Int) (a b : Int) (hO : O.length ≤ 1048576) : impl_Page_last.f L O F a b = some (lastV O, a, b) := by
 unfold impl_Page_last.f lastV
 by_cases c : O.length = 0
 ·rw [if_pos c, if_pos (by omega)]
 ·rw [if_neg c, if_neg (by omega), len_wrap O hO c, if_pos (by omega), if_pos (by omega)]
def tb (n : ByteArray) : Bool := [[116, 97, 98, 108, 101], [116, 98, 111, 100, 121], [116, 114]].any (n.toList == ·)
theorem in_spec (L : List S53) (O F : List Int) (a b : Int) (hO : O.length ≤ 1048576) (hT : Tags L O) : spec_InTable.f L O F a b = some (tb (lastN L O)) := by
 unfold spec_InTable.f tb
 rw [lastN_spec L O F a b hO hT]
 simp only [Option.bind_some, List.any_cons, List.any_nil, Bool.or_false]
 by_cases c : (lastN L O).toList = [116, 97, 98, 108, 101]
 ·rw [if_pos c, c]; rfl
 ·rw [if_neg c, beq_eq_false_iff_ne.mpr c, Bool.false_or]
  by_cases d : (lastN L O).toList = [116, 98, 111, 100, 121]
  ·rw [if_pos d, d]; rfl
  ·rw [if_neg d, beq_eq_false_iff_ne.mpr d, Bool.false_or]
theorem in_impl (L : List S53) (hL : L.length ≤ 1048576) (hN : Named L) (O F : List Int) (a b : Int) (hO : O.length ≤ 1048576) (hT : Tags L O) : impl_Page_inTable.f L O F a b = some (tb (lastN L O), a, b) := by
 have hs : (lastN L O).size ≤ 1048576 := by
  unfold lastN
  by_cases c : O.length = 0
  ·rw [if_pos c]; decide
  ·rw [if_neg c]
   obtain ⟨h0, h1, _⟩ := tag_in (hT (O.length - 1) (by omega))
   unfold nm
   rw [← it_toNat L h0]; exact hN _ (by omega)
 unfold impl_Page_inTable.f
 rw [lastN_impl L hL O F a b hO hT]
 simp only [Option.bind_some]
 rw [Sg.isOneOf_tells (lastN L O) _ [[116, 97, 98, 108, 101], [116, 98, 111, 100, 121], [116, 114]] hs (by decide) (by decide) (by decide) (by decide)]
 rfl
def tn : ByteArray := (⟨#[116, 97, 98, 108, 101]⟩ : ByteArray)
theorem find_same (L : List S53) (hL : L.length ≤ 1048576) (O F : List Int) (a b : Int) (hO : O.length ≤ 1048576) (hT : Tags L O) : ∀ j, j ≤ O.length → ∃ t : Int, (t = -1 ∨ ∃ i : Nat, i < O.length ∧ t = (i : Int)) ∧ Ev (fun k => spec_l8Find.l0 k tn ((j : Int) - 1) L O F a b) t ∧ impl_Page_openAt tn L O F a b j = some t
 | 0, _ => ⟨-1, Or.inl rfl, Ev.here fun k => by simp only [spec_l8Find.l0]; rw [if_neg (by omega)]; rfl, rfl⟩
 | j + 1, h => by
  have hj : ((j + 1 : Nat) : Int) - 1 = (j : Int) := by omega
  have hw : wrap64 ((j : Int) - 1) = (j : Int) - 1 := w64 (by omega) (by omega)
  rw [hj]
  have en := name_spec L O F a b hT j (by omega)
  have ei := name_impl L hL O F a b hT j (by omega)
  by_cases c : (nm L O j).toList = tn.toList
  ·refine ⟨(j : Int), Or.inr ⟨j, by omega, rfl⟩, Ev.here fun k => ?_, ?_⟩
   ·simp only [spec_l8Find.l0]
    rw [if_pos (by omega), en]
    simp only [Option.bind_some]
    rw [if_pos c]
   ·unfold impl_Page_openAt
    rw [ei]
    simp only [Option.bind_some]
    rw [if_pos (beq_iff_eq.mpr c)]
  ·obtain ⟨t, h1, h2, h3⟩ := find_same L hL O F a b hO hT j (by omega)
   refine ⟨t, h1, Ev.step (fun k => ?_) h2, ?_⟩
   ·simp only [spec_l8Find.l0]
    rw [if_pos (by omega), en]
    simp only [Option.bind_some]
    rw [if_neg c, hw]
   ·unfold impl_Page_openAt
    rw [ei]
    simp only [Option.bind_some]
    rw [if_neg (by rw [beq_eq_false_iff_ne.mpr c]; exact Bool.false_ne_true), h3]
theorem open_same (L : List S53) (hL : L.length ≤ 1048576) (O F : List Int) (a b : Int) (hO : O.length ≤ 1048576) (hT : Tags L O) : ∃ t : Int, (t = -1 ∨ ∃ i : Nat, i < O.length ∧ t = (i : Int)) ∧ Ev (fun k => spec_TableOpen.f k L O F a b) t ∧ impl_Page_tableOpen.f L O F a b = some (t, a, b) := by
 obtain ⟨t, h1, h2, h3⟩ := find_same L hL O F a b hO hT O.length (Nat.le_refl _)
 have hw : wrap64 ((O.length : Int) - 1) = (O.length : Int) - 1 := w64 (by omega) (by omega)
 refine ⟨t, h1, ?_, ?_⟩
 ·unfold spec_TableOpen.f spec_l8Find.f
  simp only [hw]
  exact Ev.bind h2 (Ev.now _)
 ·unfold impl_Page_tableOpen.f
  rw [show impl_Page_openAt (⟨#[116, 97, 98, 108, 101]⟩ : ByteArray) L O F a b O.length = some t from h3]
  rfl
theorem Kid_loop (K : List Int) (x : Int) (hK : K.length ≤ 1048576) (i : Nat) (h : First K x i) : ∀ d j, i - j = d → j ≤ i → Ev (fun k => spec_l9Kid.l0 k x K (j : Int)) (i : Int) := by
 have hw : wrap64 ((K.length : Int) - 1) = (K.length : Int) - 1 := w64 (by have := h.1; omega) (by omega)
 have hi := h.1
 intro d
 induction d with
 | zero =>
  intro j hd hj
  obtain rfl : j = i := by omega
  refine Ev.here fun k => ?_
  simp only [spec_l9Kid.l0, hw]
  by_cases c : (j : Int) < (K.length : Int) - 1
  ·rw [if_pos c, if_pos (by omega), if_pos (by omega), if_pos h.2.1]
  ·rw [if_neg c]
 | succ d ih =>
  intro j hd hj
  have hs : wrap64 ((j : Int) + 1) = ((j + 1 : Nat) : Int) := succ64 (by omega)
  refine Ev.step (fun k => ?_) (ih (j + 1) (by omega) (by omega))
  simp only [spec_l9Kid.l0, hw, hs]
  rw [if_pos (by omega), if_pos (by omega), if_pos (by omega), if_neg (h.2.2 j (by omega))]
theorem kids_kind {x : S53} (h : Plain x) (hk : ¬ x.f6 = []) : x.f0 = 1 ∨ x.f0 = 2 := by
 unfold Plain at h
 by_cases c1 : x.f0 = 1
 ·exact Or.inl c1
 by_cases c2 : x.f0 = 2
 ·exact Or.inr c2
 exfalso
 apply hk
 simp_all
theorem place_up (L : List S53) (O F : List Int) (a b : Int) (hS : Small L) (hN : Named L) (hO : O.length ≤ 1048576) (hR : Right L) (hT : Tags L O) (hV : ∃ u : Nat, lastV O = (u : Int) ∧ u < L.length ∧ ((it L u).f0 = 1 ∨ (it L u).f0 = 2)) :
  ∃ p q : Int, (∃ u : Nat, p = (u : Int) ∧ u < L.length ∧ ((it L u).f0 = 1 ∨ (it L u).f0 = 2)) ∧ Ev (fun k => spec_l9Place.f k L O F a b) (p, q) ∧ Ev (fun k => impl_Page_place.f k L O F a b) (p, q, a, b) := by
 have hL := hS.1
 obtain ⟨t, h1, h2, h3⟩ := open_same L hL O F a b hO hT
 have e1 := in_spec L O F a b hO hT
 have e2 := in_impl L hL hN O F a b hO hT
 have e3 := last_impl L O F a b hO
 have jf : Ev (fun k => spec_l9Place.j0 k t false L O F a b) (lastV O, -1) := Ev.here fun k => by
  unfold spec_l9Place.j0
  refine (if_neg Bool.false_ne_true).trans ?_
  unfold lastV
  by_cases c : O.length = 0
  ·rw [if_pos c, if_pos (by omega)]
  ·rw [if_neg c, if_neg (by omega), len_wrap O hO c, if_pos (by omega), if_pos (by omega)]
 unfold spec_l9Place.f impl_Page_place.f
 simp only [e1, e2, e3, h3, Option.bind_some]
 cases tb (lastN L O) with
 | false => exact ⟨lastV O, -1, hV, Ev.bind h2 (Ev.ite_neg Bool.false_ne_true jf), Ev.ite_neg Bool.false_ne_true (Ev.now _)⟩
 | true =>
  rcases h1 with rfl | ⟨j, hj, rfl⟩
  ·exact ⟨lastV O, -1, hV, Ev.bind h2 (Ev.ite_pos rfl jf), Ev.ite_pos rfl (Ev.ite_pos (by omega) (Ev.now _))⟩
  ·obtain ⟨g0, g1, g2⟩ := tag_in (hT j hj)
   have hx : it L (rd O (j : Int)).toNat = rd_T53 L (rd O (j : Int)) := it_toNat L g0
   have hlt : (rd O (j : Int)).toNat < L.length := by omega
   have hne : ¬ (rd O (j : Int)).toNat = 0 := fun q => by
    rw [q] at hx
    have := hR.2.1
    rw [hx, g2] at this
    omega
   have hu := (hR.2.2.2.1 _ hlt).1
   unfold UpOk at hu
   rw [if_neg hne, hx, ofNat_of _ g0] at hu
   obtain ⟨u0, u1, u2⟩ := hu
   have hm := List.count_pos_iff.mp (show 0 < List.count (rd O (j : Int)) (rd_T53 L (rd_T53 L (rd O (j : Int))).f5).f6 by omega)
   have hK : (rd_T53 L (rd_T53 L (rd O (j : Int))).f5).f6.length ≤ 1048576 := by
    rw [← it_toNat L u0]; exact (it_small hS (by omega)).2
   obtain ⟨m, hm1, hm2⟩ := List.getElem_of_mem hm
   obtain ⟨i, f1, f2⟩ := Index_tells _ (rd O (j : Int)) hK ⟨m, hm1, by rw [rdI _ m hm1]; exact hm2⟩
   have f3 := Kid_loop _ _ hK i f1 i 0 (by omega) (by omega)
   have hk : (it L (rd_T53 L (rd O (j : Int))).f5.toNat).f0 = 1 ∨ (it L (rd_T53 L (rd O (j : Int))).f5.toNat).f0 = 2 := by
    refine kids_kind (hR.2.2.1 _ (by omega)).1 ?_
    rw [it_toNat L u0]; intro q; rw [q] at hm1; simp at hm1
   refine ⟨(rd_T53 L (rd O (j : Int))).f5, (i : Int), ⟨(rd_T53 L (rd O (j : Int))).f5.toNat, (Int.toNat_of_nonneg u0).symm, by omega, hk⟩, Ev.bind h2 (Ev.ite_pos rfl ?_), Ev.ite_pos rfl (Ev.ite_neg (by omega) (Ev.ite_pos (by omega) (Ev.ite_pos (by omega) (Ev.ite_pos g0 (Ev.ite_pos g1 (Ev.ite_pos u0 (Ev.ite_pos u1 (Ev.bind f2 (Ev.now _)))))))))⟩
   rw [decide_eq_true (show (j : Int) ≥ 0 by omega)]
   refine Ev.step (f := fun k => (spec_l9Kid.f k L (rd O (j : Int))).bind fun t => some ((rd_T53 L (rd O (j : Int))).f5, t)) (fun k => ?_) (Ev.bind ?_ (Ev.now _))
   ·unfold spec_l9Place.j0
    refine (if_pos rfl).trans ?_
    rw [if_pos (by omega), if_pos (by omega), if_pos g0, if_pos g1]
   ·unfold spec_l9Kid.f
    exact Ev.ite_pos g0 (Ev.ite_pos g1 (Ev.ite_pos u0 (Ev.ite_pos u1 f3)))
end Go.Proofs.YtekkalnafngfeaaGreat.Pg
namespace Go.Proofs.YtekkalnafngfeaaGreat.Pt
open Go.RowKit Go.Proofs.YtekkalnafngfeaaGreat.P Go.Proofs.YtekkalnafngfeaaGreat.Evs Go.Proofs.YtekkalnafngfeaaGreat.It Go.Proofs.YtekkalnafngfeaaGreat.Tr Go.Proofs.YtekkalnafngfeaaGreat.Pg Go.Proofs.YtekkalnafngfeaaGreatW.PrintWords Go.Proofs.YtekkalnafngfeaaGreatW.PrintLast

/-! ### copies -/
theorem copyItems_tells (L : List S53) (hS : Small L) : impl_copyItems.f L = some L := by
 unfold impl_copyItems.f
 rw [if_pos (by have := hS.1; omega), if_pos]
 rw [List.all_eq_true]
 intro y hy
 obtain ⟨h3, h6⟩ := hS.2 y hy
 rw [Bool.and_eq_true, decide_eq_true_eq, decide_eq_true_eq]
 omega
theorem clone_tells (O : List Int) (hO : O.length ≤ 1048576) : slices_Clone_int_int.f O = some O := by
 unfold slices_Clone_int_int.f
 simp only [Option.bind_some, List.length_nil, List.nil_append]
 rw [if_pos (by omega)]
theorem copyPage_tells (L : List S53) (O F : List Int) (a b : Int) (hS : Small L) (hO : O.length ≤ 1048576) (hF : F.length ≤ 1048576) : impl_copyPage.f L O F a b = some (L, O, F, a, b) := by
 unfold impl_copyPage.f
 rw [copyItems_tells L hS, clone_tells O hO, clone_tells F hF]
 rfl
theorem l6Item_tells (x : S53) (h3 : x.f3.length ≤ 1048576) (h6 : x.f6.length ≤ 1048576) : spec_l6Item.f x.f0 x.f1 x.f2 x.f3 x.f4 x.f5 x.f6 = some (x.f0, x.f1, x.f2, x.f3, x.f4, x.f5, x.f6) := by
 unfold spec_l6Item.f
 simp only [Option.bind_some, List.length_nil, List.nil_append]
 rw [if_pos (by omega), if_pos (by omega)]
theorem l6Copy_loop (L : List S53) (hS : Small L) : ∀ (d j : Nat), L.length - j = d → j ≤ L.length → Ev (fun k => spec_l6Copy.l0 k L (L.take j) (j : Int)) L := by
 intro d
 induction d with
 | zero =>
  intro j hd hj
  obtain rfl : j = L.length := by omega
  refine Ev.here fun k => ?_
  simp only [spec_l6Copy.l0]
  rw [if_neg (by omega), List.take_length]
 | succ d ih =>
  intro j hd hj
  have hjl : j < L.length := by omega
  have hL := hS.1
  have hrd : rd_T53 L (j : Int) = L[j] := rdT _ _ j hjl
  obtain ⟨h3, h6⟩ := hS.2 L[j] (List.getElem_mem hjl)
  have e := l6Item_tells L[j] h3 h6
  have hs : wrap64 ((j : Int) + 1) = ((j + 1 : Nat) : Int) := succ64 (by omega)
  have ht : L.take j ++ [L[j]] = L.take (j + 1) := by rw [List.take_add_one, List.getElem?_eq_getElem hjl]; rfl
  refine Ev.step (fun k => ?_) (ih (j + 1) (by omega) (by omega))
  simp only [spec_l6Copy.l0, hrd, hs]
  rw [if_pos (by omega), if_pos (by omega), e]
  simp only [Option.bind_some]
  rw [if_pos (by rw [List.length_take]; omega), ht]
theorem l8Copy_tells (L : List S53) (O F : List Int) (a b : Int) (hS : Small L) (hO : O.length ≤ 1048576) (hF : F.length ≤ 1048576) : Ev (fun k => spec_l8Copy.f k L O F a b) (L, O, F, a, b) := by
 unfold spec_l8Copy.f
 simp only [Option.bind_some, List.length_nil, List.nil_append]
 refine Ev.bind (show Ev (fun k => spec_l6Copy.f k L) L from l6Copy_loop L hS L.length 0 (by omega) (by omega)) ?_
 refine Ev.const fun k => ?_
 rw [if_pos (by omega), if_pos (by omega)]

/-! ### an item hung -/
def leaf (a0 a1 : Int) (a2 : ByteArray) (l3 : List S56) (a4 : ByteArray) (u : Nat) : S53 := ⟨a0, a1, a2, l3, a4, (u : Int), []⟩
theorem rd_app (L : List S53) (x : S53) (u : Nat) (hu : u < L.length) : rd_T53 (L ++ [x]) (u : Int) = it L u := by
 have h : u < (L ++ [x]).length := by simp; omega
 rw [show rd_T53 (L ++ [x]) (u : Int) = (L ++ [x])[u] from rdT _ _ u h, it_get hu, List.getElem_append_left hu]
theorem copyAttrs_tells (l : List S56) (h : l.length ≤ 1048576) : impl_copyAttrs.f l = some l := by
 unfold impl_copyAttrs.f impl_Attr_105.f
 simp only [Option.bind_some, List.length_nil, List.nil_append]
 rw [if_pos (by omega)]
 rfl
theorem hang_tells (L : List S53) (u : Nat) (a0 a1 : Int) (a2 : ByteArray) (l3 : List S56) (a4 : ByteArray) (at_ : Int) (hS : Small L) (hu : u < L.length) (h3 : l3.length ≤ 1048576) :
  impl_hang.f L (u : Int) at_ a0 a1 a2 l3 a4 = some (addL L u (hang_at at_ (it L u).f6.length) (leaf a0 a1 a2 l3 a4 u), (L.length : Int)) := by
 unfold impl_hang.f
 rw [copyAttrs_tells l3 h3]
 simp only [Option.bind_some]
 rw [rd_app L _ u hu, if_pos ⟨by have := hS.1; omega, by omega, by simp; omega, by have := (it_small hS hu).2; omega⟩]
 rfl
theorem l6Add_tells (L : List S53) (u : Nat) (a0 a1 : Int) (a2 : ByteArray) (l3 : List S56) (a4 : ByteArray) (a5 : Int) (l6 : List Int) (at_ : Int) (hS : Small L) (hu : u < L.length) (h3 : l3.length ≤ 1048576) (h6 : l6.length ≤ 1048576) :
  spec_l6Add.f L (u : Int) at_ a0 a1 a2 l3 a4 a5 l6 = some (addL L u (hang_at at_ (it L u).f6.length) (leaf a0 a1 a2 l3 a4 u), (L.length : Int)) := by
 unfold spec_l6Add.f
 rw [l6Item_tells (⟨a0, a1, a2, l3, a4, a5, l6⟩ : S53) h3 h6]
 simp only [Option.bind_some]
 rw [rd_app L _ u hu, if_pos ⟨by have := hS.1; omega, by omega, by simp; omega, by have := (it_small hS hu).2; omega⟩]
 rfl

end Go.Proofs.YtekkalnafngfeaaGreat.Pt
namespace Go.Proofs.YtekkalnafngfeaaGreat.Pt
open Go.RowKit Go.Proofs.YtekkalnafngfeaaGreat.P Go.Proofs.YtekkalnafngfeaaGreat.Evs Go.Proofs.YtekkalnafngfeaaGreat.It Go.Proofs.YtekkalnafngfeaaGreat.Tr Go.Proofs.YtekkalnafngfeaaGreat.Pg Go.Proofs.YtekkalnafngfeaaGreat.Mk Go.Proofs.YtekkalnafngfeaaGreatW.PrintWords Go.Proofs.YtekkalnafngfeaaGreatW.PrintLast

/-! ### the law's own functions -/
theorem eqItems_same (L : List S53) (hS : Small L) : Ev (fun k => laws_eqItemS.f k L L) true := by
 have hL := hS.1
 have loop : ∀ (d i : Nat), L.length - i = d → i ≤ L.length → Ev (fun k => laws_eqItemS.l0 k L L i) true := by
  intro d
  induction d with
  | zero =>
   intro i hd hi
   refine Ev.here fun k => ?_
   simp only [laws_eqItemS.l0]; rw [if_neg (by omega)]
  | succ d ih =>
   intro i hd hi
   have hil : i < L.length := by omega
   have hrd : rd_T53 L (i : Int) = L[i] := rdT L _ i hil
   have hw : wrap64 ((i : Int) + 1) = ((i + 1 : Nat) : Int) := succ64 (by omega)
   obtain ⟨h3, h6⟩ := hS.2 L[i] (List.getElem_mem hil)
   have hi_ : Ev (fun k => laws_eqItem.f k L[i].f0 L[i].f1 L[i].f2 L[i].f3 L[i].f4 L[i].f5 L[i].f6 L[i].f0 L[i].f1 L[i].f2 L[i].f3 L[i].f4 L[i].f5 L[i].f6) true := by
    unfold laws_eqItem.f
    exact Ev.ite_pos rfl (Ev.ite_pos rfl (Ev.ite_pos rfl (Ev.bind (eqAttrS_self L[i].f3 (by omega)) (Ev.ite_pos rfl (Ev.ite_pos rfl (Ev.ite_pos rfl (Ev.bind (eqIntS_self L[i].f6 h6) (Ev.ite_pos rfl (Ev.const fun _ => rfl)))))))))
   exact Ev.step (fun k => by simp only [laws_eqItemS.l0, hw]; rw [if_pos (by omega), if_pos (by omega), if_pos (by omega), hrd]) (Ev.bind hi_ (Ev.ite_pos rfl (ih (i + 1) (by omega) (by omega))))
 unfold laws_eqItemS.f
 exact Ev.ite_pos rfl (loop L.length 0 (by omega) (by omega))
theorem eqPage_same (L : List S53) (O F : List Int) (a b : Int) (hS : Small L) (hO : O.length ≤ 1048576) (hF : F.length ≤ 1048576) : Ev (fun k => laws_eqPage.f k L O F a b L O F a b) true := by
 unfold laws_eqPage.f
 exact Ev.bind (eqItems_same L hS) (Ev.ite_pos rfl (Ev.bind (eqIntS_self O hO) (Ev.ite_pos rfl (Ev.bind (eqIntS_self F hF) (Ev.ite_pos rfl (Ev.ite_pos rfl (Ev.ite_pos rfl (Ev.now _))))))))
theorem few (L : List S53) (hS : Small L) : Few L := hS.2
/-- A page marked from a number on, and found so. -/
theorem markPage_tells (L : List S53) (O F : List Int) (hS : Small L) (hO : O.length ≤ 1048576) (hF : F.length ≤ 1048576) (a b : Int) :
  ∃ (n : Nat) (z : List S53 × List Int × List Int), n ≤ 4000000000000 ∧ Ev (fun k => laws_markPage.f k L O F 1) ((n : Int), z) ∧ Ev (fun k => laws_heldPage.f k z.1 z.2.1 z.2.2 a b 1) (n : Int) := by
 have hL := hS.1
 have hme := mend_le L 1 (few L hS)
 generalize hm : mend 1 L = m at hme
 have e1 := markItemS_marks L [] 1 (few L hS) (by simp; omega) (by omega)
 have e2 := heldItemS_marks L [] 1 (few L hS) (by simp; omega) (by omega)
 rw [hm] at e1 e2
 have e3 := markIntS_tells O m hO (by omega)
 have e4 := heldIntS_tells m O.length hO (by omega)
 have e5 := markIntS_tells F (m + O.length) hF (by omega)
 have e6 := heldIntS_tells (m + O.length) F.length hF (by omega)
 refine ⟨m + O.length + F.length, (mits 1 L, mis m O.length, mis (m + O.length) F.length), by omega, ?_, ?_⟩
 ·unfold laws_markPage.f
  exact Ev.bind (show Ev (fun k => laws_markItemS.g k L 1) ((m : Int), mits 1 L) from e1) (Ev.bind e3 (Ev.bind e5 (Ev.now _)))
 ·unfold laws_heldPage.f
  exact Ev.bind (show Ev (fun k => laws_heldItemS.f k (mits 1 L) 1) (m : Int) from e2) (Ev.ite_neg (by omega) (Ev.bind e4 (Ev.ite_neg (by omega) (Ev.bind e6 (Ev.ite_neg (by omega) (Ev.now _))))))
theorem szIntS_tells (xs : List Int) (left : Int) (hl : xs.length ≤ maxLen) (h0 : 0 ≤ left) (h1 : left ≤ 1048576) : ∃ t, laws_szIntS.f xs left = some t ∧ t ≤ 1048576 ∧ (¬ t < 0 → xs.length ≤ 1048576) := by
 unfold maxLen at hl
 have hw : wrap64 (left - (xs.length : Int)) = left - (xs.length : Int) := w64 (by omega) (by omega)
 unfold laws_szIntS.f
 rw [hw]
 by_cases c : left - (xs.length : Int) < 0
 ·exact ⟨-1, by rw [if_pos c], by omega, fun h => absurd (show (-1 : Int) < 0 by omega) h⟩
 ·exact ⟨left - (xs.length : Int), by rw [if_neg c], by omega, fun _ => by omega⟩
theorem szPage_tells (n : Nat) (x : S25) (h : G25 maxLen n x) : ∃ t, t ≤ 1048576 ∧ Ev (fun k => laws_szPage.f k x.f0 x.f1 x.f2 x.f3 x.f4 1048576) t ∧ (¬ t < 0 → (x.f0.length ≤ 1048576 ∧ ∀ y ∈ x.f0, G67 1048576 n y) ∧ x.f1.length ≤ 1048576 ∧ x.f2.length ≤ 1048576) := by
 obtain ⟨⟨h1, h2⟩, ⟨h3, _⟩, ⟨h4, _⟩, _⟩ := h
 unfold laws_szPage.f
 obtain ⟨t, et, _, t1, tq⟩ := szItemS_tells n x.f0 1048576 h1 h2 (by omega) (by omega)
 by_cases c : t < 0
 ·exact ⟨-1, by omega, Ev.bind et (Ev.ite_pos c (Ev.now _)), fun q => absurd (show (-1 : Int) < 0 by omega) q⟩
 obtain ⟨u, eu, u1, uq⟩ := szIntS_tells x.f1 t h3 (by omega) (by omega)
 by_cases d : u < 0
 ·exact ⟨-1, by omega, Ev.bind et (Ev.ite_neg c (Ev.opt eu (Ev.ite_pos d (Ev.now _)))), fun q => absurd (show (-1 : Int) < 0 by omega) q⟩
 obtain ⟨v, ev, v1, vq⟩ := szIntS_tells x.f2 u h4 (by omega) u1
 by_cases e : v < 0
 ·exact ⟨-1, by omega, Ev.bind et (Ev.ite_neg c (Ev.opt eu (Ev.ite_neg d (Ev.opt ev (Ev.ite_pos e (Ev.now _)))))), fun q => absurd (show (-1 : Int) < 0 by omega) q⟩
 ·exact ⟨v, v1, Ev.bind et (Ev.ite_neg c (Ev.opt eu (Ev.ite_neg d (Ev.opt ev (Ev.ite_neg e (Ev.now _)))))), fun _ => ⟨tq (by omega), uq d, vq e⟩⟩
/-- A page copied by the law's own code. -/
theorem toPage_tells (n : Nat) (x : S25) (q1 : x.f0.length ≤ 1048576) (q2 : ∀ y ∈ x.f0, G67 1048576 n y) (q3 : x.f1.length ≤ 1048576) (q4 : x.f2.length ≤ 1048576) :
  Small (x.f0.map toI) ∧ Named (x.f0.map toI) ∧ Ev (fun k => laws_toPage.f k x.f0 x.f1 x.f2 x.f3 x.f4) (x.f0.map toI, x.f1, x.f2, x.f3, x.f4) := by
 obtain ⟨s1, s2⟩ := toItems_small n x.f0 q1 q2
 refine ⟨s1, fun i hi => ?_, ?_⟩
 ·obtain ⟨_, _, g2, _⟩ := s2 _ (List.getElem_mem hi)
  rw [it_get hi]; exact g2
 ·unfold laws_toPage.f
  exact Ev.bind (toItemS_tells n x.f0 q1 q2) (Ev.bind (toIntS_tells x.f1 q3) (Ev.bind (toIntS_tells x.f2 q4) (Ev.now _)))
end Go.Proofs.YtekkalnafngfeaaGreat.Pt
