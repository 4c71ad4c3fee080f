/- Pages copied, a tag put in, marks found again: what the program's functions and the reference's tell. No conditions but the sizes. A tag put into a page: the program's PutTag and the reference's make the same page, of the call's own: the pure statement of the law FnExactPutTag. No conditions but the row's. -/
import Derived.Test.YtekkalnafngfeaaGreatPuC
import Derived.Test.YtekkalnafngfeaaGreatPuB
import Derived.Test.YtekkalnafngfeaaGreatPuA
import Derived.Test.YtekkalnafngfeaaGreatPt27
import Derived.Test.YtekkalnafngfeaaGreatPt17
import Derived.Test.YtekkalnafngfeaaGreatPt6
import Derived.Test.YtekkalnafngfeaaGreatPt45
set_option linter.unusedVariables false
set_option linter.unusedSimpArgs false
namespace Go.Proofs.YtekkalnafngfeaaGreat.Pt
open Go.RowKit Go.Proofs.YtekkalnafngfeaaGreat.P Go.Proofs.YtekkalnafngfeaaGreat.Evs Go.Proofs.YtekkalnafngfeaaGreat.It Go.Proofs.YtekkalnafngfeaaGreat.Tr Go.Proofs.YtekkalnafngfeaaGreat.Pg Go.Proofs.YtekkalnafngfeaaGreat.Mk Go.Proofs.YtekkalnafngfeaaGreatW.PrintWords Go.Proofs.YtekkalnafngfeaaGreatW.PrintLast

/-! ### copies -/
theorem copyItems_tells (L : List S53) (hS : Small L) : impl_copyItems.f L = some L := by
 unfold impl_copyItems.f
 rw [if_pos (by have := hS.1; omega), if_pos]
 rw [List.all_eq_true]
 intro y hy
 obtain ⟨h3, h6⟩ := hS.2 y hy
 rw [Bool.and_eq_true, decide_eq_true_eq, decide_eq_true_eq]
 omega
theorem clone_tells (O : List Int) (hO : O.length ≤ 1048576) : slices_Clone_int_int.f O = some O := by
 unfold slices_Clone_int_int.f
 simp only [Option.bind_some, List.length_nil, List.nil_append]
 rw [if_pos (by omega)]
theorem copyPage_tells (L : List S53) (O F : List Int) (a b : Int) (hS : Small L) (hO : O.length ≤ 1048576) (hF : F.length ≤ 1048576) : impl_copyPage.f L O F a b = some (L, O, F, a, b) := by
 unfold impl_copyPage.f
 rw [copyItems_tells L hS, clone_tells O hO, clone_tells F hF]
 rfl
theorem l6Item_tells (x : S53) (h3 : x.f3.length ≤ 1048576) (h6 : x.f6.length ≤ 1048576) : spec_l6Item.f x.f0 x.f1 x.f2 x.f3 x.f4 x.f5 x.f6 = some (x.f0, x.f1, x.f2, x.f3, x.f4, x.f5, x.f6) := by
 unfold spec_l6Item.f
 simp only [Option.bind_some, List.length_nil, List.nil_append]
 rw [if_pos (by omega), if_pos (by omega)]
theorem l6Copy_loop (L : List S53) (hS : Small L) : ∀ (d j : Nat), L.length - j = d → j ≤ L.length → Ev (fun k => spec_l6Copy.l0 k L (L.take j) (j : Int)) L := by
 intro d
 induction d with
 | zero =>
  intro j hd hj
  obtain rfl : j = L.length := by omega
  refine Ev.here fun k => ?_
  simp only [spec_l6Copy.l0]
  rw [if_neg (by omega), List.take_length]
 | succ d ih =>
  intro j hd hj
  have hjl : j < L.length := by omega
  have hL := hS.1
  have hrd : rd_T53 L (j : Int) = L[j] := rdT _ _ j hjl
  obtain ⟨h3, h6⟩ := hS.2 L[j] (List.getElem_mem hjl)
  have e := l6Item_tells L[j] h3 h6
  have hs : wrap64 ((j : Int) + 1) = ((j + 1 : Nat) : Int) := succ64 (by omega)
  have ht : L.take j ++ [L[j]] = L.take (j + 1) := by rw [List.take_add_one, List.getElem?_eq_getElem hjl]; rfl
  refine Ev.step (fun k => ?_) (ih (j + 1) (by omega) (by omega))
  simp only [spec_l6Copy.l0, hrd, hs]
  rw [if_pos (by omega), if_pos (by omega), e]
  simp only [Option.bind_some]
  rw [if_pos (by rw [List.length_take]; omega), ht]
theorem l8Copy_tells (L : List S53) (O F : List Int) (a b : Int) (hS : Small L) (hO : O.length ≤ 1048576) (hF : F.length ≤ 1048576) : Ev (fun k => spec_l8Copy.f k L O F a b) (L, O, F, a, b) := by
 unfold spec_l8Copy.f
 simp only [Option.bind_some, List.length_nil, List.nil_append]
 refine Ev.bind (show Ev (fun k => spec_l6Copy.f k L) L from l6Copy_loop L hS L.length 0 (by omega) (by omega)) ?_
 refine Ev.const fun k => ?_
 rw [if_pos (by omega), if_pos (by omega)]

/-! ### an item hung -/
def leaf (a0 a1 : Int) (a2 : ByteArray) (l3 : List S56) (a4 : ByteArray) (u : Nat) : S53 := ⟨a0, a1, a2, l3, a4, (u : Int), []⟩
theorem rd_app (L : List S53) (x : S53) (u : Nat) (hu : u < L.length) : rd_T53 (L ++ [x]) (u : Int) = it L u := by
 have h : u < (L ++ [x]).length := by simp; omega
 rw [show rd_T53 (L ++ [x]) (u : Int) = (L ++ [x])[u] from rdT _ _ u h, it_get hu, List.getElem_append_left hu]
theorem copyAttrs_tells (l : List S56) (h : l.length ≤ 1048576) : impl_copyAttrs.f l = some l := by
 unfold impl_copyAttrs.f impl_Attr_105.f
 simp only [Option.bind_some, List.length_nil, List.nil_append]
 rw [if_pos (by omega)]
 rfl
theorem hang_tells (L : List S53) (u : Nat) (a0 a1 : Int) (a2 : ByteArray) (l3 : List S56) (a4 : ByteArray) (at_ : Int) (hS : Small L) (hu : u < L.length) (h3 : l3.length ≤ 1048576) :
  impl_hang.f L (u : Int) at_ a0 a1 a2 l3 a4 = some (addL L u (hang_at at_ (it L u).f6.length) (leaf a0 a1 a2 l3 a4 u), (L.length : Int)) := by
 unfold impl_hang.f
 rw [copyAttrs_tells l3 h3]
 simp only [Option.bind_some]
 rw [rd_app L _ u hu, if_pos ⟨by have := hS.1; omega, by omega, by simp; omega, by have := (it_small hS hu).2; omega⟩]
 rfl
theorem l6Add_tells (L : List S53) (u : Nat) (a0 a1 : Int) (a2 : ByteArray) (l3 : List S56) (a4 : ByteArray) (a5 : Int) (l6 : List Int) (at_ : Int) (hS : Small L) (hu : u < L.length) (h3 : l3.length ≤ 1048576) (h6 : l6.length ≤ 1048576) :
  spec_l6Add.f L (u : Int) at_ a0 a1 a2 l3 a4 a5 l6 = some (addL L u (hang_at at_ (it L u).f6.length) (leaf a0 a1 a2 l3 a4 u), (L.length : Int)) := by
 unfold spec_l6Add.f
 rw [l6Item_tells (⟨a0, a1, a2, l3, a4, a5, l6⟩ : S53) h3 h6]
 simp only [Option.bind_some]
 rw [rd_app L _ u hu, if_pos ⟨by have := hS.1; omega, by omega, by simp; omega, by have := (it_small hS hu).2; omega⟩]
 rfl

/-! ### PutIn -/
theorem PutTag_same (L : List S53) (O F : List Int) (a b : Int) (hS : Small L) (hN : Named L) (hO : O.length ≤ 1048576) (hF : F.length ≤ 1048576) (y2 : ByteArray) (l3 : List S56) (a1 : Int) (op : Bool) (h2 : y2.size ≤ 1048576) (h3 : l3.length ≤ 1048576) :
  ∃ (r : List S53) (O2 : List Int), Small r ∧ O2.length ≤ 1048576 ∧ Ev (fun k => spec_PutTag.f k L O F a b y2 l3 a1 op) (r, O2, F, a, b) ∧ Ev (fun k => impl_PutTag.f k L O F a b y2 l3 a1 op) (r, O2, F, a, b) := by
 obtain ⟨v, hv, e1, e2⟩ := PageOk_iff L O F a b hS hN hO hF
 have ec := l8Copy_tells L O F a b hS hO hF
 have ei := copyPage_tells L O F a b hS hO hF
 unfold spec_PutTag.f impl_PutTag.f
 cases v with
 | false => exact ⟨L, O, hS, hO, Ev.bind e1 (Ev.ite_neg Bool.false_ne_true ec), Ev.opt ei (Ev.bind e2 (Ev.ite_neg Bool.false_ne_true (Ev.now _)))⟩
 | true =>
  have hP := hv.mp rfl
  have hR : Right L := hP.2.2.2.2.2.2
  have hT : Tags L O := fun j hj => (hP.1 j (Nat.zero_le _) hj).1
  have hO40 : (O.length : Int) ≤ 40 := hP.2.2.1
  obtain ⟨p, q, ⟨u, rfl, hu, hku⟩, ep, ip⟩ := place_up L O F a b hS hN hO hR hT (last_up hP)
  by_cases cn : L.length < 3000
  ·have er : decide ((L.length : Int) < 3000) = true := decide_eq_true (by omega)
   obtain ⟨w, hw, _, ew, _⟩ := Plain_tells (⟨2, a1, y2, l3, (⟨#[]⟩ : ByteArray), 0, []⟩ : S53) h3
   have hx : Plain (leaf 2 a1 y2 l3 (⟨#[]⟩ : ByteArray) u) ↔ w = true := by
    rw [hw]
    exact ⟨plain_eq rfl rfl rfl rfl rfl (Or.inr rfl), plain_eq rfl rfl rfl rfl rfl (Or.inr rfl)⟩
   have hA := PageR_add u (hang_at q (it L u).f6.length) (leaf 2 a1 y2 l3 (⟨#[]⟩ : ByteArray) u) hP cn hu hku rfl rfl
   have hRA := Right_add L u (hang_at q (it L u).f6.length) (leaf 2 a1 y2 l3 (⟨#[]⟩ : ByteArray) u) hR cn hu hku rfl rfl
   have hS2 := small_add u (hang_at q (it L u).f6.length) (leaf 2 a1 y2 l3 (⟨#[]⟩ : ByteArray) u) hS hR hu h3 rfl
   have hN2 := named_add u (hang_at q (it L u).f6.length) (leaf 2 a1 y2 l3 (⟨#[]⟩ : ByteArray) u) hN hu h2
   obtain ⟨O2, hO2⟩ : ∃ z : List Int, z = if op = true ∧ (O.length : Int) < 40 then O ++ [(L.length : Int)] else O := ⟨_, rfl⟩
   have hl2 : O2.length ≤ 1048576 := by
    rw [hO2]
    split
    ·rw [List.length_append, List.length_singleton]; omega
    ·omega
   have hA2 : PageR (addL L u (hang_at q (it L u).f6.length) (leaf 2 a1 y2 l3 (⟨#[]⟩ : ByteArray) u)) O2 F a b ↔ w = true := by
    constructor
    ·exact fun h => hx.mp (hRA.mp h.2.2.2.2.2.2).1
    ·intro h
     have h1 := hA.mpr ⟨hx.mpr h, by show ¬ (2 : Int) = 1; omega⟩
     rw [hO2]
     split
     case isTrue c => exact PageR_tag u _ _ hP h1 hu rfl (by omega)
     case isFalse => exact h1
   obtain ⟨v2, hv2, e3, _⟩ := PageOk_iff _ O2 F a b hS2 hN2 hl2 hF
   have ea := l6Add_tells L u 2 a1 y2 l3 (⟨#[]⟩ : ByteArray) 0 [] q hS hu h3 (by simp)
   have eh := hang_tells L u 2 a1 y2 l3 (⟨#[]⟩ : ByteArray) q hS hu h3
   have hvw : v2 = (w && !((2 : Int) == 1)) := by
    rw [Bool.eq_iff_iff, hv2, hA2]
    simp
   have et : spec_l9Tag.f L O (u : Int) q 2 a1 y2 l3 (⟨#[]⟩ : ByteArray) 0 [] op = some (addL L u (hang_at q (it L u).f6.length) (leaf 2 a1 y2 l3 (⟨#[]⟩ : ByteArray) u), O2) := by
    unfold spec_l9Tag.f
    rw [ea, hO2]
    dsimp only [Option.bind_some]
    split <;> rfl
   have es : ∀ (r : List S53) (Z : List Int), (if v2 = true then r = addL L u (hang_at q (it L u).f6.length) (leaf 2 a1 y2 l3 (⟨#[]⟩ : ByteArray) u) ∧ Z = O2 else r = L ∧ Z = O) → Ev (fun k => (spec_PageOk.f k L O F a b).bind fun t => if t = true then (spec_l9Room.f L O F a b).bind fun u => if u = true then
  (spec_l8Copy.f k L O F a b).bind fun z => (spec_l9Place.f k z.1 z.2.1 z.2.2.1 z.2.2.2.1 z.2.2.2.2).bind fun p => (spec_l9Tag.f z.1 z.2.1 p.1 p.2 2 a1 y2 l3 (⟨#[]⟩ : ByteArray) 0 [] op).bind fun q => (spec_PageOk.f k q.1 q.2 z.2.2.1 z.2.2.2.1 z.2.2.2.2).bind fun v => if v = true then some (q.1, q.2, z.2.2.1, z.2.2.2.1, z.2.2.2.2) else spec_l8Copy.f k L O F a b
  else spec_l8Copy.f k L O F a b else spec_l8Copy.f k L O F a b) (r, Z, F, a, b) := by
    intro r Z hr
    refine Ev.bind e1 (Ev.ite_pos rfl (Ev.opt (a := true) (by unfold spec_l9Room.f; rw [er]) (Ev.ite_pos rfl (Ev.bind ec (Ev.bind ep (Ev.opt et (Ev.bind e3 ?_)))))))
    cases v2 with
    | true => rw [if_pos rfl] at hr; obtain ⟨rfl, rfl⟩ := hr; exact Ev.ite_pos rfl (Ev.now _)
    | false => rw [if_neg Bool.false_ne_true] at hr; obtain ⟨rfl, rfl⟩ := hr; exact Ev.ite_neg Bool.false_ne_true ec
   have eq_ : ∀ (r : List S53) (Z : List Int), (if v2 = true then r = addL L u (hang_at q (it L u).f6.length) (leaf 2 a1 y2 l3 (⟨#[]⟩ : ByteArray) u) ∧ Z = O2 else r = L ∧ Z = O) → ∃ n : Int, Ev (fun k => impl_Page_putTag.f k L O F a b y2 l3 a1 op) (n, r, Z) := by
    intro r Z hr
    unfold impl_Page_putTag.f impl_Page_tagAt.f
    cases v2 with
    | true =>
     rw [if_pos rfl] at hr; obtain ⟨rfl, rfl⟩ := hr
     refine ⟨(L.length : Int), Ev.bind ip (Ev.opt (a := (true, a, b)) (by unfold impl_Page_hasRoom.f; rw [er]) (Ev.ite_pos rfl (Ev.bind ew ?_)))⟩
     rw [← hvw]
     refine Ev.ite_pos rfl (Ev.opt eh ?_)
     by_cases c : op = true ∧ (O.length : Int) < 40
     ·rw [if_pos c] at hO2; rw [hO2]; exact Ev.ite_pos c (Ev.now _)
     ·rw [if_neg c] at hO2; rw [hO2]; exact Ev.ite_neg c (Ev.now _)
    | false =>
     rw [if_neg Bool.false_ne_true] at hr; obtain ⟨rfl, rfl⟩ := hr
     refine ⟨0, Ev.bind ip (Ev.opt (a := (true, a, b)) (by unfold impl_Page_hasRoom.f; rw [er]) (Ev.ite_pos rfl (Ev.bind ew ?_)))⟩
     rw [← hvw]
     exact Ev.ite_neg Bool.false_ne_true (Ev.now _)
   cases v2 with
   | true =>
    obtain ⟨n, en⟩ := eq_ _ _ ⟨rfl, rfl⟩
    exact ⟨_, _, hS2, hl2, es _ _ ⟨rfl, rfl⟩, Ev.opt ei (Ev.bind e2 (Ev.ite_pos rfl (Ev.bind en (Ev.now _))))⟩
   | false =>
    obtain ⟨n, en⟩ := eq_ _ _ ⟨rfl, rfl⟩
    exact ⟨L, O, hS, hO, es _ _ ⟨rfl, rfl⟩, Ev.opt ei (Ev.bind e2 (Ev.ite_pos rfl (Ev.bind en (Ev.now _))))⟩
  ·have er : decide ((L.length : Int) < 3000) = false := decide_eq_false (by omega)
   refine ⟨L, O, hS, hO, Ev.bind e1 (Ev.ite_pos rfl (Ev.opt (a := false) (by unfold spec_l9Room.f; rw [er]) (Ev.ite_neg Bool.false_ne_true ec))), Ev.opt ei (Ev.bind e2 (Ev.ite_pos rfl (Ev.bind (a := (0, L, O)) ?_ (Ev.now _))))⟩
   unfold impl_Page_putTag.f impl_Page_tagAt.f
   exact Ev.bind ip (Ev.opt (a := (false, a, b)) (by unfold impl_Page_hasRoom.f; rw [er]) (Ev.ite_neg Bool.false_ne_true (Ev.now _)))

/-! ### the law's own functions -/
theorem eqItems_same (L : List S53) (hS : Small L) : Ev (fun k => laws_eqItemS.f k L L) true := by
 have hL := hS.1
 have loop : ∀ (d i : Nat), L.length - i = d → i ≤ L.length → Ev (fun k => laws_eqItemS.l0 k L L i) true := by
  intro d
  induction d with
  | zero =>
   intro i hd hi
   refine Ev.here fun k => ?_
   simp only [laws_eqItemS.l0]; rw [if_neg (by omega)]
  | succ d ih =>
   intro i hd hi
   have hil : i < L.length := by omega
   have hrd : rd_T53 L (i : Int) = L[i] := rdT L _ i hil
   have hw : wrap64 ((i : Int) + 1) = ((i + 1 : Nat) : Int) := succ64 (by omega)
   obtain ⟨h3, h6⟩ := hS.2 L[i] (List.getElem_mem hil)
   have hi_ : Ev (fun k => laws_eqItem.f k L[i].f0 L[i].f1 L[i].f2 L[i].f3 L[i].f4 L[i].f5 L[i].f6 L[i].f0 L[i].f1 L[i].f2 L[i].f3 L[i].f4 L[i].f5 L[i].f6) true := by
    unfold laws_eqItem.f
    exact Ev.ite_pos rfl (Ev.ite_pos rfl (Ev.ite_pos rfl (Ev.bind (eqAttrS_self L[i].f3 (by omega)) (Ev.ite_pos rfl (Ev.ite_pos rfl (Ev.ite_pos rfl (Ev.bind (eqIntS_self L[i].f6 h6) (Ev.ite_pos rfl (Ev.const fun _ => rfl)))))))))
   exact Ev.step (fun k => by simp only [laws_eqItemS.l0, hw]; rw [if_pos (by omega), if_pos (by omega), if_pos (by omega), hrd]) (Ev.bind hi_ (Ev.ite_pos rfl (ih (i + 1) (by omega) (by omega))))
 unfold laws_eqItemS.f
 exact Ev.ite_pos rfl (loop L.length 0 (by omega) (by omega))
theorem eqPage_same (L : List S53) (O F : List Int) (a b : Int) (hS : Small L) (hO : O.length ≤ 1048576) (hF : F.length ≤ 1048576) : Ev (fun k => laws_eqPage.f k L O F a b L O F a b) true := by
 unfold laws_eqPage.f
 exact Ev.bind (eqItems_same L hS) (Ev.ite_pos rfl (Ev.bind (eqIntS_self O hO) (Ev.ite_pos rfl (Ev.bind (eqIntS_self F hF) (Ev.ite_pos rfl (Ev.ite_pos rfl (Ev.ite_pos rfl (Ev.now _))))))))
theorem few (L : List S53) (hS : Small L) : Few L := hS.2
/-- A page marked from a number on, and found so. -/
theorem markPage_tells (L : List S53) (O F : List Int) (hS : Small L) (hO : O.length ≤ 1048576) (hF : F.length ≤ 1048576) (a b : Int) :
  ∃ (n : Nat) (z : List S53 × List Int × List Int), n ≤ 4000000000000 ∧ Ev (fun k => laws_markPage.f k L O F 1) ((n : Int), z) ∧ Ev (fun k => laws_heldPage.f k z.1 z.2.1 z.2.2 a b 1) (n : Int) := by
 have hL := hS.1
 have hme := mend_le L 1 (few L hS)
 generalize hm : mend 1 L = m at hme
 have e1 := markItemS_marks L [] 1 (few L hS) (by simp; omega) (by omega)
 have e2 := heldItemS_marks L [] 1 (few L hS) (by simp; omega) (by omega)
 rw [hm] at e1 e2
 have e3 := markIntS_tells O m hO (by omega)
 have e4 := heldIntS_tells m O.length hO (by omega)
 have e5 := markIntS_tells F (m + O.length) hF (by omega)
 have e6 := heldIntS_tells (m + O.length) F.length hF (by omega)
 refine ⟨m + O.length + F.length, (mits 1 L, mis m O.length, mis (m + O.length) F.length), by omega, ?_, ?_⟩
 ·unfold laws_markPage.f
  exact Ev.bind (show Ev (fun k => laws_markItemS.g k L 1) ((m : Int), mits 1 L) from e1) (Ev.bind e3 (Ev.bind e5 (Ev.now _)))
 ·unfold laws_heldPage.f
  exact Ev.bind (show Ev (fun k => laws_heldItemS.f k (mits 1 L) 1) (m : Int) from e2) (Ev.ite_neg (by omega) (Ev.bind e4 (Ev.ite_neg (by omega) (Ev.bind e6 (Ev.ite_neg (by omega) (Ev.now _))))))
theorem szIntS_tells (xs : List Int) (left : Int) (hl : xs.length ≤ maxLen) (h0 : 0 ≤ left) (h1 : left ≤ 1048576) : ∃ t, laws_szIntS.f xs left = some t ∧ t ≤ 1048576 ∧ (¬ t < 0 → xs.length ≤ 1048576) := by
 unfold maxLen at hl
 have hw : wrap64 (left - (xs.length : Int)) = left - (xs.length : Int) := w64 (by omega) (by omega)
 unfold laws_szIntS.f
 rw [hw]
 by_cases c : left - (xs.length : Int) < 0
 ·exact ⟨-1, by rw [if_pos c], by omega, fun h => absurd (show (-1 : Int) < 0 by omega) h⟩
 ·exact ⟨left - (xs.length : Int), by rw [if_neg c], by omega, fun _ => by omega⟩
theorem szPage_tells (n : Nat) (x : S25) (h : G25 maxLen n x) : ∃ t, t ≤ 1048576 ∧ Ev (fun k => laws_szPage.f k x.f0 x.f1 x.f2 x.f3 x.f4 1048576) t ∧ (¬ t < 0 → (x.f0.length ≤ 1048576 ∧ ∀ y ∈ x.f0, G67 1048576 n y) ∧ x.f1.length ≤ 1048576 ∧ x.f2.length ≤ 1048576) := by
 obtain ⟨⟨h1, h2⟩, ⟨h3, _⟩, ⟨h4, _⟩, _⟩ := h
 unfold laws_szPage.f
 obtain ⟨t, et, _, t1, tq⟩ := szItemS_tells n x.f0 1048576 h1 h2 (by omega) (by omega)
 by_cases c : t < 0
 ·exact ⟨-1, by omega, Ev.bind et (Ev.ite_pos c (Ev.now _)), fun q => absurd (show (-1 : Int) < 0 by omega) q⟩
 obtain ⟨u, eu, u1, uq⟩ := szIntS_tells x.f1 t h3 (by omega) (by omega)
 by_cases d : u < 0
 ·exact ⟨-1, by omega, Ev.bind et (Ev.ite_neg c (Ev.opt eu (Ev.ite_pos d (Ev.now _)))), fun q => absurd (show (-1 : Int) < 0 by omega) q⟩
 obtain ⟨v, ev, v1, vq⟩ := szIntS_tells x.f2 u h4 (by omega) u1
 by_cases e : v < 0
 ·exact ⟨-1, by omega, Ev.bind et (Ev.ite_neg c (Ev.opt eu (Ev.ite_neg d (Ev.opt ev (Ev.ite_pos e (Ev.now _)))))), fun q => absurd (show (-1 : Int) < 0 by omega) q⟩
 ·exact ⟨v, v1, Ev.bind et (Ev.ite_neg c (Ev.opt eu (Ev.ite_neg d (Ev.opt ev (Ev.ite_neg e (Ev.now _)))))), fun _ => ⟨tq (by omega), uq d, vq e⟩⟩
/-- A page copied by the law's own code. -/
theorem toPage_tells (n : Nat) (x : S25) (q1 : x.f0.length ≤ 1048576) (q2 : ∀ y ∈ x.f0, G67 1048576 n y) (q3 : x.f1.length ≤ 1048576) (q4 : x.f2.length ≤ 1048576) :
  Small (x.f0.map toI) ∧ Named (x.f0.map toI) ∧ Ev (fun k => laws_toPage.f k x.f0 x.f1 x.f2 x.f3 x.f4) (x.f0.map toI, x.f1, x.f2, x.f3, x.f4) := by
 obtain ⟨s1, s2⟩ := toItems_small n x.f0 q1 q2
 refine ⟨s1, fun i hi => ?_, ?_⟩
 ·obtain ⟨_, _, g2, _⟩ := s2 _ (List.getElem_mem hi)
  rw [it_get hi]; exact g2
 ·unfold laws_toPage.f
  exact Ev.bind (toItemS_tells n x.f0 q1 q2) (Ev.bind (toIntS_tells x.f1 q3) (Ev.bind (toIntS_tells x.f2 q4) (Ev.now _)))
end Go.Proofs.YtekkalnafngfeaaGreat.Pt
namespace Go.Proofs.YtekkalnafngfeaaGreat.Pure
open Go.RowKit Go.Proofs.YtekkalnafngfeaaGreat.P Go.Proofs.YtekkalnafngfeaaGreat.Evs Go.Proofs.YtekkalnafngfeaaGreat.It Go.Proofs.YtekkalnafngfeaaGreat.Tr Go.Proofs.YtekkalnafngfeaaGreat.Pg Go.Proofs.YtekkalnafngfeaaGreat.Mk Go.Proofs.YtekkalnafngfeaaGreat.Pt Go.Proofs.YtekkalnafngfeaaGreatW.PrintWords Go.Proofs.YtekkalnafngfeaaGreatW.PrintLast

theorem FnExactPutTag : laws_FnExactPutTag.Pure := by
 intro n x nm m xs sp op hx _ hy _
 suffices h : Ev (fun k => laws_FnExactPutTag.f k x.f0 x.f1 x.f2 x.f3 x.f4 nm xs sp op) true from h.rounds
 unfold laws_FnExactPutTag.f
 by_cases c0 : (nm.size : Int) > 1048576
 ·exact Ev.ite_pos c0 (Ev.now _)
 obtain ⟨t, t1, et, tq⟩ := szPage_tells n x hx
 by_cases c : t < 0
 ·exact Ev.ite_neg c0 (Ev.bind et (Ev.ite_pos c (Ev.now _)))
 obtain ⟨⟨q1, q2⟩, q3, q4⟩ := tq c
 obtain ⟨s, es, _, _, sq⟩ := szAttrS_tells xs m t hy.1 hy.2 (by omega) t1
 by_cases d : s < 0
 ·exact Ev.ite_neg c0 (Ev.bind et (Ev.ite_neg c (Ev.bind es (Ev.ite_pos d (Ev.now _)))))
 obtain ⟨g3, g4⟩ := sq (by omega)
 have gl : (xs.map toA).length ≤ 1048576 := by rw [List.length_map]; exact g3
 obtain ⟨hS, hN, ex⟩ := toPage_tells n x q1 q2 q3 q4
 have ey := toAttrS_tells xs g3
 obtain ⟨r, O, hr, hO, ep, ei⟩ := PutTag_same (x.f0.map toI) x.f1 x.f2 x.f3 x.f4 hS hN q3 q4 nm (xs.map toA) sp op (by omega) gl
 have eq1 := eqPage_same r O x.f2 x.f3 x.f4 hr hO q4
 have eq2 := eqPage_same (x.f0.map toI) x.f1 x.f2 x.f3 x.f4 hS q3 q4
 have eq3 := eqAttrS_self (xs.map toA) (by omega)
 obtain ⟨n1, z1, b1, em1, _⟩ := markPage_tells (x.f0.map toI) x.f1 x.f2 hS q3 q4 x.f3 x.f4
 obtain ⟨n3, z3, b3, em3, eh3⟩ := markPage_tells r O x.f2 hr hO q4 x.f3 x.f4
 have em2 := markAttrS_tells (xs.map toA) n1 gl (by omega)
 exact Ev.ite_neg c0 (Ev.bind et (Ev.ite_neg c (Ev.bind es (Ev.ite_neg d (Ev.bind ex (Ev.bind ey (Ev.bind ep (Ev.bind ei (Ev.bind eq1 (Ev.ite_pos rfl (Ev.bind eq2 (Ev.ite_pos rfl (Ev.bind eq3 (Ev.ite_pos rfl (Ev.bind em1 (Ev.bind em2 (Ev.ite_neg (by omega) (Ev.bind em3 (Ev.bind eh3 (Ev.ite_neg (by omega) (Ev.ite_pos rfl (Ev.now _))))))))))))))))))))))
end Go.Proofs.YtekkalnafngfeaaGreat.Pure
