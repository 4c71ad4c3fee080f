/- Lists of items as the laws' own code goes over them: counting (szItemS), copying (toItemS), comparing (eqItemS): each ends, and what it tells. No conditions but the sizes that the row gives. -/
import Derived.Test.YtgljgbkbjlondaaAttrBase
import Derived.Test.YtgljgbkbjlondaaPl1
import Derived.Test.YtgljgbkbjlondaaPl17
import Derived.Test.YtgljgbkbjlondaaPl7
set_option linter.unusedVariables false
set_option linter.unusedSimpArgs false
namespace Go.Proofs.Ytgljgbkbjlondaa.It
open Go.RowKit Go.Proofs.Ytgljgbkbjlondaa.P Go.Proofs.Ytgljgbkbjlondaa.Evs Go.Proofs.YtgljgbkbjlondaaW.PrintWords Go.Proofs.YtgljgbkbjlondaaW.PrintLast

/-! ### counting -/
theorem szItem_tells (m : Nat) (x : S47) (hx : G47 maxLen m x) (left : Int) (h0 : 0 ≤ left) (h1 : left ≤ 1048576) :
  ∃ t, Ev (fun k => laws_szItem.f k x.f0 x.f1 x.f2 x.f3 x.f4 x.f5 x.f6 left) t ∧ -1 ≤ t ∧ t ≤ left ∧ (0 ≤ t → G47 1048576 m x) := by
 obtain ⟨g0, g1, g2, ⟨g3, g3'⟩, g4, g5, ⟨g6, g6'⟩⟩ := hx
 unfold maxLen at g2 g3 g4 g6
 unfold laws_szItem.f
 rw [w64 (i := left - (x.f2.size : Int)) (by omega) (by omega)]
 by_cases c : left - (x.f2.size : Int) < 0
 ·exact ⟨-1, Ev.ite_pos c (Ev.const fun _ => rfl), by omega, by omega, by omega⟩
 obtain ⟨t, et, t0, t1, tq⟩ := szAttrS_tells x.f3 m (left - (x.f2.size : Int)) (by unfold maxLen; omega) g3' (by omega) (by omega)
 by_cases c1 : t < 0
 ·exact ⟨-1, Ev.ite_neg c (Ev.bind et (Ev.ite_pos c1 (Ev.const fun _ => rfl))), by omega, by omega, by omega⟩
 have hw1 : wrap64 (t - (x.f4.size : Int)) = t - (x.f4.size : Int) := w64 (by omega) (by omega)
 by_cases c2 : t - (x.f4.size : Int) < 0
 ·refine ⟨-1, Ev.ite_neg c (Ev.bind et (Ev.ite_neg c1 ?_)), by omega, by omega, by omega⟩
  simp only [hw1]
  exact Ev.ite_pos c2 (Ev.const fun _ => rfl)
 have hw2 : wrap64 (t - (x.f4.size : Int) - (x.f6.length : Int)) = t - (x.f4.size : Int) - (x.f6.length : Int) := w64 (by omega) (by omega)
 by_cases c3 : t - (x.f4.size : Int) - (x.f6.length : Int) < 0
 ·refine ⟨-1, Ev.ite_neg c (Ev.bind et (Ev.ite_neg c1 ?_)), by omega, by omega, by omega⟩
  simp only [hw1]
  refine Ev.ite_neg c2 (Ev.opt (a := -1) ?_ (Ev.ite_pos (by decide) (Ev.const fun _ => rfl)))
  unfold laws_szIntS.f
  rw [hw2, if_pos c3]
 ·refine ⟨t - (x.f4.size : Int) - (x.f6.length : Int), Ev.ite_neg c (Ev.bind et (Ev.ite_neg c1 ?_)), by omega, by omega, fun _ => ?_⟩
  ·simp only [hw1]
   refine Ev.ite_neg c2 (Ev.opt (a := t - (x.f4.size : Int) - (x.f6.length : Int)) ?_ (Ev.ite_neg c3 (Ev.const fun _ => rfl)))
   unfold laws_szIntS.f
   rw [hw2, if_neg c3]
  ·obtain ⟨q1, q2⟩ := tq (by omega)
   exact ⟨g0, g1, by omega, ⟨q1, q2⟩, by omega, g5, ⟨by omega, g6'⟩⟩
theorem szItemS_loop (m : Nat) (xs : List S47) (hlen : xs.length ≤ 1048576) (hx : ∀ y ∈ xs, G47 maxLen m y) : ∀ (d i : Nat) (left : Int), xs.length - i = d → i ≤ xs.length → 0 ≤ left → left ≤ 1048576 →
  ∃ t, Ev (fun k => laws_szItemS.l0 k xs left i) t ∧ -1 ≤ t ∧ t ≤ left ∧ (0 ≤ t → ∀ j, i ≤ j → ∀ h : j < xs.length, G47 1048576 m xs[j]) := by
 intro d
 induction d with
 | zero =>
  intro i left hd hi h0 h1
  refine ⟨left, Ev.here fun k => ?_, by omega, by omega, fun _ j hj hjl => by omega⟩
  simp only [laws_szItemS.l0]; rw [if_neg (by omega)]
 | succ d ih =>
  intro i left hd hi h0 h1
  have hil : i < xs.length := by omega
  obtain ⟨t, e, t0, t1, tq⟩ := szItem_tells m xs[i] (hx xs[i] (List.getElem_mem hil)) left h0 h1
  have hrd : rd_T47 xs (i : Int) = xs[i] := rdT xs _ i hil
  have hw : wrap64 ((i : Int) + 1) = ((i + 1 : Nat) : Int) := by rw [w64 (by omega) (by omega)]; rfl
  by_cases c : t < 0
  ·refine ⟨-1, ?_, by omega, by omega, by omega⟩
   exact Ev.step (fun k => by simp only [laws_szItemS.l0, hw]; rw [if_pos (by omega), if_pos (by omega), hrd]) (Ev.bind e (Ev.ite_pos c (Ev.const fun _ => rfl)))
  ·obtain ⟨u, ev, u0, u1, uq⟩ := ih (i + 1) t (by omega) (by omega) (by omega) (by omega)
   refine ⟨u, ?_, by omega, by omega, fun hu j hj hjl => ?_⟩
   ·exact Ev.step (fun k => by simp only [laws_szItemS.l0, hw]; rw [if_pos (by omega), if_pos (by omega), hrd]) (Ev.bind e (Ev.ite_neg c ev))
   ·rcases Nat.lt_or_ge i j with hij | hij
    ·exact uq hu j hij hjl
    ·obtain rfl : i = j := by omega
     exact tq (by omega)
theorem szItemS_tells (m : Nat) (xs : List S47) (left : Int) (hlen : xs.length ≤ maxLen) (hx : ∀ y ∈ xs, G47 maxLen m y) (h0 : 0 ≤ left) (h1 : left ≤ 1048576) :
  ∃ t, Ev (fun k => laws_szItemS.f k xs left) t ∧ -1 ≤ t ∧ t ≤ left ∧ (0 ≤ t → xs.length ≤ 1048576 ∧ ∀ y ∈ xs, G47 1048576 m y) := by
 unfold maxLen at hlen
 unfold laws_szItemS.f
 rw [w64 (i := left - (xs.length : Int)) (by omega) (by omega)]
 by_cases c : left - (xs.length : Int) < 0
 ·exact ⟨-1, Ev.ite_pos c (Ev.const fun _ => rfl), by omega, by omega, by omega⟩
 ·obtain ⟨t, ev, t0, t1, tq⟩ := szItemS_loop m xs (by omega) hx xs.length 0 (left - (xs.length : Int)) (by omega) (by omega) (by omega) (by omega)
  refine ⟨t, Ev.ite_neg c ev, by omega, by omega, fun ht => ⟨by omega, fun y hy => ?_⟩⟩
  obtain ⟨i, hi, rfl⟩ := List.getElem_of_mem hy
  exact tq ht i (by omega) hi

/-! ### copying -/
theorem toIntS_loop (xs : List Int) (hlen : xs.length ≤ 1048576) : ∀ (d i : Nat) (out : List Int), xs.length - i = d → i ≤ xs.length → out.length = xs.length → (∀ j, j < i → out[j]? = xs[j]?) →
  Ev (fun k => laws_toIntS.l0 k xs out i) xs := by
 intro d
 induction d with
 | zero =>
  intro i out hd hi ho hj
  have : out = xs := by
   apply List.ext_getElem?
   intro j
   rcases Nat.lt_or_ge j i with h | h
   ·exact hj j h
   ·rw [List.getElem?_eq_none (by omega), List.getElem?_eq_none (by omega)]
  rw [this]
  refine Ev.here fun k => ?_
  simp only [laws_toIntS.l0]; rw [if_neg (by omega)]
 | succ d ih =>
  intro i out hd hi ho hj
  have hil : i < xs.length := by omega
  have hrd : rd xs (i : Int) = xs[i] := rdT xs 0 i hil
  have hw : wrap64 ((i : Int) + 1) = ((i + 1 : Nat) : Int) := by rw [w64 (by omega) (by omega)]; rfl
  refine Ev.step (fun k => ?_) (ih (i + 1) (out.set i xs[i]) (by omega) (by omega) (by simpa using ho) fun j hji => ?_)
  ·simp only [laws_toIntS.l0, hw]; rw [if_pos (by omega), if_pos (by omega), if_pos (by omega), hrd, Int.toNat_natCast]
  ·rw [List.getElem?_set]
   by_cases e : i = j
   ·subst e; rw [if_pos rfl, if_pos (by omega), List.getElem?_eq_getElem hil]
   ·rw [if_neg e]; exact hj j (by omega)
theorem toIntS_tells (xs : List Int) (hlen : xs.length ≤ 1048576) : Ev (fun k => laws_toIntS.f k xs) xs := by
 unfold laws_toIntS.f
 refine Ev.ite_pos (by omega) (Ev.ite_pos (by omega) ?_)
 rw [Int.toNat_natCast]
 exact toIntS_loop xs hlen xs.length 0 _ (by omega) (by omega) (by simp) (fun j hj => by omega)
/-- A copied item. -/
def toI (x : S47) : S50 := ⟨x.f0, x.f1, x.f2, x.f3.map toA, x.f4, x.f5, x.f6⟩
theorem toI_good (m : Nat) (x : S47) (hx : G47 1048576 m x) : G50 1048576 m (toI x) := by
 obtain ⟨g0, g1, g2, ⟨g3, g3'⟩, g4, g5, g6⟩ := hx
 refine ⟨g0, g1, g2, ⟨by show (x.f3.map toA).length ≤ _; rw [List.length_map]; exact g3, fun y hy => ?_⟩, g4, g5, g6⟩
 obtain ⟨z, hz, rfl⟩ := List.mem_map.mp hy
 exact g3' z hz
theorem toItem_tells (m : Nat) (x : S47) (hx : G47 1048576 m x) : Ev (fun k => laws_toItem.f k x.f0 x.f1 x.f2 x.f3 x.f4 x.f5 x.f6) ((toI x).f0, (toI x).f1, (toI x).f2, (toI x).f3, (toI x).f4, (toI x).f5, (toI x).f6) := by
 unfold laws_toItem.f
 exact Ev.bind (toAttrS_tells x.f3 hx.2.2.2.1.1) (Ev.bind (toIntS_tells x.f6 hx.2.2.2.2.2.2.1) (Ev.const fun _ => rfl))
theorem toItemS_loop (m : Nat) (xs : List S47) (hlen : xs.length ≤ 1048576) (hx : ∀ y ∈ xs, G47 1048576 m y) : ∀ (d i : Nat) (out : List S50), xs.length - i = d → i ≤ xs.length → out.length = xs.length → (∀ j, j < i → out[j]? = (xs.map toI)[j]?) →
  Ev (fun k => laws_toItemS.l0 k xs out i) (xs.map toI) := by
 intro d
 induction d with
 | zero =>
  intro i out hd hi ho hj
  have : out = xs.map toI := by
   apply List.ext_getElem?
   intro j
   rcases Nat.lt_or_ge j i with h | h
   ·exact hj j h
   ·rw [List.getElem?_eq_none (by omega), List.getElem?_eq_none (by simp; omega)]
  rw [← this]
  refine Ev.here fun k => ?_
  simp only [laws_toItemS.l0]; rw [if_neg (by omega)]
 | succ d ih =>
  intro i out hd hi ho hj
  have hil : i < xs.length := by omega
  have hrd : rd_T47 xs (i : Int) = xs[i] := rdT xs _ i hil
  have hw : wrap64 ((i : Int) + 1) = ((i + 1 : Nat) : Int) := by rw [w64 (by omega) (by omega)]; rfl
  have hio : (i : Int) < (out.length : Int) := by omega
  have e := ih (i + 1) (out.set i (toI xs[i])) (by omega) (by omega) (by simpa using ho) fun j hji => by
   rw [List.getElem?_set]
   by_cases e : i = j
   ·subst e; rw [if_pos rfl, if_pos (by omega)]; simp [List.getElem?_eq_getElem hil]
   ·rw [if_neg e]; exact hj j (by omega)
  refine Ev.step (fun k => by simp only [laws_toItemS.l0, hw]; rw [if_pos (by omega), if_pos (by omega), hrd]) (Ev.bind (toItem_tells m xs[i] (hx xs[i] (List.getElem_mem hil))) (Ev.ite_pos hio ?_))
  rw [Int.toNat_natCast]
  exact e
theorem toItemS_tells (m : Nat) (xs : List S47) (hlen : xs.length ≤ 1048576) (hx : ∀ y ∈ xs, G47 1048576 m y) : Ev (fun k => laws_toItemS.f k xs) (xs.map toI) := by
 unfold laws_toItemS.f
 refine Ev.ite_pos (by omega) (Ev.ite_pos (by omega) ?_)
 rw [Int.toNat_natCast]
 exact toItemS_loop m xs hlen hx xs.length 0 _ (by omega) (by omega) (by simp) (fun j hj => by omega)

/-! ### comparing with itself -/
theorem eqIntS_loop (xs : List Int) (hlen : xs.length ≤ 1048576) : ∀ (d i : Nat), xs.length - i = d → i ≤ xs.length → Ev (fun k => laws_eqIntS.l0 k xs xs i) true := by
 intro d
 induction d with
 | zero =>
  intro i hd hi
  refine Ev.here fun k => ?_
  simp only [laws_eqIntS.l0]; rw [if_neg (by omega)]
 | succ d ih =>
  intro i hd hi
  have hw : wrap64 ((i : Int) + 1) = ((i + 1 : Nat) : Int) := by rw [w64 (by omega) (by omega)]; rfl
  refine Ev.step (fun k => ?_) (ih (i + 1) (by omega) (by omega))
  simp only [laws_eqIntS.l0, hw]; rw [if_pos (by omega), if_pos (by omega), if_pos (by omega), if_pos True.intro]
theorem eqIntS_self (xs : List Int) (hlen : xs.length ≤ 1048576) : Ev (fun k => laws_eqIntS.f k xs xs) true := by
 unfold laws_eqIntS.f
 exact Ev.ite_pos rfl (eqIntS_loop xs hlen xs.length 0 (by omega) (by omega))
theorem eqItem_self (m : Nat) (x : S50) (hx : G50 1048576 m x) : Ev (fun k => laws_eqItem.f k x.f0 x.f1 x.f2 x.f3 x.f4 x.f5 x.f6 x.f0 x.f1 x.f2 x.f3 x.f4 x.f5 x.f6) true := by
 obtain ⟨_, _, _, ⟨g3, _⟩, _, _, ⟨g6, _⟩⟩ := hx
 unfold laws_eqItem.f
 exact Ev.ite_pos rfl (Ev.ite_pos rfl (Ev.ite_pos rfl (Ev.bind (eqAttrS_self x.f3 (by omega)) (Ev.ite_pos rfl (Ev.ite_pos rfl (Ev.ite_pos rfl (Ev.bind (eqIntS_self x.f6 g6) (Ev.ite_pos rfl (Ev.const fun _ => rfl)))))))))
theorem eqItemS_loop (m : Nat) (xs : List S50) (hlen : xs.length ≤ 1048576) (hx : ∀ y ∈ xs, G50 1048576 m y) : ∀ (d i : Nat), xs.length - i = d → i ≤ xs.length → Ev (fun k => laws_eqItemS.l0 k xs xs i) true := by
 intro d
 induction d with
 | zero =>
  intro i hd hi
  refine Ev.here fun k => ?_
  simp only [laws_eqItemS.l0]; rw [if_neg (by omega)]
 | succ d ih =>
  intro i hd hi
  have hil : i < xs.length := by omega
  have hrd : rd_T50 xs (i : Int) = xs[i] := rdT xs _ i hil
  have hw : wrap64 ((i : Int) + 1) = ((i + 1 : Nat) : Int) := by rw [w64 (by omega) (by omega)]; rfl
  exact Ev.step (fun k => by simp only [laws_eqItemS.l0, hw]; rw [if_pos (by omega), if_pos (by omega), if_pos (by omega), hrd]) (Ev.bind (eqItem_self m xs[i] (hx xs[i] (List.getElem_mem hil))) (Ev.ite_pos rfl (ih (i + 1) (by omega) (by omega))))
theorem eqItemS_self (m : Nat) (xs : List S50) (hlen : xs.length ≤ 1048576) (hx : ∀ y ∈ xs, G50 1048576 m y) : Ev (fun k => laws_eqItemS.f k xs xs) true := by
 unfold laws_eqItemS.f
 exact Ev.ite_pos rfl (eqItemS_loop m xs hlen hx xs.length 0 (by omega) (by omega))
end Go.Proofs.Ytgljgbkbjlondaa.It
