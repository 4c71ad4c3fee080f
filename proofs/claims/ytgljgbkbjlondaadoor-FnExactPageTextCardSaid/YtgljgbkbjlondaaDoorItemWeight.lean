/- The weight of an item (its texts, its attributes) as the laws' own code counts it. No conditions but the sizes that the row gives. -/
import Derived.Test.YtgljgbkbjlondaaDoorItemBase
import Derived.Test.YtgljgbkbjlondaaDoorPp1
set_option linter.unusedVariables false
set_option linter.unusedSimpArgs false
namespace Go.Proofs.YtgljgbkbjlondaaDoor.It
open Go.RowKit Go.Proofs.YtgljgbkbjlondaaDoor.P Go.Proofs.YtgljgbkbjlondaaDoor.Evs Go.Proofs.YtgljgbkbjlondaaDoorW.PrintWords Go.Proofs.YtgljgbkbjlondaaDoorW.PrintLast

def wb (l : List S138) : Nat := (l.map fun a => a.f0.size + a.f1.size).sum
def wl (x : S85) : Nat := x.f2.size + x.f4.size + (wb x.f3 + x.f3.length)
theorem szAttr_w (n v : ByteArray) (left : Int) (hn : n.size ≤ maxLen) (hv : v.size ≤ maxLen) (h0 : 0 ≤ left) (h1 : left ≤ 1048576) :
  ∃ t, laws_szAttr.f n v left = some t ∧ -1 ≤ t ∧ t ≤ left ∧ (0 ≤ t → n.size + v.size ≤ (left - t).toNat) := by
 unfold maxLen at hn hv
 unfold laws_szAttr.f
 rw [w64 (i := left - (n.size : Int)) (by omega) (by omega)]
 by_cases c : left - (n.size : Int) < 0
 ·rw [if_pos c]; exact ⟨-1, rfl, by omega, by omega, by omega⟩
 ·rw [if_neg c, w64 (i := left - (n.size : Int) - (v.size : Int)) (by omega) (by omega)]
  by_cases c2 : left - (n.size : Int) - (v.size : Int) < 0
  ·rw [if_pos c2]; exact ⟨-1, rfl, by omega, by omega, by omega⟩
  ·rw [if_neg c2]; exact ⟨_, rfl, by omega, by omega, by omega⟩
theorem szAttrS_wl (xs : List S138) (m : Nat) (hlen : xs.length ≤ 1048576) (hx : ∀ y ∈ xs, G138 maxLen m y) : ∀ (d i : Nat) (left : Int), xs.length - i = d → i ≤ xs.length → 0 ≤ left → left ≤ 1048576 →
  ∃ t, Ev (fun k => laws_szAttrS.l0 k xs left i) t ∧ -1 ≤ t ∧ t ≤ left ∧ (0 ≤ t → wb (xs.drop i) ≤ (left - t).toNat) := by
 intro d
 induction d with
 | zero =>
  intro i left hd hi h0 h1
  obtain rfl : i = xs.length := by omega
  refine ⟨left, Ev.here fun k => ?_, by omega, by omega, fun _ => by rw [List.drop_length]; exact Nat.zero_le _⟩
  simp only [laws_szAttrS.l0]; rw [if_neg (by omega)]
 | succ d ih =>
  intro i left hd hi h0 h1
  have hil : i < xs.length := by omega
  obtain ⟨hn, hv⟩ := hx xs[i] (List.getElem_mem hil)
  obtain ⟨t, e, t0, t1, tq⟩ := szAttr_w xs[i].f0 xs[i].f1 left hn hv h0 h1
  have hrd : rd_T138 xs (i : Int) = xs[i] := rdT xs _ i hil
  by_cases c : t < 0
  ·refine ⟨-1, Ev.here fun k => ?_, by omega, by omega, by omega⟩
   simp only [laws_szAttrS.l0]; rw [if_pos (by omega), if_pos (by omega), hrd, e]; simp only [Option.bind_some]; rw [if_pos c]
  ·obtain ⟨u, ev, u0, u1, uq⟩ := ih (i + 1) t (by omega) (by omega) (by omega) (by omega)
   refine ⟨u, Ev.step (f := fun k => laws_szAttrS.l0 k xs t ((i + 1 : Nat) : Int)) (fun k => ?_) ev, by omega, by omega, fun hu => ?_⟩
   ·simp only [laws_szAttrS.l0]; rw [if_pos (by omega), if_pos (by omega), hrd, e]; simp only [Option.bind_some]; rw [if_neg c, w64 (i := (i : Int) + 1) (by omega) (by omega)]; rfl
   ·have q1 := uq hu
    have q2 := tq (by omega)
    rw [List.drop_eq_getElem_cons hil]
    show (xs[i].f0.size + xs[i].f1.size) + wb (xs.drop (i + 1)) ≤ _
    omega
theorem szAttrS_w (xs : List S138) (m : Nat) (left : Int) (hlen : xs.length ≤ maxLen) (hx : ∀ y ∈ xs, G138 maxLen m y) (h0 : 0 ≤ left) (h1 : left ≤ 1048576) :
  ∃ t, Ev (fun k => laws_szAttrS.f k xs left) t ∧ -1 ≤ t ∧ t ≤ left ∧ (0 ≤ t → wb xs + xs.length ≤ (left - t).toNat) := by
 unfold maxLen at hlen
 unfold laws_szAttrS.f
 rw [w64 (i := left - (xs.length : Int)) (by omega) (by omega)]
 by_cases c : left - (xs.length : Int) < 0
 ·exact ⟨-1, Ev.ite_pos c (Ev.const fun _ => rfl), by omega, by omega, by omega⟩
 ·obtain ⟨t, ev, t0, t1, tq⟩ := szAttrS_wl xs m (by omega) hx xs.length 0 (left - (xs.length : Int)) (by omega) (by omega) (by omega) (by omega)
  refine ⟨t, Ev.ite_neg c ev, by omega, by omega, fun ht => ?_⟩
  have q := tq ht
  rw [List.drop_zero] at q
  omega
theorem szItem_w (m : Nat) (x : S85) (hx : G85 maxLen m x) (left : Int) (h0 : 0 ≤ left) (h1 : left ≤ 1048576) :
  ∃ t, Ev (fun k => laws_szItem.f k x.f0 x.f1 x.f2 x.f3 x.f4 x.f5 x.f6 left) t ∧ -1 ≤ t ∧ t ≤ left ∧ (0 ≤ t → wl x ≤ 1048576) := by
 obtain ⟨g0, g1, g2, ⟨g3, g3'⟩, g4, g5, ⟨g6, g6'⟩⟩ := hx
 unfold maxLen at g2 g3 g4 g6
 unfold laws_szItem.f
 rw [w64 (i := left - (x.f2.size : Int)) (by omega) (by omega)]
 by_cases c : left - (x.f2.size : Int) < 0
 ·exact ⟨-1, Ev.ite_pos c (Ev.const fun _ => rfl), by omega, by omega, by omega⟩
 obtain ⟨t, et, t0, t1, tq⟩ := szAttrS_w x.f3 m (left - (x.f2.size : Int)) (by unfold maxLen; omega) g3' (by omega) (by omega)
 by_cases c1 : t < 0
 ·exact ⟨-1, Ev.ite_neg c (Ev.bind et (Ev.ite_pos c1 (Ev.const fun _ => rfl))), by omega, by omega, by omega⟩
 have hw1 : wrap64 (t - (x.f4.size : Int)) = t - (x.f4.size : Int) := w64 (by omega) (by omega)
 by_cases c2 : t - (x.f4.size : Int) < 0
 ·refine ⟨-1, Ev.ite_neg c (Ev.bind et (Ev.ite_neg c1 ?_)), by omega, by omega, by omega⟩
  simp only [hw1]
  exact Ev.ite_pos c2 (Ev.const fun _ => rfl)
 have hw2 : wrap64 (t - (x.f4.size : Int) - (x.f6.length : Int)) = t - (x.f4.size : Int) - (x.f6.length : Int) := w64 (by omega) (by omega)
 by_cases c3 : t - (x.f4.size : Int) - (x.f6.length : Int) < 0
 ·refine ⟨-1, Ev.ite_neg c (Ev.bind et (Ev.ite_neg c1 ?_)), by omega, by omega, by omega⟩
  simp only [hw1]
  refine Ev.ite_neg c2 (Ev.opt (a := -1) ?_ (Ev.ite_pos (by decide) (Ev.const fun _ => rfl)))
  unfold laws_szIntS.f
  rw [hw2, if_pos c3]
 ·refine ⟨t - (x.f4.size : Int) - (x.f6.length : Int), Ev.ite_neg c (Ev.bind et (Ev.ite_neg c1 ?_)), by omega, by omega, fun _ => ?_⟩
  ·simp only [hw1]
   refine Ev.ite_neg c2 (Ev.opt (a := t - (x.f4.size : Int) - (x.f6.length : Int)) ?_ (Ev.ite_neg c3 (Ev.const fun _ => rfl)))
   unfold laws_szIntS.f
   rw [hw2, if_neg c3]
  ·have q := tq (by omega)
   unfold wl
   omega
theorem szItemS_wl (m : Nat) (xs : List S85) (hlen : xs.length ≤ 1048576) (hx : ∀ y ∈ xs, G85 maxLen m y) : ∀ (d i : Nat) (left : Int), xs.length - i = d → i ≤ xs.length → 0 ≤ left → left ≤ 1048576 →
  ∃ t, Ev (fun k => laws_szItemS.l0 k xs left i) t ∧ -1 ≤ t ∧ t ≤ left ∧ (0 ≤ t → ∀ j, i ≤ j → ∀ h : j < xs.length, wl xs[j] ≤ 1048576) := by
 intro d
 induction d with
 | zero =>
  intro i left hd hi h0 h1
  refine ⟨left, Ev.here fun k => ?_, by omega, by omega, fun _ j hj hjl => by omega⟩
  simp only [laws_szItemS.l0]; rw [if_neg (by omega)]
 | succ d ih =>
  intro i left hd hi h0 h1
  have hil : i < xs.length := by omega
  obtain ⟨t, e, t0, t1, tq⟩ := szItem_w m xs[i] (hx xs[i] (List.getElem_mem hil)) left h0 h1
  have hrd : rd_T85 xs (i : Int) = xs[i] := rdT xs _ i hil
  have hw : wrap64 ((i : Int) + 1) = ((i + 1 : Nat) : Int) := by rw [w64 (by omega) (by omega)]; rfl
  by_cases c : t < 0
  ·refine ⟨-1, ?_, by omega, by omega, by omega⟩
   exact Ev.step (fun k => by simp only [laws_szItemS.l0, hw]; rw [if_pos (by omega), if_pos (by omega), hrd]) (Ev.bind e (Ev.ite_pos c (Ev.const fun _ => rfl)))
  ·obtain ⟨u, ev, u0, u1, uq⟩ := ih (i + 1) t (by omega) (by omega) (by omega) (by omega)
   refine ⟨u, ?_, by omega, by omega, fun hu j hj hjl => ?_⟩
   ·exact Ev.step (fun k => by simp only [laws_szItemS.l0, hw]; rw [if_pos (by omega), if_pos (by omega), hrd]) (Ev.bind e (Ev.ite_neg c ev))
   ·rcases Nat.lt_or_ge i j with hij | hij
    ·exact uq hu j hij hjl
    ·obtain rfl : i = j := by omega
     exact tq (by omega)
theorem szItemS_w (m : Nat) (xs : List S85) (left : Int) (hlen : xs.length ≤ maxLen) (hx : ∀ y ∈ xs, G85 maxLen m y) (h0 : 0 ≤ left) (h1 : left ≤ 1048576) :
  ∃ t, Ev (fun k => laws_szItemS.f k xs left) t ∧ -1 ≤ t ∧ t ≤ left ∧ (0 ≤ t → ∀ y ∈ xs, wl y ≤ 1048576) := by
 unfold maxLen at hlen
 unfold laws_szItemS.f
 rw [w64 (i := left - (xs.length : Int)) (by omega) (by omega)]
 by_cases c : left - (xs.length : Int) < 0
 ·exact ⟨-1, Ev.ite_pos c (Ev.const fun _ => rfl), by omega, by omega, by omega⟩
 ·obtain ⟨t, ev, t0, t1, tq⟩ := szItemS_wl m xs (by omega) hx xs.length 0 (left - (xs.length : Int)) (by omega) (by omega) (by omega) (by omega)
  refine ⟨t, Ev.ite_neg c ev, by omega, by omega, fun ht y hy => ?_⟩
  obtain ⟨i, hi, rfl⟩ := List.getElem_of_mem hy
  exact tq ht i (by omega) hi
def wa (l : List S114) : Nat := (l.map fun a => a.f0.size + a.f1.size + 1).sum
theorem wa_map (l : List S138) : wa (l.map toA) = wb l + l.length := by
 induction l with
 | nil => rfl
 | cons a l ih =>
  show (a.f0.size + a.f1.size + 1) + wa (l.map toA) = ((a.f0.size + a.f1.size) + wb l) + (l.length + 1)
  omega
/-- The weight of an item. -/
def wt (x : S90) : Nat := x.f2.size + x.f4.size + wa x.f3
theorem wt_toI (x : S85) : wt (toI x) = wl x := by
 show x.f2.size + x.f4.size + wa (x.f3.map toA) = x.f2.size + x.f4.size + (wb x.f3 + x.f3.length)
 rw [wa_map]
end Go.Proofs.YtgljgbkbjlondaaDoor.It
