/- Small words over the rounds of a printed function: 'Ev' by cases, the numbers' wrap, a row read at a place. No conditions: over any program. Loops that go over places and ask something at each: all the same shape. No conditions: over any program. Lists of attributes as the laws' own code goes over them: counting, copying, comparing: each ends, and what it tells. No conditions but the sizes that the row gives. Lists of items as the laws' own code goes over them: counting (szItemS), copying (toItemS), comparing (eqItemS): each ends, and what it tells. No conditions but the sizes that the row gives. An item by itself: the program's namesOnce, itemOk and the reference's l6Plain tell the same (the reference's is of the first item, too). No conditions but the size. Trees given by numbers: each number but 0 stands once among the kids of the one above it. What is reached from 0, in order, each with its depth: it ends, no number comes twice. Over no program. No conditions. The Ups and Kids of a list of items: what the program's kidsOk and the reference's l6Links tell. No conditions but the sizes. The order of a tree by numbers: the program's stack and the reference's recursion tell the same. No conditions but the sizes. The program's TreeOk and the reference's tell the same: a tree is right. No conditions but the sizes. The sizes of copied items. No conditions. -/
import Derived.Test.YtekkalnafngfeaaGreatVPrw
import Init
import Derived.Test.YtekkalnafngfeaaGreatPr2
import Derived.Test.YtekkalnafngfeaaGreatPr10
import Derived.Test.YtekkalnafngfeaaGreatPr13
import Derived.Test.YtekkalnafngfeaaGreatPr26
import Derived.Test.YtekkalnafngfeaaGreatPr31
import Derived.Test.YtekkalnafngfeaaGreatPr20
set_option linter.unusedVariables false
set_option linter.unusedSimpArgs false
namespace Go.Proofs.YtekkalnafngfeaaGreat.Evs
open Go.RowKit Go.Proofs.YtekkalnafngfeaaGreatW.PrintWords

theorem w64 {i : Int} (h0 : -9223372036854775808 ≤ i) (h1 : i ≤ 9223372036854775807) : wrap64 i = i := by unfold wrap64; omega
theorem Ev.here {α : Type} {g : Nat → Option α} {r : α} (h : ∀ k, g (k + 1) = some r) : Ev g r := ⟨1, fun k hk => by obtain ⟨k, rfl⟩ : ∃ m, k = m + 1 := ⟨k - 1, by omega⟩; exact h k⟩
theorem Ev.const {α : Type} {g : Nat → Option α} {r : α} (h : ∀ k, g k = some r) : Ev g r := ⟨0, fun k _ => h k⟩
theorem Ev.ite_pos {α : Type} {c : Prop} [Decidable c] {f g : Nat → Option α} {r : α} (hc : c) (h : Ev f r) : Ev (fun k => if c then f k else g k) r := by
 simp only [if_pos hc]; exact h
theorem Ev.ite_neg {α : Type} {c : Prop} [Decidable c] {f g : Nat → Option α} {r : α} (hc : ¬ c) (h : Ev g r) : Ev (fun k => if c then f k else g k) r := by
 simp only [if_neg hc]; exact h
theorem Ev.opt {α β : Type} {o : Option α} {f : Nat → α → Option β} {a : α} {r : β} (h : o = some a) (k : Ev (fun n => f n a) r) : Ev (fun n => o.bind (f n)) r := by
 subst h; exact k
theorem rdT {α : Type} (xs : List α) (z : α) (i : Nat) (h : i < xs.length) : xs.getD ((i : Int)).toNat z = xs[i] := by
 rw [Int.toNat_natCast, List.getD_eq_getElem?_getD, List.getElem?_eq_getElem h]; rfl
end Go.Proofs.YtekkalnafngfeaaGreat.Evs
namespace Go.Proofs.YtekkalnafngfeaaGreat.Evs
open Go.RowKit Go.Proofs.YtekkalnafngfeaaGreatW.PrintWords

theorem Ev.all {β : Type} {n : Nat} {g : Nat → Nat → Option β} {e : β} {ok : Nat → Prop} {j0 : Nat} (h0 : j0 ≤ n)
  (yes : ∀ j, j0 ≤ j → j < n → (∀ i, j0 ≤ i → i < j → ok i) → ok j → ∀ r, Ev (fun k => g k (j + 1)) r → Ev (fun k => g k j) r)
  (no : ∀ j, j0 ≤ j → j < n → (∀ i, j0 ≤ i → i < j → ok i) → ¬ ok j → Ev (fun k => g k j) e) :
  ((∀ i, j0 ≤ i → i < n → ok i) → ∀ r, Ev (fun k => g k n) r → Ev (fun k => g k j0) r) ∧ ((¬ ∀ i, j0 ≤ i → i < n → ok i) → Ev (fun k => g k j0) e) := by
 have main : ∀ d j, n - j = d → j0 ≤ j → j ≤ n → (∀ i, j0 ≤ i → i < j → ok i) → ((∀ i, j ≤ i → i < n → ok i) → ∀ r, Ev (fun k => g k n) r → Ev (fun k => g k j) r) ∧ ((¬ ∀ i, j ≤ i → i < n → ok i) → Ev (fun k => g k j) e) := by
  intro d
  induction d with
  | zero =>
   intro j hd _ hj _
   obtain rfl : j = n := by omega
   exact ⟨fun _ r h => h, fun h => absurd (fun i h1 h2 => absurd h2 (by omega)) h⟩
  | succ d ih =>
   intro j hd h1 hj hb
   by_cases c : ok j
   ·have hb2 : ∀ i, j0 ≤ i → i < j + 1 → ok i := fun i q1 q2 => by
     rcases Nat.lt_or_ge i j with q | q
     ·exact hb i q1 q
     ·obtain rfl : i = j := by omega
      exact c
    obtain ⟨y, x⟩ := ih (j + 1) (by omega) (by omega) (by omega) hb2
    refine ⟨fun hall r hr => yes j h1 (by omega) hb c r (y (fun i q1 q2 => hall i (by omega) q2) r hr), fun hn => yes j h1 (by omega) hb c e (x fun hall => hn fun i q1 q2 => ?_)⟩
    rcases Nat.lt_or_ge j i with q | q
    ·exact hall i (by omega) q2
    ·obtain rfl : i = j := by omega
     exact c
   ·exact ⟨fun hall => absurd (hall j (Nat.le_refl _) (by omega)) c, fun _ => no j h1 (by omega) hb c⟩
 exact main (n - j0) j0 rfl (Nat.le_refl _) h0 (fun i h1 h2 => by omega)
theorem Ev.uniq {α : Type} {g : Nat → Option α} {a b : α} (h1 : Ev g a) (h2 : Ev g b) : a = b := by
 obtain ⟨K1, k1⟩ := h1
 obtain ⟨K2, k2⟩ := h2
 exact Option.some.inj ((k1 (K1 + K2) (by omega)).symm.trans (k2 (K1 + K2) (by omega)))
theorem Ev.cast {α : Type} {g : Nat → Option α} {a b : α} (h : Ev g a) (e : a = b) : Ev g b := e ▸ h
theorem succ64 {j : Nat} (h : j < 9223372036854775807) : wrap64 ((j : Int) + 1) = ((j + 1 : Nat) : Int) := by rw [w64 (by omega) (by omega)]; rfl
end Go.Proofs.YtekkalnafngfeaaGreat.Evs
namespace Go.Proofs.YtekkalnafngfeaaGreat.It
open Go.RowKit Go.Proofs.YtekkalnafngfeaaGreat.P Go.Proofs.YtekkalnafngfeaaGreat.Evs Go.Proofs.YtekkalnafngfeaaGreatW.PrintWords Go.Proofs.YtekkalnafngfeaaGreatW.PrintLast

/-! ### attributes -/
theorem szAttr_tells (n v : ByteArray) (left : Int) (hn : n.size ≤ maxLen) (hv : v.size ≤ maxLen) (h0 : 0 ≤ left) (h1 : left ≤ 1048576) :
  ∃ t, laws_szAttr.f n v left = some t ∧ -1 ≤ t ∧ t ≤ left ∧ (0 ≤ t → n.size ≤ 1048576 ∧ v.size ≤ 1048576) := by
 unfold maxLen at hn hv
 unfold laws_szAttr.f
 rw [w64 (i := left - (n.size : Int)) (by omega) (by omega)]
 by_cases c : left - (n.size : Int) < 0
 ·rw [if_pos c]; exact ⟨-1, rfl, by omega, by omega, by omega⟩
 ·rw [if_neg c, w64 (i := left - (n.size : Int) - (v.size : Int)) (by omega) (by omega)]
  by_cases c2 : left - (n.size : Int) - (v.size : Int) < 0
  ·rw [if_pos c2]; exact ⟨-1, rfl, by omega, by omega, by omega⟩
  ·rw [if_neg c2]; exact ⟨_, rfl, by omega, by omega, by omega⟩

theorem szAttrS_loop (xs : List S47) (m : Nat) (hlen : xs.length ≤ 1048576) (hx : ∀ y ∈ xs, G47 maxLen m y) : ∀ (d i : Nat) (left : Int), xs.length - i = d → i ≤ xs.length → 0 ≤ left → left ≤ 1048576 →
  ∃ t, Ev (fun k => laws_szAttrS.l0 k xs left i) t ∧ -1 ≤ t ∧ t ≤ left ∧ (0 ≤ t → ∀ j, i ≤ j → ∀ h : j < xs.length, G47 1048576 m xs[j]) := by
 intro d
 induction d with
 | zero =>
  intro i left hd hi h0 h1
  refine ⟨left, Ev.here fun k => ?_, by omega, by omega, fun _ j hj hjl => by omega⟩
  simp only [laws_szAttrS.l0]; rw [if_neg (by omega)]
 | succ d ih =>
  intro i left hd hi h0 h1
  have hil : i < xs.length := by omega
  obtain ⟨hn, hv⟩ := hx xs[i] (List.getElem_mem hil)
  obtain ⟨t, e, t0, t1, tq⟩ := szAttr_tells xs[i].f0 xs[i].f1 left hn hv h0 h1
  have hrd : rd_T47 xs (i : Int) = xs[i] := rdT xs _ i hil
  by_cases c : t < 0
  ·refine ⟨-1, Ev.here fun k => ?_, by omega, by omega, by omega⟩
   simp only [laws_szAttrS.l0]; rw [if_pos (by omega), if_pos (by omega), hrd, e]; simp only [Option.bind_some]; rw [if_pos c]
  ·obtain ⟨u, ev, u0, u1, uq⟩ := ih (i + 1) t (by omega) (by omega) (by omega) (by omega)
   refine ⟨u, Ev.step (f := fun k => laws_szAttrS.l0 k xs t ((i + 1 : Nat) : Int)) (fun k => ?_) ev, by omega, by omega, fun hu j hj hjl => ?_⟩
   ·simp only [laws_szAttrS.l0]; rw [if_pos (by omega), if_pos (by omega), hrd, e]; simp only [Option.bind_some]; rw [if_neg c, w64 (i := (i : Int) + 1) (by omega) (by omega)]; rfl
   ·rcases Nat.lt_or_ge i j with hij | hij
    ·exact uq hu j hij hjl
    ·obtain rfl : i = j := by omega
     exact tq (by omega)

theorem szAttrS_tells (xs : List S47) (m : Nat) (left : Int) (hlen : xs.length ≤ maxLen) (hx : ∀ y ∈ xs, G47 maxLen m y) (h0 : 0 ≤ left) (h1 : left ≤ 1048576) :
  ∃ t, Ev (fun k => laws_szAttrS.f k xs left) t ∧ -1 ≤ t ∧ t ≤ left ∧ (0 ≤ t → xs.length ≤ 1048576 ∧ ∀ y ∈ xs, G47 1048576 m y) := by
 unfold maxLen at hlen
 unfold laws_szAttrS.f
 rw [w64 (i := left - (xs.length : Int)) (by omega) (by omega)]
 by_cases c : left - (xs.length : Int) < 0
 ·exact ⟨-1, Ev.ite_pos c (Ev.const fun _ => rfl), by omega, by omega, by omega⟩
 ·obtain ⟨t, ev, t0, t1, tq⟩ := szAttrS_loop xs m (by omega) hx xs.length 0 (left - (xs.length : Int)) (by omega) (by omega) (by omega) (by omega)
  refine ⟨t, Ev.ite_neg c ev, by omega, by omega, fun ht => ⟨by omega, fun y hy => ?_⟩⟩
  obtain ⟨i, hi, rfl⟩ := List.getElem_of_mem hy
  exact tq ht i (by omega) hi

/-- A copied attribute. -/
def toA (x : S47) : S56 := ⟨x.f0, x.f1⟩
theorem toAttrS_loop (xs : List S47) (hlen : xs.length ≤ 1048576) : ∀ (d i : Nat) (out : List S56), xs.length - i = d → i ≤ xs.length → out.length = xs.length → (∀ j, j < i → out[j]? = (xs.map toA)[j]?) →
  Ev (fun k => laws_toAttrS.l0 k xs out i) (xs.map toA) := by
 intro d
 induction d with
 | zero =>
  intro i out hd hi ho hj
  have : out = xs.map toA := by
   apply List.ext_getElem?
   intro j
   rcases Nat.lt_or_ge j i with h | h
   ·exact hj j h
   ·rw [List.getElem?_eq_none (by omega), List.getElem?_eq_none (by simp; omega)]
  rw [← this]
  refine Ev.here fun k => ?_
  simp only [laws_toAttrS.l0]; rw [if_neg (by omega)]
 | succ d ih =>
  intro i out hd hi ho hj
  have hil : i < xs.length := by omega
  have hrd : rd_T47 xs (i : Int) = xs[i] := rdT xs _ i hil
  refine Ev.step (f := fun k => laws_toAttrS.l0 k xs (out.set i (toA xs[i])) ((i + 1 : Nat) : Int)) (fun k => ?_) (ih (i + 1) (out.set i (toA xs[i])) (by omega) (by omega) (by simpa using ho) fun j hji => ?_)
  ·simp only [laws_toAttrS.l0]; rw [if_pos (by omega), if_pos (by omega), hrd]; simp only [laws_toAttr.f, Option.bind_some]; rw [if_pos (by omega), w64 (i := (i : Int) + 1) (by omega) (by omega), Int.toNat_natCast]; rfl
  ·rw [List.getElem?_set]
   by_cases e : i = j
   ·subst e; rw [if_pos rfl, if_pos (by omega)]; simp [List.getElem?_eq_getElem hil]
   ·rw [if_neg e]; exact hj j (by omega)
theorem toAttrS_tells (xs : List S47) (hlen : xs.length ≤ 1048576) : Ev (fun k => laws_toAttrS.f k xs) (xs.map toA) := by
 unfold laws_toAttrS.f
 refine Ev.ite_pos (by omega) (Ev.ite_pos (by omega) ?_)
 rw [Int.toNat_natCast]
 exact toAttrS_loop xs hlen xs.length 0 _ (by omega) (by omega) (by simp) (fun j hj => by omega)

theorem eqAttrS_loop (xs : List S56) (hlen : xs.length ≤ 4611686018427387904) : ∀ (d i : Nat), xs.length - i = d → i ≤ xs.length → Ev (fun k => laws_eqAttrS.l0 k xs xs i) true := by
 intro d
 induction d with
 | zero =>
  intro i hd hi
  refine Ev.here fun k => ?_
  simp only [laws_eqAttrS.l0]; rw [if_neg (by omega)]
 | succ d ih =>
  intro i hd hi
  refine Ev.step (f := fun k => laws_eqAttrS.l0 k xs xs ((i + 1 : Nat) : Int)) (fun k => ?_) (ih (i + 1) (by omega) (by omega))
  simp only [laws_eqAttrS.l0]; rw [if_pos (by omega), if_pos (by omega), if_pos (by omega)]; simp only [laws_eqAttr.f, if_true, Option.bind_some]; rw [w64 (i := (i : Int) + 1) (by omega) (by omega)]; rfl
theorem eqAttrS_self (xs : List S56) (hlen : xs.length ≤ 4611686018427387904) : Ev (fun k => laws_eqAttrS.f k xs xs) true := by
 unfold laws_eqAttrS.f
 exact Ev.ite_pos rfl (eqAttrS_loop xs hlen xs.length 0 (by omega) (by omega))

end Go.Proofs.YtekkalnafngfeaaGreat.It
namespace Go.Proofs.YtekkalnafngfeaaGreat.It
open Go.RowKit Go.Proofs.YtekkalnafngfeaaGreat.P Go.Proofs.YtekkalnafngfeaaGreat.Evs Go.Proofs.YtekkalnafngfeaaGreatW.PrintWords Go.Proofs.YtekkalnafngfeaaGreatW.PrintLast

/-! ### counting -/
theorem szItem_tells (m : Nat) (x : S67) (hx : G67 maxLen m x) (left : Int) (h0 : 0 ≤ left) (h1 : left ≤ 1048576) :
  ∃ t, Ev (fun k => laws_szItem.f k x.f0 x.f1 x.f2 x.f3 x.f4 x.f5 x.f6 left) t ∧ -1 ≤ t ∧ t ≤ left ∧ (0 ≤ t → G67 1048576 m x) := by
 obtain ⟨g0, g1, g2, ⟨g3, g3'⟩, g4, g5, ⟨g6, g6'⟩⟩ := hx
 unfold maxLen at g2 g3 g4 g6
 unfold laws_szItem.f
 rw [w64 (i := left - (x.f2.size : Int)) (by omega) (by omega)]
 by_cases c : left - (x.f2.size : Int) < 0
 ·exact ⟨-1, Ev.ite_pos c (Ev.const fun _ => rfl), by omega, by omega, by omega⟩
 obtain ⟨t, et, t0, t1, tq⟩ := szAttrS_tells x.f3 m (left - (x.f2.size : Int)) (by unfold maxLen; omega) g3' (by omega) (by omega)
 by_cases c1 : t < 0
 ·exact ⟨-1, Ev.ite_neg c (Ev.bind et (Ev.ite_pos c1 (Ev.const fun _ => rfl))), by omega, by omega, by omega⟩
 have hw1 : wrap64 (t - (x.f4.size : Int)) = t - (x.f4.size : Int) := w64 (by omega) (by omega)
 by_cases c2 : t - (x.f4.size : Int) < 0
 ·refine ⟨-1, Ev.ite_neg c (Ev.bind et (Ev.ite_neg c1 ?_)), by omega, by omega, by omega⟩
  simp only [hw1]
  exact Ev.ite_pos c2 (Ev.const fun _ => rfl)
 have hw2 : wrap64 (t - (x.f4.size : Int) - (x.f6.length : Int)) = t - (x.f4.size : Int) - (x.f6.length : Int) := w64 (by omega) (by omega)
 by_cases c3 : t - (x.f4.size : Int) - (x.f6.length : Int) < 0
 ·refine ⟨-1, Ev.ite_neg c (Ev.bind et (Ev.ite_neg c1 ?_)), by omega, by omega, by omega⟩
  simp only [hw1]
  refine Ev.ite_neg c2 (Ev.opt (a := -1) ?_ (Ev.ite_pos (by decide) (Ev.const fun _ => rfl)))
  unfold laws_szIntS.f
  rw [hw2, if_pos c3]
 ·refine ⟨t - (x.f4.size : Int) - (x.f6.length : Int), Ev.ite_neg c (Ev.bind et (Ev.ite_neg c1 ?_)), by omega, by omega, fun _ => ?_⟩
  ·simp only [hw1]
   refine Ev.ite_neg c2 (Ev.opt (a := t - (x.f4.size : Int) - (x.f6.length : Int)) ?_ (Ev.ite_neg c3 (Ev.const fun _ => rfl)))
   unfold laws_szIntS.f
   rw [hw2, if_neg c3]
  ·obtain ⟨q1, q2⟩ := tq (by omega)
   exact ⟨g0, g1, by omega, ⟨q1, q2⟩, by omega, g5, ⟨by omega, g6'⟩⟩
theorem szItemS_loop (m : Nat) (xs : List S67) (hlen : xs.length ≤ 1048576) (hx : ∀ y ∈ xs, G67 maxLen m y) : ∀ (d i : Nat) (left : Int), xs.length - i = d → i ≤ xs.length → 0 ≤ left → left ≤ 1048576 →
  ∃ t, Ev (fun k => laws_szItemS.l0 k xs left i) t ∧ -1 ≤ t ∧ t ≤ left ∧ (0 ≤ t → ∀ j, i ≤ j → ∀ h : j < xs.length, G67 1048576 m xs[j]) := by
 intro d
 induction d with
 | zero =>
  intro i left hd hi h0 h1
  refine ⟨left, Ev.here fun k => ?_, by omega, by omega, fun _ j hj hjl => by omega⟩
  simp only [laws_szItemS.l0]; rw [if_neg (by omega)]
 | succ d ih =>
  intro i left hd hi h0 h1
  have hil : i < xs.length := by omega
  obtain ⟨t, e, t0, t1, tq⟩ := szItem_tells m xs[i] (hx xs[i] (List.getElem_mem hil)) left h0 h1
  have hrd : rd_T67 xs (i : Int) = xs[i] := rdT xs _ i hil
  have hw : wrap64 ((i : Int) + 1) = ((i + 1 : Nat) : Int) := by rw [w64 (by omega) (by omega)]; rfl
  by_cases c : t < 0
  ·refine ⟨-1, ?_, by omega, by omega, by omega⟩
   exact Ev.step (fun k => by simp only [laws_szItemS.l0, hw]; rw [if_pos (by omega), if_pos (by omega), hrd]) (Ev.bind e (Ev.ite_pos c (Ev.const fun _ => rfl)))
  ·obtain ⟨u, ev, u0, u1, uq⟩ := ih (i + 1) t (by omega) (by omega) (by omega) (by omega)
   refine ⟨u, ?_, by omega, by omega, fun hu j hj hjl => ?_⟩
   ·exact Ev.step (fun k => by simp only [laws_szItemS.l0, hw]; rw [if_pos (by omega), if_pos (by omega), hrd]) (Ev.bind e (Ev.ite_neg c ev))
   ·rcases Nat.lt_or_ge i j with hij | hij
    ·exact uq hu j hij hjl
    ·obtain rfl : i = j := by omega
     exact tq (by omega)
theorem szItemS_tells (m : Nat) (xs : List S67) (left : Int) (hlen : xs.length ≤ maxLen) (hx : ∀ y ∈ xs, G67 maxLen m y) (h0 : 0 ≤ left) (h1 : left ≤ 1048576) :
  ∃ t, Ev (fun k => laws_szItemS.f k xs left) t ∧ -1 ≤ t ∧ t ≤ left ∧ (0 ≤ t → xs.length ≤ 1048576 ∧ ∀ y ∈ xs, G67 1048576 m y) := by
 unfold maxLen at hlen
 unfold laws_szItemS.f
 rw [w64 (i := left - (xs.length : Int)) (by omega) (by omega)]
 by_cases c : left - (xs.length : Int) < 0
 ·exact ⟨-1, Ev.ite_pos c (Ev.const fun _ => rfl), by omega, by omega, by omega⟩
 ·obtain ⟨t, ev, t0, t1, tq⟩ := szItemS_loop m xs (by omega) hx xs.length 0 (left - (xs.length : Int)) (by omega) (by omega) (by omega) (by omega)
  refine ⟨t, Ev.ite_neg c ev, by omega, by omega, fun ht => ⟨by omega, fun y hy => ?_⟩⟩
  obtain ⟨i, hi, rfl⟩ := List.getElem_of_mem hy
  exact tq ht i (by omega) hi

/-! ### copying -/
theorem toIntS_loop (xs : List Int) (hlen : xs.length ≤ 1048576) : ∀ (d i : Nat) (out : List Int), xs.length - i = d → i ≤ xs.length → out.length = xs.length → (∀ j, j < i → out[j]? = xs[j]?) →
  Ev (fun k => laws_toIntS.l0 k xs out i) xs := by
 intro d
 induction d with
 | zero =>
  intro i out hd hi ho hj
  have : out = xs := by
   apply List.ext_getElem?
   intro j
   rcases Nat.lt_or_ge j i with h | h
   ·exact hj j h
   ·rw [List.getElem?_eq_none (by omega), List.getElem?_eq_none (by omega)]
  rw [this]
  refine Ev.here fun k => ?_
  simp only [laws_toIntS.l0]; rw [if_neg (by omega)]
 | succ d ih =>
  intro i out hd hi ho hj
  have hil : i < xs.length := by omega
  have hrd : rd xs (i : Int) = xs[i] := rdT xs 0 i hil
  have hw : wrap64 ((i : Int) + 1) = ((i + 1 : Nat) : Int) := by rw [w64 (by omega) (by omega)]; rfl
  refine Ev.step (fun k => ?_) (ih (i + 1) (out.set i xs[i]) (by omega) (by omega) (by simpa using ho) fun j hji => ?_)
  ·simp only [laws_toIntS.l0, hw]; rw [if_pos (by omega), if_pos (by omega), if_pos (by omega), hrd, Int.toNat_natCast]
  ·rw [List.getElem?_set]
   by_cases e : i = j
   ·subst e; rw [if_pos rfl, if_pos (by omega), List.getElem?_eq_getElem hil]
   ·rw [if_neg e]; exact hj j (by omega)
theorem toIntS_tells (xs : List Int) (hlen : xs.length ≤ 1048576) : Ev (fun k => laws_toIntS.f k xs) xs := by
 unfold laws_toIntS.f
 refine Ev.ite_pos (by omega) (Ev.ite_pos (by omega) ?_)
 rw [Int.toNat_natCast]
 exact toIntS_loop xs hlen xs.length 0 _ (by omega) (by omega) (by simp) (fun j hj => by omega)
/-- A copied item. -/
def toI (x : S67) : S53 := ⟨x.f0, x.f1, x.f2, x.f3.map toA, x.f4, x.f5, x.f6⟩
theorem toI_good (m : Nat) (x : S67) (hx : G67 1048576 m x) : G53 1048576 m (toI x) := by
 obtain ⟨g0, g1, g2, ⟨g3, g3'⟩, g4, g5, g6⟩ := hx
 refine ⟨g0, g1, g2, ⟨by show (x.f3.map toA).length ≤ _; rw [List.length_map]; exact g3, fun y hy => ?_⟩, g4, g5, g6⟩
 obtain ⟨z, hz, rfl⟩ := List.mem_map.mp hy
 exact g3' z hz
theorem toItem_tells (m : Nat) (x : S67) (hx : G67 1048576 m x) : Ev (fun k => laws_toItem.f k x.f0 x.f1 x.f2 x.f3 x.f4 x.f5 x.f6) ((toI x).f0, (toI x).f1, (toI x).f2, (toI x).f3, (toI x).f4, (toI x).f5, (toI x).f6) := by
 unfold laws_toItem.f
 exact Ev.bind (toAttrS_tells x.f3 hx.2.2.2.1.1) (Ev.bind (toIntS_tells x.f6 hx.2.2.2.2.2.2.1) (Ev.const fun _ => rfl))
theorem toItemS_loop (m : Nat) (xs : List S67) (hlen : xs.length ≤ 1048576) (hx : ∀ y ∈ xs, G67 1048576 m y) : ∀ (d i : Nat) (out : List S53), xs.length - i = d → i ≤ xs.length → out.length = xs.length → (∀ j, j < i → out[j]? = (xs.map toI)[j]?) →
  Ev (fun k => laws_toItemS.l0 k xs out i) (xs.map toI) := by
 intro d
 induction d with
 | zero =>
  intro i out hd hi ho hj
  have : out = xs.map toI := by
   apply List.ext_getElem?
   intro j
   rcases Nat.lt_or_ge j i with h | h
   ·exact hj j h
   ·rw [List.getElem?_eq_none (by omega), List.getElem?_eq_none (by simp; omega)]
  rw [← this]
  refine Ev.here fun k => ?_
  simp only [laws_toItemS.l0]; rw [if_neg (by omega)]
 | succ d ih =>
  intro i out hd hi ho hj
  have hil : i < xs.length := by omega
  have hrd : rd_T67 xs (i : Int) = xs[i] := rdT xs _ i hil
  have hw : wrap64 ((i : Int) + 1) = ((i + 1 : Nat) : Int) := by rw [w64 (by omega) (by omega)]; rfl
  have hio : (i : Int) < (out.length : Int) := by omega
  have e := ih (i + 1) (out.set i (toI xs[i])) (by omega) (by omega) (by simpa using ho) fun j hji => by
   rw [List.getElem?_set]
   by_cases e : i = j
   ·subst e; rw [if_pos rfl, if_pos (by omega)]; simp [List.getElem?_eq_getElem hil]
   ·rw [if_neg e]; exact hj j (by omega)
  refine Ev.step (fun k => by simp only [laws_toItemS.l0, hw]; rw [if_pos (by omega), if_pos (by omega), hrd]) (Ev.bind (toItem_tells m xs[i] (hx xs[i] (List.getElem_mem hil))) (Ev.ite_pos hio ?_))
  rw [Int.toNat_natCast]
  exact e
theorem toItemS_tells (m : Nat) (xs : List S67) (hlen : xs.length ≤ 1048576) (hx : ∀ y ∈ xs, G67 1048576 m y) : Ev (fun k => laws_toItemS.f k xs) (xs.map toI) := by
 unfold laws_toItemS.f
 refine Ev.ite_pos (by omega) (Ev.ite_pos (by omega) ?_)
 rw [Int.toNat_natCast]
 exact toItemS_loop m xs hlen hx xs.length 0 _ (by omega) (by omega) (by simp) (fun j hj => by omega)

/-! ### comparing with itself -/
theorem eqIntS_loop (xs : List Int) (hlen : xs.length ≤ 1048576) : ∀ (d i : Nat), xs.length - i = d → i ≤ xs.length → Ev (fun k => laws_eqIntS.l0 k xs xs i) true := by
 intro d
 induction d with
 | zero =>
  intro i hd hi
  refine Ev.here fun k => ?_
  simp only [laws_eqIntS.l0]; rw [if_neg (by omega)]
 | succ d ih =>
  intro i hd hi
  have hw : wrap64 ((i : Int) + 1) = ((i + 1 : Nat) : Int) := by rw [w64 (by omega) (by omega)]; rfl
  refine Ev.step (fun k => ?_) (ih (i + 1) (by omega) (by omega))
  simp only [laws_eqIntS.l0, hw]; rw [if_pos (by omega), if_pos (by omega), if_pos (by omega), if_pos True.intro]
theorem eqIntS_self (xs : List Int) (hlen : xs.length ≤ 1048576) : Ev (fun k => laws_eqIntS.f k xs xs) true := by
 unfold laws_eqIntS.f
 exact Ev.ite_pos rfl (eqIntS_loop xs hlen xs.length 0 (by omega) (by omega))
end Go.Proofs.YtekkalnafngfeaaGreat.It
namespace Go.Proofs.YtekkalnafngfeaaGreat.Pl
open Go.RowKit Go.Proofs.YtekkalnafngfeaaGreat.P Go.Proofs.YtekkalnafngfeaaGreat.Evs Go.Proofs.YtekkalnafngfeaaGreatW.PrintWords Go.Proofs.YtekkalnafngfeaaGreatW.PrintLast

theorem inRange_eq (a l m : Int) : impl_inRange.f a l m = some (decide (l ≤ a ∧ a ≤ m)) := by
 unfold impl_inRange.f
 by_cases h : a ≥ l
 ·rw [if_pos h]; simp [h]
 ·rw [if_neg h]; simp; omega
theorem l1In_eq (a l m : Int) : spec_l1In.f a l m = some (decide (l ≤ a ∧ a ≤ m)) := inRange_eq a l m
theorem Has_loop (nm : ByteArray) (l : List S56) (hl : l.length ≤ 1048576) : ∀ (d j : Nat), l.length - j = d → j ≤ l.length → Ev (fun k => spec_l4Has.l0 k l nm j) ((l.drop j).any (hasA nm)) := by
 intro d
 induction d with
 | zero =>
  intro j hd hj
  rw [List.drop_eq_nil_of_le (by omega)]
  refine Ev.here fun k => ?_
  simp only [spec_l4Has.l0]; rw [if_neg (by omega)]; rfl
 | succ d ih =>
  intro j hd hj
  have hjl : j < l.length := by omega
  have hrd : rd_T56 l (j : Int) = l[j] := rdT l _ j hjl
  have hw : wrap64 ((j : Int) + 1) = ((j + 1 : Nat) : Int) := by rw [w64 (by omega) (by omega)]; rfl
  rw [List.drop_eq_getElem_cons hjl, List.any_cons]
  have hstep : ∀ k, spec_l4Has.l0 (k + 1) l nm j = if hasA nm l[j] = true then some true else spec_l4Has.l0 k l nm ((j + 1 : Nat) : Int) := fun k => by
   simp only [spec_l4Has.l0, hrd, hw]
   rw [if_pos (by omega), if_pos (by omega)]
   by_cases c : l[j].f0.toList = nm.toList
   ·rw [if_pos c, if_pos (by unfold hasA; rw [c]; simp)]
   ·rw [if_neg c, if_neg (by unfold hasA; simpa using c)]
  by_cases c : hasA nm l[j] = true
  ·rw [c, Bool.true_or]; exact Ev.here fun k => by rw [hstep, if_pos c]
  ·rw [Bool.eq_false_iff.mpr c, Bool.false_or]; exact Ev.step (fun k => by rw [hstep, if_neg c]) (ih (j + 1) (by omega) (by omega))
theorem Has_tells (nm : ByteArray) (l : List S56) (hl : l.length ≤ 1048576) : Ev (fun k => spec_l4Has.f k l nm) (l.any (hasA nm)) := by
 have h := Has_loop nm l hl l.length 0 (by omega) (by omega)
 rw [List.drop_zero] at h
 exact h
def tailP (f0 : Int) (f4 : ByteArray) (kids : List Int) (x3 : Bool) : Bool := if f0 = 1 then (f4.toList == ([] : List UInt8)) else if f0 = 3 ∨ f0 = 4 ∨ f0 = 5 then ((kids.length : Int) == 0) else x3
theorem Names_loop (l : List S56) (hl : l.length ≤ 1048576) (x3 : Bool) (f0 f1 f5 : Int) (f2 f4 : ByteArray) (kids : List Int) : ∀ (d j : Nat), l.length - j = d → j ≤ l.length →
  ∃ b : Bool, Ev (fun k => impl_namesOnce.l0 k l l l.length j) b ∧ Ev (fun k => spec_l6Plain.l0 k x3 j f0 f1 f2 l f4 f5 kids) (b && tailP f0 f4 kids x3) := by
 intro d
 induction d with
 | zero =>
  intro j hd hj
  refine ⟨true, Ev.here fun k => ?_, Ev.here fun k => ?_⟩
  ·simp only [impl_namesOnce.l0]; rw [if_neg (by omega)]
  ·simp only [spec_l6Plain.l0]; rw [if_neg (by omega), Bool.true_and]
   unfold tailP
   by_cases c1 : f0 = 1
   ·rw [if_pos c1, if_pos c1]
   rw [if_neg c1, if_neg c1]
   by_cases c3 : f0 = 3
   ·rw [if_pos c3, if_pos (Or.inl c3)]
   rw [if_neg c3]
   by_cases c4 : f0 = 4
   ·rw [if_pos c4, if_pos (Or.inr (Or.inl c4))]
   rw [if_neg c4]
   by_cases c5 : f0 = 5
   ·rw [if_pos c5, if_pos (Or.inr (Or.inr c5))]
   rw [if_neg c5, if_neg (by omega)]
 | succ d ih =>
  intro j hd hj
  have hjl : j < l.length := by omega
  have hrd : rd_T56 l (j : Int) = l[j] := rdT l _ j hjl
  have hw : wrap64 ((j : Int) + 1) = ((j + 1 : Nat) : Int) := by rw [w64 (by omega) (by omega)]; rfl
  have hh := Has_tells l[j].f0 (l.take j) (by rw [List.length_take]; omega)
  have hA : (j : Int) < (l.length : Int) := Int.ofNat_lt.mpr hjl
  have hB : (0 : Int) ≤ (j : Int) := Int.natCast_nonneg j
  have hC : (j : Int) ≤ (l.length : Int) := Int.le_of_lt hA
  have hi : ∀ k, impl_namesOnce.l0 (k + 1) l l l.length j = if (l.take j).any (hasA l[j].f0) = true then some false else impl_namesOnce.l0 k l l l.length ((j + 1 : Nat) : Int) := fun k => by
   simp only [impl_namesOnce.l0, hrd, hw, Int.toNat_natCast, impl_hasAttr.f, Option.bind_some]
   rw [if_pos hA, if_pos hB, if_pos hA, if_pos hC]
  have hs : ∀ k, spec_l6Plain.l0 (k + 1) x3 j f0 f1 f2 l f4 f5 kids = (spec_l4Has.f k (l.take j) l[j].f0).bind fun t => if t = true then some false else spec_l6Plain.l0 k x3 ((j + 1 : Nat) : Int) f0 f1 f2 l f4 f5 kids := fun k => by
   simp only [spec_l6Plain.l0, hrd, hw, Int.toNat_natCast]
   rw [if_pos hA, if_pos hB, if_pos hC]
  by_cases c : (l.take j).any (hasA l[j].f0) = true
  ·exact ⟨false, Ev.here fun k => by rw [hi, if_pos c], Ev.step hs (Ev.bind hh (Ev.ite_pos c (Ev.const fun _ => rfl)))⟩
  ·obtain ⟨b, e1, e2⟩ := ih (j + 1) (by omega) (by omega)
   exact ⟨b, Ev.step (fun k => by rw [hi, if_neg c]) e1, Ev.step hs (Ev.bind hh (Ev.ite_neg c e2))⟩
/-- Of an item: what the reference tells, and what the program tells of one that is not the first. -/
theorem Plain_same (f0 f1 f5 : Int) (f2 f4 : ByteArray) (l : List S56) (kids : List Int) (hl : l.length ≤ 1048576) :
  ∃ b : Bool, Ev (fun k => spec_l6Plain.f k f0 f1 f2 l f4 f5 kids) b ∧ Ev (fun k => impl_itemOk.f k f0 f1 f2 l f4 f5 kids) (b && !(f0 == 1)) ∧ (f0 = 1 → impl_pageOk.f f0 f1 f2 l f4 f5 kids = some (b && f5 == -1)) := by
 obtain ⟨b, e1, e2⟩ := Names_loop l hl (f0 == 2) f0 f1 f5 f2 f4 kids l.length 0 (by omega) (by omega)
 replace e1 : Ev (fun k => impl_namesOnce.f k l) b := e1
 have J0 : Ev (fun k => spec_l6Plain.j0 k (f0 == 2) true f0 f1 f2 l f4 f5 kids) false := Ev.here fun k => by simp only [spec_l6Plain.j0]; rw [if_pos True.intro]
 have J1 : Ev (fun k => spec_l6Plain.j0 k (f0 == 2) false f0 f1 f2 l f4 f5 kids) (b && tailP f0 f4 kids (f0 == 2)) := Ev.step (fun k => by simp only [spec_l6Plain.j0]; rw [if_neg (by decide)]; rfl) e2
 unfold spec_l6Plain.f impl_itemOk.f impl_pageOk.f
 by_cases c2 : f0 = 2
 ·have h1 : (f0 == 1) = false := by rw [beq_eq_false_iff_ne]; omega
  have no1 : ∀ P : Prop, f0 = 1 → P := fun P h => by omega
  have ht : tailP f0 f4 kids (f0 == 2) = true := by
   unfold tailP
   rw [if_neg (by omega), if_neg (by omega), beq_iff_eq]; exact c2
  rw [h1]
  by_cases cn : f2.toList = ([] : List UInt8)
  ·refine ⟨false, Ev.ite_pos c2 (Ev.ite_pos cn J0), Ev.ite_pos c2 ?_, no1 _⟩
   by_cases c4 : f4.toList = ([] : List UInt8)
   ·exact Ev.ite_pos c4 (Ev.ite_pos cn (Ev.const fun _ => rfl))
   ·exact Ev.ite_neg c4 (Ev.const fun _ => rfl)
  ·by_cases c4 : f4.toList = ([] : List UInt8)
   ·by_cases cr : 0 ≤ f1 ∧ f1 ≤ 2
    ·refine ⟨b && true, Ev.ite_pos c2 (Ev.ite_neg cn (Ev.ite_pos c4 (Ev.opt (l1In_eq f1 0 2) ?_))), Ev.ite_pos c2 (Ev.ite_pos c4 (Ev.ite_neg cn (Ev.opt (inRange_eq f1 0 2) ?_))), no1 _⟩
     ·rw [ht] at J1
      rw [decide_eq_true cr]; exact J1
     ·refine Ev.ite_pos (decide_eq_true cr) (Ev.bind e1 ?_)
      rw [Bool.and_true, Bool.not_false, Bool.and_true]; exact Ev.const fun _ => rfl
    ·refine ⟨false, Ev.ite_pos c2 (Ev.ite_neg cn (Ev.ite_pos c4 (Ev.opt (l1In_eq f1 0 2) ?_))), Ev.ite_pos c2 (Ev.ite_pos c4 (Ev.ite_neg cn (Ev.opt (inRange_eq f1 0 2) ?_))), no1 _⟩
     ·rw [decide_eq_false cr]; exact J0
     ·exact Ev.ite_neg (by rw [decide_eq_true_iff]; exact cr) (Ev.const fun _ => rfl)
   ·exact ⟨false, Ev.ite_pos c2 (Ev.ite_neg cn (Ev.ite_neg c4 J0)), Ev.ite_pos c2 (Ev.ite_neg c4 (Ev.const fun _ => rfl)), no1 _⟩
 ·have hx : (f0 == 2) = false := by rw [beq_eq_false_iff_ne]; exact c2
  have fails : ∀ (X : ∀ {q : Bool}, f2.toList ≠ ([] : List UInt8) ∨ l.length ≠ 0 ∨ f1 ≠ 0 → True), f2.toList ≠ ([] : List UInt8) ∨ l.length ≠ 0 ∨ f1 ≠ 0 →
    Ev (fun k => if f0 = 2 then (if f4.toList = ([] : List UInt8) then (if f2.toList = ([] : List UInt8) then (some false) else ((impl_inRange.f f1 0 2).bind fun t209 => (if t209 = true then ((impl_namesOnce.f k l).bind fun t210 => (some t210)) else (some false)))) else (some false)) else (if f0 = 3 then (if f2.toList = ([] : List UInt8) then (if f1 = 0 then (if (l.length : Int) = 0 then (some ((kids.length : Int) == 0)) else (some false)) else (some false)) else (some false)) else (if f0 = 4 then (if f2.toList = ([] : List UInt8) then (if f1 = 0 then (if (l.length : Int) = 0 then (some ((kids.length : Int) == 0)) else (some false)) else (some false)) else (some false)) else (if f0 = 5 then (if f2.toList = ([] : List UInt8) then (if f1 = 0 then (if (l.length : Int) = 0 then (some ((kids.length : Int) == 0)) else (some false)) else (some false)) else (some false)) else (some false))))) false := fun _ h => by
   have one : (if f2.toList = ([] : List UInt8) then (if f1 = 0 then (if (l.length : Int) = 0 then (some ((kids.length : Int) == 0)) else (some false)) else (some false)) else (some false)) = some false := by
    by_cases q1 : f2.toList = ([] : List UInt8)
    ·rw [if_pos q1]
     by_cases q2 : f1 = 0
     ·rw [if_pos q2]
      rcases h with h | h | h
      ·exact absurd q1 h
      ·rw [if_neg (by omega)]
      ·exact absurd q2 h
     ·rw [if_neg q2]
    ·rw [if_neg q1]
   simp only [one]
   refine Ev.ite_neg c2 (Ev.const fun _ => ?_)
   repeat' split
   all_goals rfl
  have pfails : f2.toList ≠ ([] : List UInt8) ∨ l.length ≠ 0 ∨ f1 ≠ 0 → f0 = 1 → (if f0 = 1 then (if f5 = (-1) then (if f2.toList = ([] : List UInt8) then (if (l.length : Int) = 0 then (if f1 = 0 then (some (f4.toList == ([] : List UInt8))) else (some false)) else (some false)) else (some false)) else (some false)) else (some false)) = some (false && f5 == -1) := fun h h1 => by
   rw [if_pos h1, Bool.false_and]
   by_cases q0 : f5 = -1
   ·rw [if_pos q0]
    by_cases q1 : f2.toList = ([] : List UInt8)
    ·rw [if_pos q1]
     by_cases q3 : (l.length : Int) = 0
     ·rw [if_pos q3]
      rcases h with h | h | h
      ·exact absurd q1 h
      ·omega
      ·rw [if_neg h]
     ·rw [if_neg q3]
    ·rw [if_neg q1]
   ·rw [if_neg q0]
  by_cases cn : f2.toList = ([] : List UInt8)
  case neg => exact ⟨false, Ev.ite_neg c2 (Ev.ite_neg cn J0), fails (fun _ => trivial) (Or.inl cn), pfails (Or.inl cn)⟩
  by_cases cl : l.length = 0
  case neg => exact ⟨false, Ev.ite_neg c2 (Ev.ite_pos cn (Ev.ite_pos (by omega) J0)), fails (fun _ => trivial) (Or.inr (Or.inl cl)), pfails (Or.inr (Or.inl cl))⟩
  by_cases c1 : f1 = 0
  case neg => exact ⟨false, Ev.ite_neg c2 (Ev.ite_pos cn (Ev.ite_neg (by omega) (Ev.ite_neg c1 J0))), fails (fun _ => trivial) (Or.inr (Or.inr c1)), pfails (Or.inr (Or.inr c1))⟩
  obtain rfl : l = [] := List.eq_nil_of_length_eq_zero cl
  have hb : b = true := by
   obtain ⟨K, hK⟩ := e1
   have h := hK (K + 1) (by omega)
   have h2 : impl_namesOnce.f (K + 1) ([] : List S56) = some true := by
    unfold impl_namesOnce.f
    simp only [impl_namesOnce.l0]; rw [if_neg (by simp)]
   exact (Option.some.inj (h2.symm.trans h)).symm
  subst hb
  rw [hx, Bool.true_and] at J1
  refine ⟨tailP f0 f4 kids false, Ev.ite_neg c2 (Ev.ite_pos cn (Ev.ite_neg (by simp) (Ev.ite_pos c1 (by rw [hx]; exact J1)))), Ev.ite_neg c2 (Ev.const fun _ => ?_), fun h1 => ?_⟩
  ·have one : (if f2.toList = ([] : List UInt8) then (if f1 = 0 then (if ((([] : List S56).length : Nat) : Int) = 0 then (some ((kids.length : Int) == 0)) else (some false)) else (some false)) else (some false)) = some ((kids.length : Int) == 0) := by
    rw [if_pos cn, if_pos c1, if_pos (by simp)]
   simp only [one]
   unfold tailP
   by_cases q1 : f0 = 1
   ·rw [if_neg (by omega), if_neg (by omega), if_neg (by omega), q1]; simp
   ·have hn1 : (f0 == 1) = false := by rw [beq_eq_false_iff_ne]; exact q1
    rw [if_neg q1, hn1, Bool.not_false, Bool.and_true]
    by_cases q3 : f0 = 3
    ·rw [if_pos q3, if_pos (Or.inl q3)]
    rw [if_neg q3]
    by_cases q4 : f0 = 4
    ·rw [if_pos q4, if_pos (Or.inr (Or.inl q4))]
    rw [if_neg q4]
    by_cases q5 : f0 = 5
    ·rw [if_pos q5, if_pos (Or.inr (Or.inr q5))]
    rw [if_neg q5, if_neg (by omega)]
  ·have hn0 : ((([] : List S56).length : Nat) : Int) = 0 := rfl
   unfold tailP
   rw [if_pos h1, if_pos h1]
   by_cases q : f5 = -1
   ·rw [if_pos q, if_pos cn, if_pos hn0, if_pos c1, show (f5 == -1) = true from by rw [beq_iff_eq]; exact q, Bool.and_true]
   ·rw [if_neg q, show (f5 == -1) = false from by rw [beq_eq_false_iff_ne]; exact q, Bool.and_false]
end Go.Proofs.YtekkalnafngfeaaGreat.Pl
namespace Go.Proofs.YtekkalnafngfeaaGreat.Tr

/-- Of the list s at a depth: all that stands under it, in order, each with its depth. -/
inductive Pre (kids : Nat → List Nat) : Nat → List Nat → List (Nat × Nat) → Prop
 | nil (d : Nat) : Pre kids d [] []
 | cons {d i : Nat} {s : List Nat} {a b : List (Nat × Nat)} (h1 : Pre kids (d + 1) (kids i) a) (h2 : Pre kids d s b) : Pre kids d (i :: s) ((i, d) :: (a ++ b))
/-- A number stands at a depth. -/
def At (up : Nat → Nat) : Nat → Nat → Prop
 | 0, k => k = 0
 | d + 1, k => k ≠ 0 ∧ At up d (up k)
def upN (up : Nat → Nat) : Nat → Nat → Nat
 | 0, k => k
 | d + 1, k => up (upN up d k)
structure Ok (n : Nat) (kids : Nat → List Nat) (up : Nat → Nat) : Prop where
 pos : 0 < n
 kid : ∀ i, i < n → ∀ k, k ∈ kids i → k ≠ 0 ∧ k < n ∧ up k = i
 once : ∀ i, i < n → (kids i).Nodup
 mem : ∀ k, k ≠ 0 → k < n → up k < n ∧ k ∈ kids (up k)

theorem At_uniq {up : Nat → Nat} : ∀ {d e k : Nat}, At up d k → At up e k → d = e
 | 0, 0, _, _, _ => rfl
 | 0, _ + 1, _, h, h' => absurd h h'.1
 | _ + 1, 0, _, h, h' => absurd h' h.1
 | _ + 1, _ + 1, _, h, h' => congrArg Nat.succ (At_uniq h.2 h'.2)
theorem nodup_le : ∀ (n : Nat) (l : List Nat), l.Nodup → (∀ x, x ∈ l → x < n) → l.length ≤ n
 | 0, l, _, h => by
  cases l with
  | nil => exact Nat.le_refl _
  | cons a l => exact absurd (h a List.mem_cons_self) (Nat.not_lt_zero _)
 | n + 1, l, hn, h => by
  have h1 := nodup_le n (l.erase n) (hn.erase n) (fun x hx => by
   have h2 := h x (List.mem_of_mem_erase hx)
   have h3 : x ≠ n := fun e => by subst e; exact hn.not_mem_erase hx
   omega)
  rw [List.length_erase] at h1
  split at h1 <;> omega
def chain (up : Nat → Nat) : Nat → Nat → List Nat
 | 0, k => [k]
 | d + 1, k => k :: chain up d (up k)
theorem chain_at {up : Nat → Nat} : ∀ {d k : Nat}, At up d k → ∀ x, x ∈ chain up d k → ∃ e, e ≤ d ∧ At up e x
 | 0, k, h, x, hx => by
  obtain rfl : x = k := by simpa [chain] using hx
  exact ⟨0, Nat.le_refl _, h⟩
 | d + 1, k, h, x, hx => by
  rcases List.mem_cons.mp hx with e | hx
  ·subst e; exact ⟨d + 1, Nat.le_refl _, h⟩
  ·obtain ⟨e, he, ha⟩ := chain_at h.2 x hx
   exact ⟨e, by omega, ha⟩
theorem chain_nodup {up : Nat → Nat} : ∀ {d k : Nat}, At up d k → (chain up d k).Nodup
 | 0, k, _ => by simp [chain]
 | d + 1, k, h => by
  refine List.nodup_cons.mpr ⟨fun hx => ?_, chain_nodup h.2⟩
  obtain ⟨e, he, ha⟩ := chain_at h.2 k hx
  have := At_uniq ha h
  omega
theorem chain_length (up : Nat → Nat) : ∀ (d k : Nat), (chain up d k).length = d + 1
 | 0, _ => rfl
 | d + 1, k => by rw [chain, List.length_cons, chain_length]
theorem chain_lt {n : Nat} {kids : Nat → List Nat} {up : Nat → Nat} (ok : Ok n kids up) : ∀ {d k : Nat}, At up d k → k < n → ∀ x, x ∈ chain up d k → x < n
 | 0, k, _, hk, x, hx => by
  obtain rfl : x = k := by simpa [chain] using hx
  exact hk
 | d + 1, k, h, hk, x, hx => by
  rcases List.mem_cons.mp hx with e | hx
  ·subst e; exact hk
  ·exact chain_lt ok h.2 (ok.mem k h.1 hk).1 x hx
theorem At_lt {n : Nat} {kids : Nat → List Nat} {up : Nat → Nat} (ok : Ok n kids up) {d k : Nat} (h : At up d k) (hk : k < n) : d < n := by
 have h1 := nodup_le n _ (chain_nodup h) (chain_lt ok h hk)
 rw [chain_length] at h1
 omega
theorem kids_at {n : Nat} {kids : Nat → List Nat} {up : Nat → Nat} (ok : Ok n kids up) {d i : Nat} (h : At up d i) (hi : i < n) : ∀ k, k ∈ kids i → k < n ∧ At up (d + 1) k := fun k hk => by
 obtain ⟨h0, h1, h2⟩ := ok.kid i hi k hk
 exact ⟨h1, h0, by rw [h2]; exact h⟩
theorem Pre_ex {n : Nat} {kids : Nat → List Nat} {up : Nat → Nat} (ok : Ok n kids up) : ∀ (f d : Nat) (s : List Nat), n ≤ d + f → (∀ k, k ∈ s → k < n ∧ At up d k) → ∃ out, Pre kids d s out
 | 0, d, s, hf, hs => by
  cases s with
  | nil => exact ⟨[], .nil d⟩
  | cons i s =>
   have := At_lt ok (hs i List.mem_cons_self).2 (hs i List.mem_cons_self).1
   omega
 | f + 1, d, s, hf, hs => by
  induction s with
  | nil => exact ⟨[], .nil d⟩
  | cons i s ih =>
   obtain ⟨b, hb⟩ := ih fun k hk => hs k (List.mem_cons_of_mem _ hk)
   have hi := hs i List.mem_cons_self
   obtain ⟨a, ha⟩ := Pre_ex ok f (d + 1) (kids i) (by omega) (kids_at ok hi.2 hi.1)
   exact ⟨_, .cons ha hb⟩
theorem Pre_facts {n : Nat} {kids : Nat → List Nat} {up : Nat → Nat} (ok : Ok n kids up) {d : Nat} {s : List Nat} {out : List (Nat × Nat)} (h : Pre kids d s out) :
  (∀ k, k ∈ s → k < n ∧ At up d k) → s.Nodup → (out.map Prod.fst).Nodup ∧ ∀ p, p ∈ out → p.1 < n ∧ d ≤ p.2 ∧ At up p.2 p.1 ∧ upN up (p.2 - d) p.1 ∈ s := by
 induction h with
 | nil d => exact fun _ _ => ⟨List.nodup_nil, fun p hp => absurd hp List.not_mem_nil⟩
 | @cons d i s a b h1 h2 ih1 ih2 =>
  intro hs hn
  obtain ⟨hi1, hi2⟩ := hs i List.mem_cons_self
  obtain ⟨hni, hns⟩ := List.nodup_cons.mp hn
  obtain ⟨na, fa⟩ := ih1 (kids_at ok hi2 hi1) (ok.once i hi1)
  obtain ⟨nb, fb⟩ := ih2 (fun k hk => hs k (List.mem_cons_of_mem _ hk)) hns
  have ga : ∀ p, p ∈ a → upN up (p.2 - d) p.1 = i ∧ d + 1 ≤ p.2 := fun p hp => by
   obtain ⟨_, q2, _, q4⟩ := fa p hp
   have e := (ok.kid i hi1 _ q4).2.2
   refine ⟨?_, q2⟩
   rw [show p.2 - d = (p.2 - (d + 1)) + 1 by omega]
   exact e
  refine ⟨?_, fun p hp => ?_⟩
  ·rw [List.map_cons, List.map_append, List.nodup_cons]
   refine ⟨fun hx => ?_, ?_⟩
   ·rcases List.mem_append.mp hx with hx | hx
    ·obtain ⟨p, hp, e⟩ := List.mem_map.mp hx
     obtain ⟨_, q2, q3, _⟩ := fa p hp
     rw [e] at q3
     have := At_uniq q3 hi2
     omega
    ·obtain ⟨p, hp, e⟩ := List.mem_map.mp hx
     obtain ⟨_, q2, q3, q4⟩ := fb p hp
     rw [e] at q3 q4
     have := At_uniq q3 hi2
     rw [this, Nat.sub_self] at q4
     exact hni q4
   ·rw [List.nodup_append]
    refine ⟨na, nb, fun x hx y hy e => ?_⟩
    subst e
    obtain ⟨p, hp, e1⟩ := List.mem_map.mp hx
    obtain ⟨q, hq, e2⟩ := List.mem_map.mp hy
    obtain ⟨_, _, p3, _⟩ := fa p hp
    obtain ⟨_, _, q3, q4⟩ := fb q hq
    rw [e1] at p3
    rw [e2] at q3 q4
    have e3 := At_uniq p3 q3
    have := (ga p hp).1
    rw [e1, e3] at this
    rw [this] at q4
    exact hni q4
  ·rcases List.mem_cons.mp hp with e | hp
   ·subst e
    exact ⟨hi1, Nat.le_refl _, hi2, by rw [Nat.sub_self]; exact List.mem_cons_self⟩
   ·rcases List.mem_append.mp hp with hp | hp
    ·obtain ⟨q1, q2, q3, q4⟩ := fa p hp
     exact ⟨q1, by omega, q3, by rw [(ga p hp).1]; exact List.mem_cons_self⟩
    ·obtain ⟨q1, q2, q3, q4⟩ := fb p hp
     exact ⟨q1, q2, q3, List.mem_cons_of_mem _ q4⟩
/-- All that is reached from 0. -/
theorem Pre_root {n : Nat} {kids : Nat → List Nat} {up : Nat → Nat} (ok : Ok n kids up) : ∃ out, Pre kids 0 [0] out ∧ (out.map Prod.fst).Nodup ∧ (∀ p, p ∈ out → p.1 < n ∧ At up p.2 p.1) ∧ out.length ≤ n := by
 have h0 : ∀ k, k ∈ [0] → k < n ∧ At up 0 k := fun k hk => by
  obtain rfl : k = 0 := by simpa using hk
  exact ⟨ok.pos, rfl⟩
 obtain ⟨out, h⟩ := Pre_ex ok n 0 [0] (by omega) h0
 obtain ⟨h1, h2⟩ := Pre_facts ok h h0 (by simp)
 refine ⟨out, h, h1, fun p hp => ⟨(h2 p hp).1, (h2 p hp).2.2.1⟩, ?_⟩
 have h3 := nodup_le n _ h1 (fun x hx => by
  obtain ⟨p, hp, e⟩ := List.mem_map.mp hx
  rw [← e]; exact (h2 p hp).1)
 rwa [List.length_map] at h3
theorem Pre_len {kids : Nat → List Nat} {d : Nat} {s : List Nat} {out : List (Nat × Nat)} (h : Pre kids d s out) : s.length ≤ out.length := by
 induction h with
 | nil => exact Nat.le_refl _
 | cons _ _ _ ih => rw [List.length_cons, List.length_cons, List.length_append]; omega
theorem Pre_uniq {kids : Nat → List Nat} {d : Nat} {s : List Nat} {o1 : List (Nat × Nat)} (h : Pre kids d s o1) : ∀ o2, Pre kids d s o2 → o1 = o2 := by
 induction h with
 | nil d => intro o2 h2; cases h2; rfl
 | cons _ _ ih1 ih2 =>
  intro o2 h2
  cases h2 with
  | cons q1 q2 => rw [ih1 _ q1, ih2 _ q2]
end Go.Proofs.YtekkalnafngfeaaGreat.Tr
namespace Go.Proofs.YtekkalnafngfeaaGreat.Tr
open Go.RowKit Go.Proofs.YtekkalnafngfeaaGreat.P Go.Proofs.YtekkalnafngfeaaGreat.Evs Go.Proofs.YtekkalnafngfeaaGreatW.PrintWords Go.Proofs.YtekkalnafngfeaaGreatW.PrintLast

theorem inRange_eq (a l m : Int) : impl_inRange.f a l m = some (decide (l ≤ a ∧ a ≤ m)) := by
 unfold impl_inRange.f
 by_cases h : a ≥ l
 ·rw [if_pos h]; simp [h]
 ·rw [if_neg h]; simp; omega
theorem l1In_eq (a l m : Int) : spec_l1In.f a l m = some (decide (l ≤ a ∧ a ≤ m)) := inRange_eq a l m
/-- The sizes that the loops need. -/
def Small (L : List S53) : Prop := L.length ≤ 1048576 ∧ ∀ y ∈ L, y.f3.length ≤ 1048576 ∧ y.f6.length ≤ 1048576
/-- The item at a number, its kids, the one above it. -/
def it (L : List S53) (i : Nat) : S53 := rd_T53 L (i : Int)
def kd (L : List S53) (i : Nat) : List Nat := (it L i).f6.map Int.toNat
def upp (L : List S53) (i : Nat) : Nat := (it L i).f5.toNat
theorem it_get {L : List S53} {i : Nat} (h : i < L.length) : it L i = L[i] := rdT L _ i h
theorem it_small {L : List S53} (hL : Small L) {i : Nat} (h : i < L.length) : (it L i).f3.length ≤ 1048576 ∧ (it L i).f6.length ≤ 1048576 := by
 rw [it_get h]; exact hL.2 _ (List.getElem_mem h)
theorem rdI (xs : List Int) (i : Nat) (h : i < xs.length) : rd xs (i : Int) = xs[i] := rdT xs 0 i h
theorem ofNat_of (x : Int) (h : 0 ≤ x) : ((x.toNat : Nat) : Int) = x := Int.toNat_of_nonneg h

theorem it_toNat (L : List S53) {x : Int} (h : 0 ≤ x) : it L x.toNat = rd_T53 L x := by
 unfold it; rw [ofNat_of x h]

/-! ### counting -/
theorem Count_loop (l : List Int) (a : Int) (hl : l.length ≤ 1048576) : ∀ (d j c : Nat), l.length - j = d → j ≤ l.length → c ≤ j → Ev (fun k => spec_l6Count.l0 k l a c j) ((c + (l.drop j).count a : Nat) : Int) := by
 intro d
 induction d with
 | zero =>
  intro j c hd hj hc
  rw [List.drop_eq_nil_of_le (by omega), List.count_nil, Nat.add_zero]
  refine Ev.here fun k => ?_
  simp only [spec_l6Count.l0]; rw [if_neg (by omega)]
 | succ d ih =>
  intro j c hd hj hc
  have hjl : j < l.length := by omega
  rw [List.drop_eq_getElem_cons hjl, List.count_cons]
  by_cases e : l[j] = a
  ·have h1 := ih (j + 1) (c + 1) (by omega) (by omega) (by omega)
   rw [if_pos (by simpa using e), show c + ((l.drop (j + 1)).count a + 1) = c + 1 + (l.drop (j + 1)).count a by omega]
   refine Ev.step (fun k => ?_) h1
   simp only [spec_l6Count.l0, spec_l1Bit.f, succ64 (show j < 9223372036854775807 by omega)]
   rw [if_pos (by omega), if_pos (by omega), rdI l j hjl, if_pos (by simpa using e)]
   simp only [Option.bind_some]
   rw [w64 (i := (c : Int) + 1) (by omega) (by omega)]; rfl
  ·have h1 := ih (j + 1) c (by omega) (by omega) (by omega)
   rw [if_neg (by simpa using e), Nat.add_zero]
   refine Ev.step (fun k => ?_) h1
   simp only [spec_l6Count.l0, spec_l1Bit.f, succ64 (show j < 9223372036854775807 by omega)]
   rw [if_pos (by omega), if_pos (by omega), rdI l j hjl, if_neg (by simpa using e)]
   simp only [Option.bind_some]
   rw [w64 (i := (c : Int) + 0) (by omega) (by omega), Int.add_zero]
theorem Count_tells (l : List Int) (a : Int) (hl : l.length ≤ 1048576) : Ev (fun k => spec_l6Count.f k l a) ((l.count a : Nat) : Int) := by
 have h := Count_loop l a hl l.length 0 0 (by omega) (by omega) (by omega)
 rw [List.drop_zero, Nat.zero_add] at h
 exact h

/-! ### the reference's links -/
def KidOk (L : List S53) (i : Nat) (x : Int) : Prop := 1 ≤ x ∧ x < L.length ∧ (rd_T53 L x).f5 = i
def KidsOk (L : List S53) (i : Nat) : Prop := ∀ x, x ∈ (it L i).f6 → KidOk L i x
def UpOk (L : List S53) (i : Nat) : Prop := if i = 0 then (it L i).f5 = -1 else 0 ≤ (it L i).f5 ∧ (it L i).f5 < L.length ∧ (rd_T53 L (it L i).f5).f6.count (i : Int) = 1
theorem Links_kids (L : List S53) (hL : Small L) (i : Nat) (hi : i < L.length) :
  (KidsOk L i → ∀ r, Ev (fun k => spec_l6Links.l0 k L ((i + 1 : Nat) : Int)) r → Ev (fun k => spec_l6Links.l1 k L i 0) r) ∧ (¬ KidsOk L i → Ev (fun k => spec_l6Links.l1 k L i 0) false) := by
 obtain ⟨_, hs⟩ := it_small hL hi
 have hL1 := hL.1
 have hs' : (rd_T53 L (i : Int)).f6.length ≤ 1048576 := hs
 have hn : wrap64 ((L.length : Int) - 1) = (L.length : Int) - 1 := w64 (by omega) (by omega)
 have hx : ∀ k (j : Nat) (hj : j < (it L i).f6.length), spec_l6Links.l1 (k + 1) L i j = if decide (1 ≤ (it L i).f6[j] ∧ (it L i).f6[j] ≤ (L.length : Int) - 1) = true then (if 0 ≤ (it L i).f6[j] then (if (it L i).f6[j] < (L.length : Int) then (if (rd_T53 L (it L i).f6[j]).f5 = i then spec_l6Links.l1 k L i ((j + 1 : Nat) : Int) else some false) else none) else none) else some false := fun k j hj => by
  have hr : rd (rd_T53 L (i : Int)).f6 (j : Int) = (it L i).f6[j] := rdI _ j hj
  have hj' : j < (rd_T53 L (i : Int)).f6.length := hj
  simp only [spec_l6Links.l1, hr, hn, l1In_eq, Option.bind_some, succ64 (show j < 9223372036854775807 by omega)]
  rw [if_pos (by omega), if_pos (by omega), if_pos (by omega), if_pos (by omega)]
 have A := Ev.all (n := (it L i).f6.length) (j0 := 0) (g := fun k j => spec_l6Links.l1 k L i (j : Int)) (e := false) (ok := fun j => ∀ h : j < (it L i).f6.length, KidOk L i (it L i).f6[j]) (Nat.zero_le _)
  (fun j _ hj _ hok r hr => by
   obtain ⟨q1, q2, q3⟩ := hok hj
   refine Ev.step (fun k => ?_) hr
   rw [hx k j hj, if_pos (decide_eq_true ⟨q1, by omega⟩), if_pos (by omega), if_pos q2, if_pos q3])
  (fun j _ hj _ hok => by
   refine Ev.here fun k => ?_
   rw [hx k j hj]
   by_cases c : 1 ≤ (it L i).f6[j] ∧ (it L i).f6[j] ≤ (L.length : Int) - 1
   ·rw [if_pos (decide_eq_true c), if_pos (by omega), if_pos (by omega), if_neg (fun q => hok fun _ => ⟨c.1, by omega, q⟩)]
   ·rw [if_neg (by simpa using c)])
 have hE : ∀ r, Ev (fun k => spec_l6Links.l0 k L ((i + 1 : Nat) : Int)) r → Ev (fun k => spec_l6Links.l1 k L i ((it L i).f6.length : Int)) r := fun r hr => by
  refine Ev.step (fun k => ?_) hr
  have e : ((rd_T53 L (i : Int)).f6.length : Int) = ((it L i).f6.length : Int) := rfl
  simp only [spec_l6Links.l1, succ64 (show i < 9223372036854775807 by omega)]
  rw [if_pos (by omega), if_pos (by omega), if_neg (by omega)]
 refine ⟨fun h r hr => A.1 (fun j _ hj _ => h _ (List.getElem_mem hj)) r (hE r hr), fun h => A.2 fun hall => h fun x hx => ?_⟩
 obtain ⟨j, hj, rfl⟩ := List.getElem_of_mem hx
 exact hall j (Nat.zero_le _) hj hj
def LinksP (L : List S53) : Prop := ∀ i, i < L.length → UpOk L i ∧ KidsOk L i
theorem Links_tells (L : List S53) (hL : Small L) : (LinksP L → Ev (fun k => spec_l6Links.f k L) true) ∧ (¬ LinksP L → Ev (fun k => spec_l6Links.f k L) false) := by
 have hL1 := hL.1
 have hn : wrap64 ((L.length : Int) - 1) = (L.length : Int) - 1 := w64 (by omega) (by omega)
 have up_yes : ∀ i, i < L.length → UpOk L i → ∀ r, Ev (fun k => spec_l6Links.l1 k L i 0) r → Ev (fun k => spec_l6Links.l0 k L i) r := fun i hi hu r hr => by
  have hj : Ev (fun k => spec_l6Links.j1 k L i false) r := Ev.step (fun k => by simp only [spec_l6Links.j1]; rw [if_neg Bool.false_ne_true]) hr
  unfold UpOk at hu
  by_cases c : i = 0
  ·subst c
   rw [if_pos rfl] at hu
   unfold it at hu
   refine Ev.step (fun k => ?_) hj
   simp only [spec_l6Links.l0]
   rw [if_pos (by omega), if_pos (by omega), if_pos (by omega), if_pos hu, if_neg (by omega)]
  ·rw [if_neg c] at hu
   obtain ⟨u0, u1, u2⟩ := hu
   have hs : (rd_T53 L (it L i).f5).f6.length ≤ 1048576 := by
    have := (it_small hL (i := (it L i).f5.toNat) (by omega)).2
    rwa [it_toNat L u0] at this
   refine Ev.step (f := fun k => (spec_l6Count.f k (rd_T53 L (it L i).f5).f6 i).bind fun t => spec_l6Links.j1 k L i (t != 1)) (fun k => ?_) (Ev.bind (Count_tells _ _ hs) ?_)
   ·simp only [spec_l6Links.l0, l1In_eq, hn, Option.bind_some]
    rw [if_pos (by omega), if_pos (by omega), if_neg (by omega), if_pos (by omega)]
    change (if decide (0 ≤ (it L i).f5 ∧ (it L i).f5 ≤ (L.length : Int) - 1) = true then _ else _) = _
    rw [if_pos (decide_eq_true ⟨u0, by omega⟩)]
    change (if 0 ≤ (it L i).f5 then _ else _) = _
    rw [if_pos u0]
    change (if (it L i).f5 < (L.length : Int) then _ else _) = _
    rw [if_pos u1]
    rfl
   ·rw [u2]; exact hj
 have up_no : ∀ i, i < L.length → ¬ UpOk L i → Ev (fun k => spec_l6Links.l0 k L i) false := fun i hi hu => by
  have hj : Ev (fun k => spec_l6Links.j1 k L i true) false := Ev.here fun k => by simp only [spec_l6Links.j1]; rw [if_pos True.intro]
  unfold UpOk at hu
  by_cases c : i = 0
  ·subst c
   rw [if_pos rfl] at hu
   unfold it at hu
   refine Ev.step (fun k => ?_) hj
   simp only [spec_l6Links.l0]
   rw [if_pos (by omega), if_pos (by omega), if_pos (by omega), if_neg hu]
  ·rw [if_neg c] at hu
   by_cases u : 0 ≤ (it L i).f5 ∧ (it L i).f5 ≤ (L.length : Int) - 1
   ·have hs : (rd_T53 L (it L i).f5).f6.length ≤ 1048576 := by
     have := (it_small hL (i := (it L i).f5.toNat) (by omega)).2
     rwa [it_toNat L u.1] at this
    refine Ev.step (f := fun k => (spec_l6Count.f k (rd_T53 L (it L i).f5).f6 i).bind fun t => spec_l6Links.j1 k L i (t != 1)) (fun k => ?_) (Ev.bind (Count_tells _ _ hs) ?_)
    ·simp only [spec_l6Links.l0, l1In_eq, hn, Option.bind_some]
     rw [if_pos (by omega), if_pos (by omega), if_neg (by omega), if_pos (by omega)]
     change (if decide (0 ≤ (it L i).f5 ∧ (it L i).f5 ≤ (L.length : Int) - 1) = true then _ else _) = _
     rw [if_pos (decide_eq_true u)]
     change (if 0 ≤ (it L i).f5 then _ else _) = _
     rw [if_pos u.1]
     change (if (it L i).f5 < (L.length : Int) then _ else _) = _
     rw [if_pos (by omega)]
     rfl
    ·have u2 : ¬ (rd_T53 L (it L i).f5).f6.count (i : Int) = 1 := fun q => hu ⟨u.1, by omega, q⟩
     rw [show (((((rd_T53 L (it L i).f5).f6.count (i : Int) : Nat) : Int) != 1)) = true from by simp only [bne_iff_ne, ne_eq]; omega]; exact hj
   ·refine Ev.step (fun k => ?_) hj
    simp only [spec_l6Links.l0, l1In_eq, hn, Option.bind_some]
    rw [if_pos (by omega), if_pos (by omega), if_neg (by omega), if_pos (by omega)]
    change (if decide (0 ≤ (it L i).f5 ∧ (it L i).f5 ≤ (L.length : Int) - 1) = true then _ else _) = _
    rw [if_neg (by simpa using u)]
 have A := Ev.all (n := L.length) (j0 := 0) (g := fun k j => spec_l6Links.l0 k L (j : Int)) (e := false) (ok := fun i => UpOk L i ∧ KidsOk L i) (Nat.zero_le _)
  (fun i _ hi _ hok r hr => up_yes i hi hok.1 r ((Links_kids L hL i hi).1 hok.2 r hr))
  (fun i _ hi _ hok => by
   by_cases c : UpOk L i
   ·exact up_yes i hi c false ((Links_kids L hL i hi).2 fun q => hok ⟨c, q⟩)
   ·exact up_no i hi c)
 exact ⟨fun h => A.1 (fun i _ hi => h i hi) true (Ev.here fun k => by simp only [spec_l6Links.l0]; rw [if_neg (by omega)]), fun h => A.2 fun hall => h fun i hi => hall i (Nat.zero_le _) hi⟩

/-! ### the program's -/
/-- How often a number stands among the kids of the first i items. -/
def cnt (L : List S53) (x : Int) : Nat → Nat
 | 0 => 0
 | i + 1 => cnt L x i + (it L i).f6.count x
theorem cnt_le {L : List S53} (hL : Small L) (x : Int) : ∀ i, i ≤ L.length → cnt L x i ≤ i * 1048576
 | 0, _ => Nat.zero_le _
 | i + 1, h => by
  have h1 := cnt_le hL x i (by omega)
  have h2 := (it_small hL (i := i) (by omega)).2
  have h3 := List.count_le_length (a := x) (l := (it L i).f6)
  rw [cnt]
  omega
def seen (L : List S53) (i j : Nat) : List Int := (List.range L.length).map fun x : Nat => ((cnt L x i + ((it L i).f6.take j).count (x : Int) : Nat) : Int)
theorem seen_length (L : List S53) (i j : Nat) : (seen L i j).length = L.length := by simp [seen]
theorem seen_next (L : List S53) (i : Nat) : seen L i (it L i).f6.length = seen L (i + 1) 0 := by
 unfold seen
 apply List.map_congr_left
 intro x _
 rw [List.take_length, List.take_zero, List.count_nil, cnt]
 rfl
theorem seen_set (L : List S53) (hL : Small L) (i j : Nat) (hi : i < L.length) (hj : j < (it L i).f6.length) (h0 : 0 ≤ (it L i).f6[j]) (h1 : (it L i).f6[j] < L.length) :
  (seen L i j).set ((it L i).f6[j]).toNat (wrap64 ((rd (seen L i j) (it L i).f6[j]) + 1)) = seen L i (j + 1) := by
 obtain ⟨y, hy⟩ := Int.eq_ofNat_of_zero_le h0
 have hyl : y < L.length := by omega
 have hl1 := hL.1
 have hls := (it_small hL hi).2
 have hc := cnt_le hL (y : Int) i (by omega)
 have hc2 := List.count_le_length (a := (y : Int)) (l := (it L i).f6.take j)
 rw [List.length_take] at hc2
 have hr : rd (seen L i j) (it L i).f6[j] = ((cnt L y i + ((it L i).f6.take j).count (y : Int) : Nat) : Int) := by
  rw [hy, rdI _ y (by rw [seen_length]; exact hyl)]; simp [seen]
 rw [hr, w64 (by omega) (by omega), hy, Int.toNat_natCast]
 apply List.ext_getElem?
 intro z
 rw [List.getElem?_set, seen_length]
 by_cases e : y = z
 ·subst e
  rw [if_pos rfl, if_pos hyl]
  simp only [seen, List.getElem?_map, List.getElem?_range hyl, Option.map_some]
  rw [List.take_succ_eq_append_getElem hj, List.count_append, hy, List.count_singleton_self]
  rfl
 ·rw [if_neg e]
  by_cases hz : z < L.length
  ·simp only [seen, List.getElem?_map, List.getElem?_range hz, Option.map_some]
   rw [List.take_succ_eq_append_getElem hj, List.count_append, hy, List.count_singleton, if_neg (by simp; omega)]
   rfl
  ·rw [List.getElem?_eq_none (by rw [seen_length]; omega), List.getElem?_eq_none (by rw [seen_length]; omega)]
theorem kidsOk_kids (L : List S53) (hL : Small L) (i : Nat) (hi : i < L.length) :
  (KidsOk L i → ∀ r, Ev (fun k => impl_kidsOk.l0 k L (seen L (i + 1) 0) L (L.length : Int) ((i + 1 : Nat) : Int)) r → Ev (fun k => impl_kidsOk.l1 k L (seen L i 0) i L (L.length : Int) i (it L i).f6 ((it L i).f6.length : Int) 0) r) ∧
  (¬ KidsOk L i → Ev (fun k => impl_kidsOk.l1 k L (seen L i 0) i L (L.length : Int) i (it L i).f6 ((it L i).f6.length : Int) 0) false) := by
 obtain ⟨_, hs⟩ := it_small hL hi
 have hL1 := hL.1
 have hn : wrap64 ((L.length : Int) - 1) = (L.length : Int) - 1 := w64 (by omega) (by omega)
 have hx : ∀ k (j : Nat) (hj : j < (it L i).f6.length), impl_kidsOk.l1 (k + 1) L (seen L i j) i L (L.length : Int) i (it L i).f6 ((it L i).f6.length : Int) j = if decide (1 ≤ (it L i).f6[j] ∧ (it L i).f6[j] ≤ (L.length : Int) - 1) = true then (if 0 ≤ (it L i).f6[j] then (if (it L i).f6[j] < (L.length : Int) then (if (rd_T53 L (it L i).f6[j]).f5 = i then (if (it L i).f6[j] < ((seen L i j).length : Int) then impl_kidsOk.l1 k L ((seen L i j).set ((it L i).f6[j]).toNat (wrap64 ((rd (seen L i j) (it L i).f6[j]) + 1))) i L (L.length : Int) i (it L i).f6 ((it L i).f6.length : Int) ((j + 1 : Nat) : Int) else none) else some false) else none) else none) else some false := fun k j hj => by
  have hr : rd (it L i).f6 (j : Int) = (it L i).f6[j] := rdI _ j hj
  simp only [impl_kidsOk.l1, hr, hn, inRange_eq, Option.bind_some, succ64 (show j < 9223372036854775807 by omega)]
  rw [if_pos (by omega), if_pos (by omega), if_pos (by omega)]
 have A := Ev.all (n := (it L i).f6.length) (j0 := 0) (g := fun k j => impl_kidsOk.l1 k L (seen L i j) i L (L.length : Int) i (it L i).f6 ((it L i).f6.length : Int) (j : Int)) (e := false) (ok := fun j => ∀ h : j < (it L i).f6.length, KidOk L i (it L i).f6[j]) (Nat.zero_le _)
  (fun j _ hj _ hok r hr => by
   obtain ⟨q1, q2, q3⟩ := hok hj
   refine Ev.step (fun k => ?_) hr
   rw [hx k j hj, if_pos (decide_eq_true ⟨q1, by omega⟩), if_pos (by omega), if_pos q2, if_pos q3, if_pos (by rw [seen_length]; exact q2), seen_set L hL i j hi hj (by omega) q2])
  (fun j _ hj _ hok => by
   refine Ev.here fun k => ?_
   rw [hx k j hj]
   by_cases c : 1 ≤ (it L i).f6[j] ∧ (it L i).f6[j] ≤ (L.length : Int) - 1
   ·rw [if_pos (decide_eq_true c), if_pos (by omega), if_pos (by omega), if_neg (fun q => hok fun _ => ⟨c.1, by omega, q⟩)]
   ·rw [if_neg (by simpa using c)])
 have hE : ∀ r, Ev (fun k => impl_kidsOk.l0 k L (seen L (i + 1) 0) L (L.length : Int) ((i + 1 : Nat) : Int)) r → Ev (fun k => impl_kidsOk.l1 k L (seen L i (it L i).f6.length) i L (L.length : Int) i (it L i).f6 ((it L i).f6.length : Int) ((it L i).f6.length : Int)) r := fun r hr => by
  rw [seen_next]
  refine Ev.step (fun k => ?_) hr
  simp only [impl_kidsOk.l1, succ64 (show i < 9223372036854775807 by omega)]
  rw [if_neg (by omega)]
 refine ⟨fun h r hr => A.1 (fun j _ hj _ => h _ (List.getElem_mem hj)) r (hE r hr), fun h => A.2 fun hall => h fun x hx => ?_⟩
 obtain ⟨j, hj, rfl⟩ := List.getElem_of_mem hx
 exact hall j (Nat.zero_le _) hj hj
def KidsP (L : List S53) : Prop := (∀ i, i < L.length → KidsOk L i) ∧ ∀ x : Nat, 1 ≤ x → x < L.length → cnt L x L.length = 1
theorem kidsOk_tells (L : List S53) (hL : Small L) (h1 : 1 ≤ L.length) : (KidsP L → Ev (fun k => impl_kidsOk.f k L) true) ∧ (¬ KidsP L → Ev (fun k => impl_kidsOk.f k L) false) := by
 have hL1 := hL.1
 have A := Ev.all (n := L.length) (j0 := 0) (g := fun k i => impl_kidsOk.l0 k L (seen L i 0) L (L.length : Int) (i : Int)) (e := false) (ok := fun i => KidsOk L i) (Nat.zero_le _)
  (fun i _ hi _ hok r hr => by
   refine Ev.step (fun k => ?_) ((kidsOk_kids L hL i hi).1 hok r hr)
   simp only [impl_kidsOk.l0]; rw [if_pos (by omega), if_pos (by omega), if_pos (by omega)]; rfl)
  (fun i _ hi _ hok => by
   refine Ev.step (fun k => ?_) ((kidsOk_kids L hL i hi).2 hok)
   simp only [impl_kidsOk.l0]; rw [if_pos (by omega), if_pos (by omega), if_pos (by omega)]; rfl)
 have hx : ∀ k (x : Nat), x < L.length → impl_kidsOk.l2 (k + 1) L (seen L L.length 0) x = if cnt L x L.length = 1 then impl_kidsOk.l2 k L (seen L L.length 0) ((x + 1 : Nat) : Int) else some false := fun k x hx => by
  have hr : rd (seen L L.length 0) (x : Int) = ((cnt L x L.length : Nat) : Int) := by
   rw [rdI _ x (by rw [seen_length]; exact hx)]; simp [seen]
  simp only [impl_kidsOk.l2, hr, succ64 (show x < 9223372036854775807 by omega)]
  rw [if_pos (by omega), if_pos (by omega), if_pos (by rw [seen_length]; omega)]
  by_cases c : cnt L x L.length = 1
  ·rw [if_pos c, if_pos (by omega)]
  ·rw [if_neg c, if_neg (by omega)]
 have B := Ev.all (n := L.length) (j0 := 1) (g := fun k x => impl_kidsOk.l2 k L (seen L L.length 0) (x : Int)) (e := false) (ok := fun x => cnt L (x : Int) L.length = 1) h1
  (fun x _ hxl _ hok r hr => Ev.step (fun k => by rw [hx k x hxl, if_pos hok]) hr)
  (fun x _ hxl _ hok => Ev.here fun k => by rw [hx k x hxl, if_neg hok])
 have e0 : ∀ r, Ev (fun k => impl_kidsOk.l0 k L (seen L 0 0) L (L.length : Int) ((0 : Nat) : Int)) r → Ev (fun k => impl_kidsOk.f k L) r := fun r hr => by
  unfold impl_kidsOk.f
  refine Ev.ite_pos (by omega) (Ev.ite_pos (by omega) ?_)
  have e : List.replicate ((L.length : Int)).toNat (0 : Int) = seen L 0 0 := by
   rw [Int.toNat_natCast]
   apply List.ext_getElem?
   intro z
   by_cases hz : z < L.length
   ·simp [seen, List.getElem?_range hz, List.getElem?_replicate, hz, cnt]
   ·rw [List.getElem?_eq_none (by simp; omega), List.getElem?_eq_none (by rw [seen_length]; omega)]
  rw [e]; exact hr
 have e1 : ∀ r, Ev (fun k => impl_kidsOk.l2 k L (seen L L.length 0) ((1 : Nat) : Int)) r → Ev (fun k => impl_kidsOk.l0 k L (seen L L.length 0) L (L.length : Int) (L.length : Int)) r := fun r hr => Ev.step (fun k => by simp only [impl_kidsOk.l0]; rw [if_neg (by omega)]; rfl) hr
 have e2 : Ev (fun k => impl_kidsOk.l2 k L (seen L L.length 0) (L.length : Int)) true := Ev.here fun k => by simp only [impl_kidsOk.l2]; rw [if_neg (by omega)]
 refine ⟨fun h => e0 true (A.1 (fun i _ hi => h.1 i hi) true (e1 true (B.1 (fun x q1 q2 => h.2 x q1 q2) true e2))), fun h => e0 false ?_⟩
 by_cases c : ∀ i, 0 ≤ i → i < L.length → KidsOk L i
 ·exact A.1 c false (e1 false (B.2 fun hall => h ⟨fun i hi => c i (Nat.zero_le _) hi, hall⟩))
 ·exact A.2 c
/-- Where each kid has its Up, a number stands among the kids of its Up alone. -/
theorem cnt_up (L : List S53) (hk : ∀ i, i < L.length → KidsOk L i) (x : Nat) (hu0 : 0 ≤ (it L x).f5) : ∀ i, i ≤ L.length → cnt L x i = if (it L x).f5 < i then (rd_T53 L (it L x).f5).f6.count (x : Int) else 0
 | 0, _ => by rw [if_neg (by omega)]; rfl
 | i + 1, h => by
  rw [cnt, cnt_up L hk x hu0 i (by omega)]
  have hz : ¬ (it L x).f5 = i → (it L i).f6.count (x : Int) = 0 := fun hne => by
   rw [List.count_eq_zero]
   intro hm
   exact hne (hk i (by omega) _ hm).2.2
  by_cases c : (it L x).f5 = i
  ·rw [if_neg (by omega), if_pos (by omega), c, Nat.zero_add]; rfl
  ·rw [hz c]
   by_cases c2 : (it L x).f5 < i
   ·rw [if_pos c2, if_pos (by omega)]; rfl
   ·rw [if_neg c2, if_neg (by omega)]
/-- The two tests on links are one, where the Ups are in range. -/
theorem Links_iff (L : List S53) (h0 : (it L 0).f5 = -1) (hup : ∀ i, 1 ≤ i → i < L.length → 0 ≤ (it L i).f5 ∧ (it L i).f5 < L.length) : LinksP L ↔ KidsP L := by
 constructor
 ·intro h
  have hk : ∀ i, i < L.length → KidsOk L i := fun i hi => (h i hi).2
  refine ⟨hk, fun x h1 h2 => ?_⟩
  have hu := (h x h2).1
  unfold UpOk at hu
  rw [if_neg (by omega)] at hu
  rw [cnt_up L hk x hu.1 _ (Nat.le_refl _), if_pos hu.2.1]
  exact hu.2.2
 ·intro h i hi
  refine ⟨?_, h.1 i hi⟩
  unfold UpOk
  by_cases c : i = 0
  ·subst c; rw [if_pos rfl]; exact h0
  ·rw [if_neg c]
   obtain ⟨u0, u1⟩ := hup i (by omega) hi
   have := h.2 i (by omega) hi
   rw [cnt_up L h.1 i u0 _ (Nat.le_refl _), if_pos u1] at this
   exact ⟨u0, u1, this⟩
/-- Right links make a tree by numbers. -/
theorem Links_ok (L : List S53) (h1 : 1 ≤ L.length) (h : LinksP L) : Ok L.length (kd L) (upp L) := by
 refine ⟨h1, fun i hi k hk => ?_, fun i hi => ?_, fun k h0 hk => ?_⟩
 ·obtain ⟨x, hx, rfl⟩ := List.mem_map.mp hk
  obtain ⟨q1, q2, q3⟩ := (h i hi).2 x hx
  refine ⟨by omega, by omega, ?_⟩
  unfold upp it
  rw [ofNat_of x (by omega), q3]
  rfl
 ·unfold kd
  have hk := (h i hi).2
  have hn : (it L i).f6.Nodup := by
   rw [List.nodup_iff_count]
   intro a
   by_cases ha : a ∈ (it L i).f6
   ·obtain ⟨q1, q2, q3⟩ := hk a ha
    have hu := (h a.toNat (by omega)).1
    unfold UpOk at hu
    rw [if_neg (by omega)] at hu
    have e : (it L a.toNat).f5 = i := by unfold it; rw [ofNat_of a (by omega)]; exact q3
    rw [e, ofNat_of a (by omega)] at hu
    exact Nat.le_of_eq hu.2.2
   ·rw [List.count_eq_zero.mpr ha]; exact Nat.zero_le _
  rw [List.nodup_iff_pairwise_ne] at hn ⊢
  rw [List.pairwise_map]
  refine List.Pairwise.imp_of_mem ?_ hn
  intro a b ha hb hne e
  have q1 := (hk a ha).1
  have q2 := (hk b hb).1
  exact hne (by omega)
 ·have hu := (h k hk).1
  unfold UpOk at hu
  rw [if_neg h0] at hu
  obtain ⟨u0, u1, u2⟩ := hu
  unfold upp
  refine ⟨by omega, ?_⟩
  unfold kd
  rw [it_toNat L u0]
  have : (k : Int) ∈ (rd_T53 L (it L k).f5).f6 := by
   rw [← List.one_le_count_iff]; omega
  exact List.mem_map.mpr ⟨(k : Int), this, Int.toNat_natCast k⟩
end Go.Proofs.YtekkalnafngfeaaGreat.Tr
namespace Go.Proofs.YtekkalnafngfeaaGreat.Tr
open Go.RowKit Go.Proofs.YtekkalnafngfeaaGreat.P Go.Proofs.YtekkalnafngfeaaGreat.Evs Go.Proofs.YtekkalnafngfeaaGreatW.PrintWords Go.Proofs.YtekkalnafngfeaaGreatW.PrintLast

def ints (s : List Nat) : List Int := s.map fun n : Nat => (n : Int)
theorem ints_length (a : List Nat) : (ints a).length = a.length := List.length_map _
theorem kids_ints {L : List S53} (h : LinksP L) {i : Nat} (hi : i < L.length) : (it L i).f6 = ints (kd L i) := by
 unfold ints kd
 rw [List.map_map]
 have : ∀ x, x ∈ (it L i).f6 → ((fun n : Nat => (n : Int)) ∘ Int.toNat) x = id x := fun x hx => by
  have := ((h i hi).2 x hx).1
  simp only [Function.comp, id]
  omega
 rw [List.map_congr_left this, List.map_id]
def nums (out : List (Nat × Nat)) : List Int := ints (out.map Prod.fst)
theorem nums_length (out : List (Nat × Nat)) : (nums out).length = out.length := by unfold nums; rw [ints_length, List.length_map]
theorem nums_cons (i d : Nat) (a b : List (Nat × Nat)) : nums ((i, d) :: (a ++ b)) = (i : Int) :: (nums a ++ nums b) := by
 unfold nums
 rw [List.map_cons, List.map_append]
 simp [ints]

theorem push (L : List S53) (hL : Small L) (i : Nat) (hi : i < L.length) (out : List Int) (r : List Int) : ∀ (j : Nat) (st : List Int), j ≤ (it L i).f6.length → st.length + j < 17592186044416 →
  Ev (fun k => impl_order.l0 k L out (st ++ ((it L i).f6.take j).reverse)) r → Ev (fun k => impl_order.l1 k L out st i ((j : Int) - 1)) r := by
 have hL1 := hL.1
 have hs := (it_small hL hi).2
 intro j
 induction j with
 | zero =>
  intro st _ _ h
  rw [List.take_zero, List.reverse_nil, List.append_nil] at h
  refine Ev.step (fun k => ?_) h
  simp only [impl_order.l1]; rw [if_neg (by omega)]
 | succ j ih =>
  intro st hj hl h
  have hjl : j < (it L i).f6.length := by omega
  have h2 := ih (st ++ [(it L i).f6[j]]) (by omega) (by rw [List.length_append, List.length_singleton]; omega) (by
   rw [List.take_succ_eq_append_getElem hjl, List.reverse_append] at h
   rw [List.append_assoc]
   exact h)
  refine Ev.step (fun k => ?_) h2
  have hr : rd (rd_T53 L (i : Int)).f6 ((j : Int)) = (it L i).f6[j] := rdI _ j hjl
  have hjl' : j < (rd_T53 L (i : Int)).f6.length := hjl
  have e1 : (((j + 1 : Nat) : Int) - 1) = (j : Int) := by omega
  simp only [impl_order.l1, e1, hr]
  rw [if_pos (by omega), if_pos (by omega), if_pos (by omega), if_pos (by omega), if_pos (by omega), if_pos (by omega), w64 (i := (j : Int) - 1) (by omega) (by omega)]
theorem Order_imp (L : List S53) (hL : Small L) (hk : LinksP L) (r : List Int) {d : Nat} {s : List Nat} {out : List (Nat × Nat)} (h : Pre (kd L) d s out) : (∀ k, k ∈ s → k < L.length) → ∀ (acc rest : List Int),
  acc.length + out.length ≤ 17592186044415 → rest.length + out.length ≤ 17592186044415 → Ev (fun k => impl_order.l0 k L (acc ++ nums out) rest) r → Ev (fun k => impl_order.l0 k L acc (rest ++ (ints s).reverse)) r := by
 have hL1 := hL.1
 induction h with
 | nil d =>
  intro _ acc rest _ _ h
  simpa [nums, ints] using h
 | @cons d i s a b h1 h2 ih1 ih2 =>
  intro hs acc rest ha hr h
  have hi := hs i List.mem_cons_self
  have hki : ∀ k, k ∈ kd L i → k < L.length := fun k hk' => by
   unfold kd at hk'
   obtain ⟨x, hx, rfl⟩ := List.mem_map.mp hk'
   have := ((hk i hi).2 x hx)
   unfold KidOk at this
   omega
  have l1 := Pre_len h1
  have l2 := Pre_len h2
  rw [List.length_cons, List.length_append] at ha hr
  have hs1 := (it_small hL hi).2
  have e3 : (ints (kd L i)).length = (it L i).f6.length := by rw [← kids_ints hk hi]
  rw [ints_length] at e3
  have e4 : rest ++ (ints (i :: s)).reverse = (rest ++ (ints s).reverse) ++ [(i : Int)] := by simp [ints]
  rw [e4]
  rw [nums_cons] at h
  have g2 := ih2 (fun k hk' => hs k (List.mem_cons_of_mem _ hk')) (acc ++ [(i : Int)] ++ nums a) rest (by simp only [List.length_append, nums_length, List.length_singleton]; omega) (by omega) (by simpa using h)
  have g1 := ih1 hki (acc ++ [(i : Int)]) (rest ++ (ints s).reverse) (by simp only [List.length_append, List.length_singleton]; omega) (by simp only [List.length_append, List.length_reverse, ints_length]; omega) g2
  have g0 := push L hL i hi (acc ++ [(i : Int)]) r (it L i).f6.length (rest ++ (ints s).reverse) (Nat.le_refl _) (by simp only [List.length_append, List.length_reverse, ints_length]; omega) (by
   rw [List.take_length, kids_ints hk hi]; exact g1)
  have hlen : (((rest ++ (ints s).reverse) ++ [(i : Int)]).length : Int) = (((rest ++ (ints s).reverse).length : Nat) : Int) + 1 := by rw [List.length_append, List.length_singleton]; rfl
  have hb : (rest ++ (ints s).reverse).length ≤ 17592186044416 := by simp only [List.length_append, List.length_reverse, ints_length]; omega
  have hw : wrap64 ((((rest ++ (ints s).reverse) ++ [(i : Int)]).length : Int) - 1) = (((rest ++ (ints s).reverse).length : Nat) : Int) := by rw [hlen, w64 (by omega) (by omega)]; omega
  have hrd : rd ((rest ++ (ints s).reverse) ++ [(i : Int)]) (((rest ++ (ints s).reverse).length : Nat) : Int) = (i : Int) := by
   rw [rdI _ _ (by rw [List.length_append (bs := [(i : Int)]), List.length_singleton]; omega)]
   simp
  refine Ev.step (fun k => ?_) g0
  simp only [impl_order.l0, hw, hrd, Int.toNat_natCast]
  rw [List.take_left, hlen]
  rw [if_pos (by omega), if_pos (by omega), if_pos (by omega), if_pos (by omega), if_pos (by omega), if_pos (by omega), if_pos (by omega)]
  change impl_order.l1 k L (acc ++ [(i : Int)]) (rest ++ (ints s).reverse) i (wrap64 (((it L i).f6.length : Int) - 1)) = _
  rw [w64 (by omega) (by omega)]
theorem Order_spec (L : List S53) (hL : Small L) (hk : LinksP L) {d : Nat} {s : List Nat} {out : List (Nat × Nat)} (h : Pre (kd L) d s out) : ∀ (i j : Nat) (acc : List Int), i < L.length → (kd L i).drop j = s →
  acc.length + out.length ≤ L.length → Ev (fun k => spec_l6Order.l0 k L i acc j) (acc ++ nums out) := by
 have hL1 := hL.1
 induction h with
 | nil d =>
  intro i j acc hi hd _
  have hj : (kd L i).length ≤ j := List.drop_eq_nil_iff.mp hd
  have e3 : (kd L i).length = (it L i).f6.length := List.length_map _
  have e4 : (rd_T53 L (i : Int)).f6.length ≤ j := by rw [e3] at hj; exact hj
  simp only [nums, ints, List.map_nil, List.append_nil]
  refine Ev.here fun k => ?_
  simp only [spec_l6Order.l0]
  rw [if_pos (by omega), if_pos (by omega), if_neg (by omega)]
 | @cons d x s a b h1 h2 ih1 ih2 =>
  intro i j acc hi hd hl
  rw [List.length_cons, List.length_append] at hl
  have e3 : (kd L i).length = (it L i).f6.length := List.length_map _
  have hj : j < (kd L i).length := by
   rcases Nat.lt_or_ge j (kd L i).length with q | q
   ·exact q
   ·rw [List.drop_eq_nil_of_le q] at hd; exact absurd hd (by simp)
  have hj2 : j < (it L i).f6.length := by omega
  have hj3 : j < (rd_T53 L (i : Int)).f6.length := hj2
  have hs1 := (it_small hL hi).2
  rw [List.drop_eq_getElem_cons hj] at hd
  obtain ⟨hx, hs⟩ := List.cons.inj hd
  have hget : (it L i).f6[j] = (x : Int) := by
   have : (kd L i)[j] = ((it L i).f6[j]).toNat := List.getElem_map _
   have h0 := ((hk i hi).2 _ (List.getElem_mem hj2)).1
   omega
  have hxl : x < L.length := by
   have := ((hk i hi).2 _ (List.getElem_mem hj2)).2.1
   omega
  have hrd : rd (rd_T53 L (i : Int)).f6 (j : Int) = (x : Int) := by
   have : rd (it L i).f6 (j : Int) = (x : Int) := by rw [rdI _ j hj2]; exact hget
   exact this
  have g1 := ih1 x 0 (acc ++ [(x : Int)]) hxl (by rw [List.drop_zero]) (by rw [List.length_append, List.length_singleton]; omega)
  have g2 := ih2 i (j + 1) (acc ++ [(x : Int)] ++ nums a) hi hs (by simp only [List.length_append, List.length_singleton, nums_length]; omega)
  have f1 : Ev (fun k => spec_l6Order.f k L x acc) (acc ++ [(x : Int)] ++ nums a) := by
   refine Ev.step (fun k => ?_) g1
   simp only [spec_l6Order.f]
   rw [if_neg (by omega), if_pos (by omega)]
   rfl
  have e5 : acc ++ nums ((x, d) :: (a ++ b)) = acc ++ [(x : Int)] ++ nums a ++ nums b := by rw [nums_cons]; simp
  rw [e5]
  refine Ev.step (f := fun k => (spec_l6Order.f k L x acc).bind fun t => spec_l6Order.l0 k L i t ((j + 1 : Nat) : Int)) (fun k => ?_) (Ev.bind f1 g2)
  simp only [spec_l6Order.l0, hrd, succ64 (show j < 9223372036854775807 by omega)]
  rw [if_pos (by omega), if_pos (by omega), if_pos (by omega), if_pos (by omega)]
/-- All in order: one list, told by both. -/
structure Walk (L : List S53) (out : List (Nat × Nat)) : Prop where
 pre : Pre (kd L) 0 [0] out
 once : (out.map Prod.fst).Nodup
 all : ∀ p, p ∈ out → p.1 < L.length ∧ At (upp L) p.2 p.1
 len : out.length ≤ L.length
theorem Order_tells (L : List S53) (hL : Small L) (h1 : 1 ≤ L.length) (hk : LinksP L) : ∃ out, Walk L out ∧ Ev (fun k => impl_order.f k L) (nums out) ∧ Ev (fun k => spec_l6Order.f k L 0 []) (nums out) := by
 have hL1 := hL.1
 obtain ⟨out, p1, p2, p3, p4⟩ := Pre_root (Links_ok L h1 hk)
 refine ⟨out, ⟨p1, p2, p3, p4⟩, ?_, ?_⟩
 ·have h0 : ∀ k, k ∈ [0] → k < L.length := fun k hk' => by
   obtain rfl : k = 0 := by simpa using hk'
   exact h1
  have h := Order_imp L hL hk (nums out) p1 h0 [] [] (by simp only [List.length_nil]; omega) (by simp only [List.length_nil]; omega) (Ev.here fun k => by simp only [impl_order.l0, List.nil_append]; rw [if_neg (by simp)])
  exact h
 ·cases p1 with
  | @cons _ _ _ a b q1 q2 =>
   cases q2 with
   | nil =>
    rw [List.length_cons, List.append_nil] at p4
    have g := Order_spec L hL hk q1 0 0 [(0 : Int)] (by omega) (by rw [List.drop_zero]) (by rw [List.length_singleton]; omega)
    rw [nums_cons]
    have e : (0 : Int) :: (nums a ++ nums []) = [(0 : Int)] ++ nums a := by simp [nums, ints]
    refine Ev.cast (Ev.step (fun k => ?_) g) e.symm
    simp only [spec_l6Order.f]
    rw [if_neg (by simp only [List.length_nil]; omega), if_pos (by simp)]
    rfl
end Go.Proofs.YtekkalnafngfeaaGreat.Tr
namespace Go.Proofs.YtekkalnafngfeaaGreat.Tr
open Go.RowKit Go.Proofs.YtekkalnafngfeaaGreat.P Go.Proofs.YtekkalnafngfeaaGreat.Evs Go.Proofs.YtekkalnafngfeaaGreatW.PrintWords Go.Proofs.YtekkalnafngfeaaGreatW.PrintLast

/-- No attribute's name stands twice. -/
def Once (l : List S56) : Prop := ∀ j, ∀ h : j < l.length, (l.take j).any (hasA l[j].f0) = false
theorem Once_tells (l : List S56) (hl : l.length ≤ 1048576) : (Once l → Ev (fun k => impl_namesOnce.f k l) true) ∧ (¬ Once l → Ev (fun k => impl_namesOnce.f k l) false) := by
 have hx : ∀ k (j : Nat) (hj : j < l.length), impl_namesOnce.l0 (k + 1) l l l.length j = if (l.take j).any (hasA l[j].f0) = true then some false else impl_namesOnce.l0 k l l l.length ((j + 1 : Nat) : Int) := fun k j hj => by
  have hrd : rd_T56 l (j : Int) = l[j] := rdT l _ j hj
  simp only [impl_namesOnce.l0, hrd, succ64 (show j < 9223372036854775807 by omega), Int.toNat_natCast, impl_hasAttr.f, Option.bind_some]
  rw [if_pos (by omega), if_pos (by omega), if_pos (by omega), if_pos (by omega)]
 have A := Ev.all (n := l.length) (j0 := 0) (g := fun k j => impl_namesOnce.l0 k l l l.length (j : Int)) (e := false) (ok := fun j => ∀ h : j < l.length, (l.take j).any (hasA l[j].f0) = false) (Nat.zero_le _)
  (fun j _ hj _ hok r hr => Ev.step (fun k => by rw [hx k j hj, if_neg (by rw [hok hj]; exact Bool.false_ne_true)]) hr)
  (fun j _ hj _ hok => Ev.here fun k => by
   rw [hx k j hj, if_pos]
   cases c : (l.take j).any (hasA l[j].f0) with
   | true => rfl
   | false => exact absurd (fun _ => c) hok)
 exact ⟨fun h => A.1 (fun j _ hj => h j) true (Ev.here fun k => by simp only [impl_namesOnce.l0]; rw [if_neg (by omega)]), fun h => A.2 fun hall => h fun j hj => hall j (Nat.zero_le _) hj hj⟩
/-- An item is right by itself, wherever it stands. -/
def Plain (x : S53) : Prop :=
 if x.f0 = 2 then ¬ x.f2.toList = [] ∧ x.f4.toList = [] ∧ 0 ≤ x.f1 ∧ x.f1 ≤ 2 ∧ Once x.f3
 else x.f2.toList = [] ∧ x.f3.length = 0 ∧ x.f1 = 0 ∧ (if x.f0 = 1 then x.f4.toList = [] else (x.f0 = 3 ∨ x.f0 = 4 ∨ x.f0 = 5) ∧ x.f6.length = 0)
theorem Plain_spec (x : S53) (hl : x.f3.length ≤ 1048576) : ∃ v : Bool, (v = true ↔ Plain x) ∧ Ev (fun k => spec_l6Plain.f k x.f0 x.f1 x.f2 x.f3 x.f4 x.f5 x.f6) v := by
 obtain ⟨b, e1, e2⟩ := Pl.Names_loop x.f3 hl (x.f0 == 2) x.f0 x.f1 x.f5 x.f2 x.f4 x.f6 x.f3.length 0 (by omega) (by omega)
 replace e1 : Ev (fun k => impl_namesOnce.f k x.f3) b := e1
 have hb : b = true ↔ Once x.f3 := by
  obtain ⟨o1, o2⟩ := Once_tells x.f3 hl
  constructor
  ·intro h
   subst h
   apply Classical.byContradiction
   intro c
   exact Bool.noConfusion (Ev.uniq e1 (o2 c))
  ·intro h
   exact Ev.uniq e1 (o1 h)
 have J0 : Ev (fun k => spec_l6Plain.j0 k (x.f0 == 2) true x.f0 x.f1 x.f2 x.f3 x.f4 x.f5 x.f6) false := Ev.here fun k => by simp only [spec_l6Plain.j0]; rw [if_pos True.intro]
 have J1 : Ev (fun k => spec_l6Plain.j0 k (x.f0 == 2) false x.f0 x.f1 x.f2 x.f3 x.f4 x.f5 x.f6) (b && Pl.tailP x.f0 x.f4 x.f6 (x.f0 == 2)) := Ev.step (fun k => by simp only [spec_l6Plain.j0]; rw [if_neg (by decide)]; rfl) e2
 have no : ∀ {P : Prop}, ¬ P → (false = true ↔ P) := fun h => ⟨fun q => Bool.noConfusion q, fun q => absurd q h⟩
 unfold spec_l6Plain.f
 by_cases c2 : x.f0 = 2
 ·have hP : Plain x ↔ (¬ x.f2.toList = [] ∧ x.f4.toList = [] ∧ 0 ≤ x.f1 ∧ x.f1 ≤ 2 ∧ Once x.f3) := by unfold Plain; rw [if_pos c2]
  have ht : Pl.tailP x.f0 x.f4 x.f6 (x.f0 == 2) = true := by
   unfold Pl.tailP
   rw [if_neg (by omega), if_neg (by omega), beq_iff_eq]; exact c2
  by_cases cn : x.f2.toList = []
  ·exact ⟨false, no fun h => (hP.mp h).1 cn, Ev.ite_pos c2 (Ev.ite_pos cn J0)⟩
  by_cases c4 : x.f4.toList = []
  ·by_cases cr : 0 ≤ x.f1 ∧ x.f1 ≤ 2
   ·refine ⟨b, ⟨fun h => hP.mpr ⟨cn, c4, cr.1, cr.2, hb.mp h⟩, fun h => hb.mpr (hP.mp h).2.2.2.2⟩, Ev.ite_pos c2 (Ev.ite_neg cn (Ev.ite_pos c4 (Ev.opt (l1In_eq x.f1 0 2) ?_)))⟩
    rw [ht, Bool.and_true] at J1
    rw [decide_eq_true cr]; exact J1
   ·refine ⟨false, no fun h => cr ⟨(hP.mp h).2.2.1, (hP.mp h).2.2.2.1⟩, Ev.ite_pos c2 (Ev.ite_neg cn (Ev.ite_pos c4 (Ev.opt (l1In_eq x.f1 0 2) ?_)))⟩
    rw [decide_eq_false cr]; exact J0
  ·exact ⟨false, no fun h => c4 (hP.mp h).2.1, Ev.ite_pos c2 (Ev.ite_neg cn (Ev.ite_neg c4 J0))⟩
 ·have hP : Plain x ↔ (x.f2.toList = [] ∧ x.f3.length = 0 ∧ x.f1 = 0 ∧ (if x.f0 = 1 then x.f4.toList = [] else (x.f0 = 3 ∨ x.f0 = 4 ∨ x.f0 = 5) ∧ x.f6.length = 0)) := by unfold Plain; rw [if_neg c2]
  have hx : (x.f0 == 2) = false := by rw [beq_eq_false_iff_ne]; exact c2
  by_cases cn : x.f2.toList = []
  case neg => exact ⟨false, no fun h => cn (hP.mp h).1, Ev.ite_neg c2 (Ev.ite_neg cn J0)⟩
  by_cases cl : x.f3.length = 0
  case neg => exact ⟨false, no fun h => cl (hP.mp h).2.1, Ev.ite_neg c2 (Ev.ite_pos cn (Ev.ite_pos (by omega) J0))⟩
  by_cases c1 : x.f1 = 0
  case neg => exact ⟨false, no fun h => c1 (hP.mp h).2.2.1, Ev.ite_neg c2 (Ev.ite_pos cn (Ev.ite_neg (by omega) (Ev.ite_neg c1 J0)))⟩
  have hbt : b = true := hb.mpr fun j hj => by omega
  rw [hbt, Bool.true_and] at J1
  refine ⟨Pl.tailP x.f0 x.f4 x.f6 (x.f0 == 2), ?_, Ev.ite_neg c2 (Ev.ite_pos cn (Ev.ite_neg (by omega) (Ev.ite_pos c1 J1)))⟩
  rw [hP, hx]
  unfold Pl.tailP
  by_cases q1 : x.f0 = 1
  ·rw [if_pos q1, if_pos q1]
   simp [cn, cl, c1]
  ·rw [if_neg q1, if_neg q1]
   by_cases q3 : x.f0 = 3 ∨ x.f0 = 4 ∨ x.f0 = 5
   ·rw [if_pos q3]
    simp only [cn, cl, c1, q3, true_and, beq_iff_eq]
    omega
   ·rw [if_neg q3]
    simp [q3]
theorem Plain_tells (x : S53) (hl : x.f3.length ≤ 1048576) : ∃ b : Bool, (b = true ↔ Plain x) ∧ Ev (fun k => spec_l6Plain.f k x.f0 x.f1 x.f2 x.f3 x.f4 x.f5 x.f6) b ∧ Ev (fun k => impl_itemOk.f k x.f0 x.f1 x.f2 x.f3 x.f4 x.f5 x.f6) (b && !(x.f0 == 1)) ∧ (x.f0 = 1 → impl_pageOk.f x.f0 x.f1 x.f2 x.f3 x.f4 x.f5 x.f6 = some (b && x.f5 == -1)) := by
 obtain ⟨v, h1, h2⟩ := Plain_spec x hl
 obtain ⟨b, e1, e2, e3⟩ := Pl.Plain_same x.f0 x.f1 x.f5 x.f2 x.f4 x.f3 x.f6 hl
 obtain rfl : v = b := Ev.uniq h2 e1
 exact ⟨v, h1, e1, e2, e3⟩
theorem Plain_kids {x : S53} (h : Plain x) (hk : x.f6.length ≠ 0) : x.f0 = 1 ∨ x.f0 = 2 := by
 unfold Plain at h
 by_cases c : x.f0 = 2
 ·exact Or.inr c
 ·rw [if_neg c] at h
  by_cases c1 : x.f0 = 1
  ·exact Or.inl c1
  ·rw [if_neg c1] at h
   exact absurd h.2.2.2.2 hk
theorem page_not (f0 f1 f5 : Int) (f2 f4 : ByteArray) (l : List S56) (kids : List Int) (h : ¬ f0 = 1) : impl_pageOk.f f0 f1 f2 l f4 f5 kids = some false := by
 unfold impl_pageOk.f; rw [if_neg h]

/-! ### the whole -/
def Right (L : List S53) : Prop := (1 ≤ L.length ∧ L.length ≤ 3000) ∧ (it L 0).f0 = 1 ∧ (∀ i, i < L.length → Plain (it L i) ∧ (0 < i → ¬ (it L i).f0 = 1)) ∧ LinksP L ∧ ∃ out, Walk L out ∧ out.length = L.length
theorem spec_tells (L : List S53) (hL : Small L) : (Right L → Ev (fun k => spec_TreeOk.f k L) true) ∧ (¬ Right L → Ev (fun k => spec_TreeOk.f k L) false) := by
 have hL1 := hL.1
 have A := Ev.all (n := L.length) (j0 := 0) (g := fun k j => spec_TreeOk.l0 k L (j : Int)) (e := false) (ok := fun i => Plain (it L i) ∧ (0 < i → ¬ (it L i).f0 = 1)) (Nat.zero_le _)
  (fun i _ hi _ hok r hr => by
   obtain ⟨b, hb, e, _⟩ := Plain_tells (it L i) (it_small hL hi).1
   refine Ev.step (fun k => by simp only [spec_TreeOk.l0, succ64 (show i < 9223372036854775807 by omega)]; rw [if_pos (by omega), if_pos (by omega), show rd_T53 L (i : Int) = it L i from rfl]) (Ev.bind e (Ev.ite_pos (hb.mpr hok.1) ?_))
   by_cases c : 0 < i
   ·exact Ev.ite_pos (by omega) (Ev.ite_neg (hok.2 c) hr)
   ·exact Ev.ite_neg (by omega) hr)
  (fun i _ hi _ hok => by
   obtain ⟨b, hb, e, _⟩ := Plain_tells (it L i) (it_small hL hi).1
   refine Ev.step (fun k => by simp only [spec_TreeOk.l0, succ64 (show i < 9223372036854775807 by omega)]; rw [if_pos (by omega), if_pos (by omega), show rd_T53 L (i : Int) = it L i from rfl]) (Ev.bind e ?_)
   by_cases c : b = true
   ·have h2 : ¬ (0 < i → ¬ (it L i).f0 = 1) := fun q => hok ⟨hb.mp c, q⟩
    by_cases c3 : 0 < i
    ·exact Ev.ite_pos c (Ev.ite_pos (by omega) (Ev.ite_pos (Classical.byContradiction fun q => h2 fun _ => q) (Ev.const fun _ => rfl)))
    ·exact absurd (fun q => absurd q c3) h2
   ·exact Ev.ite_neg c (Ev.const fun _ => rfl))
 have hj1 : Ev (fun k => spec_TreeOk.j0 k L true) false := Ev.here fun k => by simp only [spec_TreeOk.j0]; rw [if_pos True.intro]
 have hj0 : ∀ r, Ev (fun k => spec_TreeOk.l0 k L ((0 : Nat) : Int)) r → Ev (fun k => spec_TreeOk.j0 k L false) r := fun r hr => Ev.step (fun k => by simp only [spec_TreeOk.j0]; rw [if_neg Bool.false_ne_true]; rfl) hr
 unfold spec_TreeOk.f
 by_cases cl : 1 ≤ L.length ∧ L.length ≤ 3000
 case neg =>
  have h : ¬ Right L := fun h => cl h.1
  have e : (decide (1 ≤ (L.length : Int) ∧ (L.length : Int) ≤ 3000)) = false := decide_eq_false (by omega)
  exact ⟨fun q => absurd q h, fun _ => Ev.opt (l1In_eq _ 1 3000) (by rw [e]; exact Ev.ite_neg Bool.false_ne_true hj1)⟩
 have e : (decide (1 ≤ (L.length : Int) ∧ (L.length : Int) ≤ 3000)) = true := decide_eq_true (by omega)
 have pre : ∀ r, Ev (fun k => spec_TreeOk.j0 k L ((it L 0).f0 != 1)) r → Ev (fun k => (spec_l1In.f (L.length : Int) 1 3000).bind fun t141 => (if t141 = true then (if 0 < (L.length : Int) then (spec_TreeOk.j0 k L (((rd_T53 L 0).f0) != 1)) else (none)) else (spec_TreeOk.j0 k L true))) r := fun r hr =>
  Ev.opt (l1In_eq _ 1 3000) (by rw [e]; exact Ev.ite_pos rfl (Ev.ite_pos (by omega) hr))
 by_cases c0 : (it L 0).f0 = 1
 case neg =>
  have h : ¬ Right L := fun h => c0 h.2.1
  exact ⟨fun q => absurd q h, fun _ => pre false (by rw [bne_iff_ne.mpr c0]; exact hj1)⟩
 have pre2 : ∀ r, Ev (fun k => spec_TreeOk.l0 k L ((0 : Nat) : Int)) r → _ := fun r hr => pre r (by rw [show ((it L 0).f0 != 1) = false from by rw [c0]; rfl]; exact hj0 r hr)
 by_cases ci : ∀ i, 0 ≤ i → i < L.length → Plain (it L i) ∧ (0 < i → ¬ (it L i).f0 = 1)
 case neg =>
  have h : ¬ Right L := fun h => ci fun i _ hi => h.2.2.1 i hi
  exact ⟨fun q => absurd q h, fun _ => pre2 false (A.2 ci)⟩
 have hend : ∀ r, Ev (fun k => (spec_l6Links.f k L).bind fun t146 => (if t146 = true then ((spec_l6Order.f k L 0 (([] : List Int))).bind fun t150 => (some ((t150.length : Int) == (L.length : Int)))) else (some false))) r → _ := fun r hr =>
  pre2 r (A.1 ci r (Ev.step (fun k => by simp only [spec_TreeOk.l0]; rw [if_neg (by omega)]) hr))
 obtain ⟨k1, k2⟩ := Links_tells L hL
 by_cases ck : LinksP L
 case neg =>
  have h : ¬ Right L := fun h => ck h.2.2.2.1
  exact ⟨fun q => absurd q h, fun _ => hend false (Ev.bind (k2 ck) (Ev.ite_neg Bool.false_ne_true (Ev.const fun _ => rfl)))⟩
 obtain ⟨out, w, _, eo⟩ := Order_tells L hL cl.1 ck
 have last : Ev (fun k => (spec_l6Links.f k L).bind fun t146 => (if t146 = true then ((spec_l6Order.f k L 0 (([] : List Int))).bind fun t150 => (some ((t150.length : Int) == (L.length : Int)))) else (some false))) (((nums out).length : Int) == (L.length : Int)) :=
  Ev.bind (k1 ck) (Ev.ite_pos rfl (Ev.bind eo (Ev.const fun _ => rfl)))
 refine ⟨fun h => ?_, fun h => ?_⟩
 ·obtain ⟨out2, w2, hl2⟩ := h.2.2.2.2
  rw [Pre_uniq w2.pre _ w.pre] at hl2
  have : (((nums out).length : Int) == (L.length : Int)) = true := by rw [nums_length, hl2, beq_iff_eq]
  rw [this] at last
  exact hend true last
 ·have : (((nums out).length : Int) == (L.length : Int)) = false := by
   rw [nums_length, beq_eq_false_iff_ne]
   intro q
   exact h ⟨cl, c0, fun i hi => ci i (Nat.zero_le _) hi, ck, out, w, by omega⟩
  rw [this] at last
  exact hend false last
/-- What the program asks of each item but the first. -/
def ItemI (L : List S53) (i : Nat) : Prop := (Plain (it L i) ∧ ¬ (it L i).f0 = 1) ∧ (0 ≤ (it L i).f5 ∧ (it L i).f5 < L.length) ∧ ((rd_T53 L (it L i).f5).f0 = 1 ∨ (rd_T53 L (it L i).f5).f0 = 2)
theorem hasKids_eq (a : Int) : impl_hasKids.f a = some (decide (a = 1 ∨ a = 2)) := by
 unfold impl_hasKids.f
 by_cases c : a = 1
 ·rw [if_pos c, decide_eq_true (Or.inl c)]
 ·rw [if_neg c]
  by_cases c2 : a = 2
  ·rw [decide_eq_true (Or.inr c2), show (a == 2) = true from beq_iff_eq.mpr c2]
  ·rw [decide_eq_false (by omega), show (a == 2) = false from beq_eq_false_iff_ne.mpr c2]
theorem it_drop (L : List S53) (j : Nat) (h : j + 1 < L.length) : rd_T53 (L.drop 1) (j : Int) = it L (j + 1) := by
 rw [it_get h]
 have h2 : j < (L.drop 1).length := by rw [List.length_drop]; omega
 rw [show rd_T53 (L.drop 1) (j : Int) = (L.drop 1)[j] from rdT _ _ j h2, List.getElem_drop]
 congr 1; omega
theorem Right_iff (L : List S53) (hL : Small L) : Right L ↔ (1 ≤ L.length ∧ L.length ≤ 3000) ∧ ((it L 0).f0 = 1 ∧ Plain (it L 0) ∧ (it L 0).f5 = -1) ∧ (∀ i, 1 ≤ i → i < L.length → ItemI L i) ∧ KidsP L ∧ ∃ out, Walk L out ∧ out.length = L.length := by
 constructor
 ·rintro ⟨h1, h2, h3, h4, h5⟩
  have h0 : (it L 0).f5 = -1 := by have := (h4 0 (by omega)).1; unfold UpOk at this; rwa [if_pos rfl] at this
  have hup : ∀ i, 1 ≤ i → i < L.length → 0 ≤ (it L i).f5 ∧ (it L i).f5 < L.length ∧ (rd_T53 L (it L i).f5).f6.count (i : Int) = 1 := fun i q1 q2 => by
   have := (h4 i q2).1; unfold UpOk at this; rwa [if_neg (by omega)] at this
  refine ⟨h1, ⟨h2, (h3 0 (by omega)).1, h0⟩, fun i q1 q2 => ?_, (Links_iff L h0 fun i q1 q2 => ⟨(hup i q1 q2).1, (hup i q1 q2).2.1⟩).mp h4, h5⟩
  obtain ⟨u0, u1, u2⟩ := hup i q1 q2
  refine ⟨⟨(h3 i q2).1, (h3 i q2).2 (by omega)⟩, ⟨u0, u1⟩, ?_⟩
  have hp := (h3 (it L i).f5.toNat (by omega)).1
  rw [it_toNat L u0] at hp
  refine Plain_kids hp fun hz => ?_
  rw [List.eq_nil_of_length_eq_zero hz, List.count_nil] at u2
  omega
 ·rintro ⟨h1, ⟨h2, h2p, h0⟩, h3, h4, h5⟩
  refine ⟨h1, h2, fun i hi => ?_, (Links_iff L h0 fun i q1 q2 => (h3 i q1 q2).2.1).mpr h4, h5⟩
  by_cases c : i = 0
  ·subst c; exact ⟨h2p, fun h => absurd h (by omega)⟩
  ·have := (h3 i (by omega) hi).1
   exact ⟨this.1, fun _ => this.2⟩
theorem impl_tells (L : List S53) (hL : Small L) : (Right L → Ev (fun k => impl_TreeOk.f k L) true) ∧ (¬ Right L → Ev (fun k => impl_TreeOk.f k L) false) := by
 have hL1 := hL.1
 rw [Right_iff L hL]
 have hj1 : Ev (fun k => impl_TreeOk.j0 k L true) false := Ev.here fun k => by simp only [impl_TreeOk.j0]; rw [if_pos True.intro]
 unfold impl_TreeOk.f
 by_cases cl : 1 ≤ L.length ∧ L.length ≤ 3000
 case neg =>
  have e : (decide (1 ≤ (L.length : Int) ∧ (L.length : Int) ≤ 3000)) = false := decide_eq_false (by omega)
  exact ⟨fun q => absurd q.1 cl, fun _ => Ev.opt (inRange_eq _ 1 3000) (by rw [e]; exact Ev.ite_neg Bool.false_ne_true hj1)⟩
 have e : (decide (1 ≤ (L.length : Int) ∧ (L.length : Int) ≤ 3000)) = true := decide_eq_true (by omega)
 have hn : wrap64 ((L.length : Int) - 1) = (L.length : Int) - 1 := w64 (by omega) (by omega)
 have hdl : ((L.drop 1).length : Int) = ((L.length - 1 : Nat) : Int) := by rw [List.length_drop]
 have hj0 : ∀ r, Ev (fun k => impl_TreeOk.l0 k L (L.drop 1) ((L.length - 1 : Nat) : Int) ((0 : Nat) : Int)) r → Ev (fun k => impl_TreeOk.j0 k L false) r := fun r hr => Ev.step (fun k => by
  simp only [impl_TreeOk.j0]; rw [if_neg Bool.false_ne_true, if_pos (by omega)]; simp only [Option.bind_some]; rw [hdl]; rfl) hr
 have pre : ∀ (t : Bool) r, impl_pageOk.f (it L 0).f0 (it L 0).f1 (it L 0).f2 (it L 0).f3 (it L 0).f4 (it L 0).f5 (it L 0).f6 = some t → Ev (fun k => impl_TreeOk.j0 k L (!t)) r → Ev (fun k => (impl_inRange.f (L.length : Int) 1 3000).bind fun t238 => (if t238 = true then (if 0 < (L.length : Int) then ((impl_pageOk.f ((rd_T53 L 0).f0) ((rd_T53 L 0).f1) ((rd_T53 L 0).f2) ((rd_T53 L 0).f3) ((rd_T53 L 0).f4) ((rd_T53 L 0).f5) ((rd_T53 L 0).f6)).bind fun t240 => (impl_TreeOk.j0 k L (!t240))) else (none)) else (impl_TreeOk.j0 k L true))) r := fun t r ht hr =>
  Ev.opt (inRange_eq _ 1 3000) (by rw [e]; exact Ev.ite_pos rfl (Ev.ite_pos (by omega) (Ev.opt ht hr)))
 by_cases c0 : (it L 0).f0 = 1
 case neg => exact ⟨fun q => absurd q.2.1.1 c0, fun _ => pre false false (page_not _ _ _ _ _ _ _ c0) hj1⟩
 obtain ⟨b, hb, _, _, hpg⟩ := Plain_tells (it L 0) (it_small hL (i := 0) (by omega)).1
 replace hpg := hpg c0
 by_cases cp : Plain (it L 0) ∧ (it L 0).f5 = -1
 case neg =>
  have : (b && (it L 0).f5 == -1) = false := by
   cases b with
   | false => rfl
   | true => rw [Bool.true_and, beq_eq_false_iff_ne]; exact fun q => cp ⟨hb.mp rfl, q⟩
  rw [this] at hpg
  exact ⟨fun q => absurd q.2.1.2 cp, fun _ => pre false false hpg hj1⟩
 have hbt : (b && (it L 0).f5 == -1) = true := by rw [hb.mpr cp.1, cp.2]; rfl
 rw [hbt] at hpg
 have pre2 : ∀ r, Ev (fun k => impl_TreeOk.l0 k L (L.drop 1) ((L.length - 1 : Nat) : Int) ((0 : Nat) : Int)) r → _ := fun r hr => pre true r hpg (hj0 r hr)
 have hst : ∀ k (j : Nat), j < L.length - 1 → impl_TreeOk.l0 (k + 1) L (L.drop 1) ((L.length - 1 : Nat) : Int) (j : Int) = (impl_itemOk.f k (it L (j + 1)).f0 (it L (j + 1)).f1 (it L (j + 1)).f2 (it L (j + 1)).f3 (it L (j + 1)).f4 (it L (j + 1)).f5 (it L (j + 1)).f6).bind fun t251 => (if t251 = true then (if decide (0 ≤ (it L (j + 1)).f5 ∧ (it L (j + 1)).f5 ≤ (L.length : Int) - 1) = true then (if 0 ≤ (it L (j + 1)).f5 then (if (it L (j + 1)).f5 < (L.length : Int) then (if decide ((rd_T53 L (it L (j + 1)).f5).f0 = 1 ∨ (rd_T53 L (it L (j + 1)).f5).f0 = 2) = true then impl_TreeOk.l0 k L (L.drop 1) ((L.length - 1 : Nat) : Int) ((j + 1 : Nat) : Int) else some false) else none) else none) else some false) else some false) := fun k j hj => by
  simp only [impl_TreeOk.l0, succ64 (show j < 9223372036854775807 by omega), it_drop L j (by omega), inRange_eq, hasKids_eq, hn, Option.bind_some]
  rw [if_pos (by omega), if_pos (by omega), if_pos (by omega)]
 have A := Ev.all (n := L.length - 1) (j0 := 0) (g := fun k j => impl_TreeOk.l0 k L (L.drop 1) ((L.length - 1 : Nat) : Int) (j : Int)) (e := false) (ok := fun j => ItemI L (j + 1)) (Nat.zero_le _)
  (fun j _ hj _ hok r hr => by
   obtain ⟨⟨p1, p2⟩, ⟨u0, u1⟩, hk⟩ := hok
   obtain ⟨b, hb, _, e, _⟩ := Plain_tells (it L (j + 1)) (it_small hL (i := j + 1) (by omega)).1
   have : (b && !((it L (j + 1)).f0 == 1)) = true := by rw [hb.mpr p1, show ((it L (j + 1)).f0 == 1) = false from beq_eq_false_iff_ne.mpr p2]; rfl
   rw [this] at e
   refine Ev.step (fun k => hst k j hj) (Ev.bind e (Ev.ite_pos rfl (Ev.ite_pos (decide_eq_true ⟨u0, by omega⟩) (Ev.ite_pos u0 (Ev.ite_pos u1 (Ev.ite_pos (decide_eq_true hk) hr))))))
  )
  (fun j _ hj _ hok => by
   obtain ⟨b, hb, _, e, _⟩ := Plain_tells (it L (j + 1)) (it_small hL (i := j + 1) (by omega)).1
   refine Ev.step (fun k => hst k j hj) (Ev.bind e ?_)
   by_cases c : (b && !((it L (j + 1)).f0 == 1)) = true
   case neg => exact Ev.ite_neg c (Ev.const fun _ => rfl)
   refine Ev.ite_pos c ?_
   rw [Bool.and_eq_true, Bool.not_eq_true', beq_eq_false_iff_ne] at c
   by_cases cu : 0 ≤ (it L (j + 1)).f5 ∧ (it L (j + 1)).f5 ≤ (L.length : Int) - 1
   case neg => exact Ev.ite_neg (by rw [decide_eq_true_iff]; exact cu) (Ev.const fun _ => rfl)
   refine Ev.ite_pos (decide_eq_true cu) (Ev.ite_pos cu.1 (Ev.ite_pos (by omega) (Ev.ite_neg ?_ (Ev.const fun _ => rfl))))
   rw [decide_eq_true_iff]
   exact fun q => hok ⟨⟨hb.mp c.1, c.2⟩, ⟨cu.1, by omega⟩, q⟩)
 by_cases ci : ∀ j, 0 ≤ j → j < L.length - 1 → ItemI L (j + 1)
 case neg => exact ⟨fun q => absurd (fun j _ hj => q.2.2.1 (j + 1) (by omega) (by omega)) ci, fun _ => pre2 false (A.2 ci)⟩
 have hend : ∀ r, Ev (fun k => (impl_kidsOk.f k L).bind fun t245 => (if t245 = true then ((impl_order.f k L).bind fun t246 => (some ((t246.length : Int) == (L.length : Int)))) else (some false))) r → _ := fun r hr =>
  pre2 r (A.1 ci r (Ev.step (fun k => by simp only [impl_TreeOk.l0]; rw [if_neg (by omega)]) hr))
 obtain ⟨k1, k2⟩ := kidsOk_tells L hL cl.1
 by_cases ck : KidsP L
 case neg => exact ⟨fun q => absurd q.2.2.2.1 ck, fun _ => hend false (Ev.bind (k2 ck) (Ev.ite_neg Bool.false_ne_true (Ev.const fun _ => rfl)))⟩
 have ci2 : ∀ i, 1 ≤ i → i < L.length → ItemI L i := fun i q1 q2 => by
  have := ci (i - 1) (Nat.zero_le _) (by omega)
  rwa [show i - 1 + 1 = i by omega] at this
 have hlk := (Links_iff L cp.2 fun i q1 q2 => (ci2 i q1 q2).2.1).mpr ck
 obtain ⟨out, w, eo, _⟩ := Order_tells L hL cl.1 hlk
 have last : Ev (fun k => (impl_kidsOk.f k L).bind fun t245 => (if t245 = true then ((impl_order.f k L).bind fun t246 => (some ((t246.length : Int) == (L.length : Int)))) else (some false))) (((nums out).length : Int) == (L.length : Int)) :=
  Ev.bind (k1 ck) (Ev.ite_pos rfl (Ev.bind eo (Ev.const fun _ => rfl)))
 refine ⟨fun h => ?_, fun h => ?_⟩
 ·obtain ⟨out2, w2, hl2⟩ := h.2.2.2.2
  rw [Pre_uniq w2.pre _ w.pre] at hl2
  have : (((nums out).length : Int) == (L.length : Int)) = true := by rw [nums_length, hl2, beq_iff_eq]
  rw [this] at last
  exact hend true last
 ·have : (((nums out).length : Int) == (L.length : Int)) = false := by
   rw [nums_length, beq_eq_false_iff_ne]
   intro q
   exact h ⟨cl, ⟨c0, cp.1, cp.2⟩, ci2, ck, out, w, by omega⟩
  rw [this] at last
  exact hend false last
end Go.Proofs.YtekkalnafngfeaaGreat.Tr
namespace Go.Proofs.YtekkalnafngfeaaGreat.Tr
open Go.RowKit Go.Proofs.YtekkalnafngfeaaGreat.P Go.Proofs.YtekkalnafngfeaaGreat.It Go.Proofs.YtekkalnafngfeaaGreatW.PrintWords

theorem toItems_small (m : Nat) (l : List S67) (h1 : l.length ≤ 1048576) (h2 : ∀ y ∈ l, G67 1048576 m y) : Small (l.map toI) ∧ ∀ y ∈ l.map toI, G53 1048576 m y := by
 have h : ∀ y ∈ l.map toI, G53 1048576 m y := fun y hy => by
  obtain ⟨x, hx, rfl⟩ := List.mem_map.mp hy
  exact toI_good m x (h2 x hx)
 refine ⟨⟨by rw [List.length_map]; exact h1, fun y hy => ?_⟩, h⟩
 obtain ⟨_, _, _, ⟨g3, _⟩, _, _, ⟨g6, _⟩⟩ := h y hy
 exact ⟨g3, g6⟩
end Go.Proofs.YtekkalnafngfeaaGreat.Tr
