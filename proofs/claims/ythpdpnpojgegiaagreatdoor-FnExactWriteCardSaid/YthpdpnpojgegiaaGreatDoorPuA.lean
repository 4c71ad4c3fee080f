/- Small words over the rounds of a printed function: 'Ev' by cases, the numbers' wrap, a row read at a place. No conditions: over any program. Loops that go over places and ask something at each: all the same shape. No conditions: over any program. Lists of attributes as the laws' own code goes over them: counting, copying, comparing: each ends, and what it tells. No conditions but the sizes that the row gives. Elements as the laws' own code goes over them: counting, copying, comparing: each ends, and what it tells (how deep one is, too). No conditions but the sizes that the row gives. Whether an attribute is there: the reference's loop tells what the program's search tells. No conditions but the size. Signs and their bytes: the program's and the reference's tell the same at every place of every text: one sign (GetSign), all (Signs), back (PutSign, SignText), cleaned (Clean), of names (IsFirst, IsNext). No conditions but the size. All signs of a text, and a text of signs: the program's and the reference's Signs, SignText tell the same. No conditions but the size. The program's Clean, CleanOk and the reference's tell the same. No conditions but the size. Signs of names: the program's IsFirst, IsNext and the reference's tell the same. No conditions. The program's NameOk and the reference's tell the same. No conditions but the size. Signs of texts: the program's IsText and the reference's tell the same. No conditions. The program's TextOk and the reference's tell the same. No conditions but the size. Searches in a text: the reference's loops and the library's words for the same. No conditions but the size. The program's NoteOk (by strings.Contains, HasSuffix) and the reference's (by its own searches) tell the same. No conditions but the size. A strict element: the program's elOk and the reference's (how deep, and l15El) tell the same. No conditions but the sizes. -/
import Derived.Test.YthpdpnpojgegiaaGreatDoorVPww
import Derived.Laws.BitsLemmas
import Derived.Lib.IndexMore
import Derived.Lib.IndexBytes
import Derived.Test.YthpdpnpojgegiaaGreatDoorPw1
import Derived.Test.YthpdpnpojgegiaaGreatDoorPw10
import Derived.Test.YthpdpnpojgegiaaGreatDoorPw11
import Derived.Test.YthpdpnpojgegiaaGreatDoorPw16
import Derived.Test.YthpdpnpojgegiaaGreatDoorPw17
import Derived.Test.YthpdpnpojgegiaaGreatDoorPw18
import Derived.Test.YthpdpnpojgegiaaGreatDoorPw2
import Derived.Test.YthpdpnpojgegiaaGreatDoorPw23
import Derived.Test.YthpdpnpojgegiaaGreatDoorPw24
import Derived.Test.YthpdpnpojgegiaaGreatDoorPw27
import Derived.Test.YthpdpnpojgegiaaGreatDoorPw28
import Derived.Test.YthpdpnpojgegiaaGreatDoorPw29
import Derived.Test.YthpdpnpojgegiaaGreatDoorPw3
import Derived.Test.YthpdpnpojgegiaaGreatDoorPw30
import Derived.Test.YthpdpnpojgegiaaGreatDoorPw31
import Derived.Test.YthpdpnpojgegiaaGreatDoorPw32
import Derived.Test.YthpdpnpojgegiaaGreatDoorPw4
import Derived.Test.YthpdpnpojgegiaaGreatDoorPw42
import Derived.Test.YthpdpnpojgegiaaGreatDoorPw43
import Derived.Test.YthpdpnpojgegiaaGreatDoorPw5
import Derived.Test.YthpdpnpojgegiaaGreatDoorPw6
import Derived.Test.YthpdpnpojgegiaaGreatDoorPw7
import Derived.Test.YthpdpnpojgegiaaGreatDoorPw8
set_option linter.unusedVariables false
set_option linter.unusedSimpArgs false
namespace Go.Proofs.YthpdpnpojgegiaaGreatDoor.Evs
open Go.RowKit Go.Proofs.YthpdpnpojgegiaaGreatDoorW.PrintWords

theorem w64 {i : Int} (h0 : -9223372036854775808 ≤ i) (h1 : i ≤ 9223372036854775807) : wrap64 i = i := by unfold wrap64; omega
theorem Ev.here {α : Type} {g : Nat → Option α} {r : α} (h : ∀ k, g (k + 1) = some r) : Ev g r := ⟨1, fun k hk => by obtain ⟨k, rfl⟩ : ∃ m, k = m + 1 := ⟨k - 1, by omega⟩; exact h k⟩
theorem Ev.const {α : Type} {g : Nat → Option α} {r : α} (h : ∀ k, g k = some r) : Ev g r := ⟨0, fun k _ => h k⟩
theorem Ev.ite_pos {α : Type} {c : Prop} [Decidable c] {f g : Nat → Option α} {r : α} (hc : c) (h : Ev f r) : Ev (fun k => if c then f k else g k) r := by
 simp only [if_pos hc]; exact h
theorem Ev.ite_neg {α : Type} {c : Prop} [Decidable c] {f g : Nat → Option α} {r : α} (hc : ¬ c) (h : Ev g r) : Ev (fun k => if c then f k else g k) r := by
 simp only [if_neg hc]; exact h
theorem Ev.opt {α β : Type} {o : Option α} {f : Nat → α → Option β} {a : α} {r : β} (h : o = some a) (k : Ev (fun n => f n a) r) : Ev (fun n => o.bind (f n)) r := by
 subst h; exact k
theorem rdT {α : Type} (xs : List α) (z : α) (i : Nat) (h : i < xs.length) : xs.getD ((i : Int)).toNat z = xs[i] := by
 rw [Int.toNat_natCast, List.getD_eq_getElem?_getD, List.getElem?_eq_getElem h]; rfl
end Go.Proofs.YthpdpnpojgegiaaGreatDoor.Evs
namespace Go.Proofs.YthpdpnpojgegiaaGreatDoor.Evs
open Go.RowKit Go.Proofs.YthpdpnpojgegiaaGreatDoorW.PrintWords

theorem Ev.all {β : Type} {n : Nat} {g : Nat → Nat → Option β} {e : β} {ok : Nat → Prop} {j0 : Nat} (h0 : j0 ≤ n)
  (yes : ∀ j, j0 ≤ j → j < n → (∀ i, j0 ≤ i → i < j → ok i) → ok j → ∀ r, Ev (fun k => g k (j + 1)) r → Ev (fun k => g k j) r)
  (no : ∀ j, j0 ≤ j → j < n → (∀ i, j0 ≤ i → i < j → ok i) → ¬ ok j → Ev (fun k => g k j) e) :
  ((∀ i, j0 ≤ i → i < n → ok i) → ∀ r, Ev (fun k => g k n) r → Ev (fun k => g k j0) r) ∧ ((¬ ∀ i, j0 ≤ i → i < n → ok i) → Ev (fun k => g k j0) e) := by
 have main : ∀ d j, n - j = d → j0 ≤ j → j ≤ n → (∀ i, j0 ≤ i → i < j → ok i) → ((∀ i, j ≤ i → i < n → ok i) → ∀ r, Ev (fun k => g k n) r → Ev (fun k => g k j) r) ∧ ((¬ ∀ i, j ≤ i → i < n → ok i) → Ev (fun k => g k j) e) := by
  intro d
  induction d with
  | zero =>
   intro j hd _ hj _
   obtain rfl : j = n := by omega
   exact ⟨fun _ r h => h, fun h => absurd (fun i h1 h2 => absurd h2 (by omega)) h⟩
  | succ d ih =>
   intro j hd h1 hj hb
   by_cases c : ok j
   ·have hb2 : ∀ i, j0 ≤ i → i < j + 1 → ok i := fun i q1 q2 => by
     rcases Nat.lt_or_ge i j with q | q
     ·exact hb i q1 q
     ·obtain rfl : i = j := by omega
      exact c
    obtain ⟨y, x⟩ := ih (j + 1) (by omega) (by omega) (by omega) hb2
    refine ⟨fun hall r hr => yes j h1 (by omega) hb c r (y (fun i q1 q2 => hall i (by omega) q2) r hr), fun hn => yes j h1 (by omega) hb c e (x fun hall => hn fun i q1 q2 => ?_)⟩
    rcases Nat.lt_or_ge j i with q | q
    ·exact hall i (by omega) q2
    ·obtain rfl : i = j := by omega
     exact c
   ·exact ⟨fun hall => absurd (hall j (Nat.le_refl _) (by omega)) c, fun _ => no j h1 (by omega) hb c⟩
 exact main (n - j0) j0 rfl (Nat.le_refl _) h0 (fun i h1 h2 => by omega)
theorem Ev.uniq {α : Type} {g : Nat → Option α} {a b : α} (h1 : Ev g a) (h2 : Ev g b) : a = b := by
 obtain ⟨K1, k1⟩ := h1
 obtain ⟨K2, k2⟩ := h2
 exact Option.some.inj ((k1 (K1 + K2) (by omega)).symm.trans (k2 (K1 + K2) (by omega)))
theorem Ev.cast {α : Type} {g : Nat → Option α} {a b : α} (h : Ev g a) (e : a = b) : Ev g b := e ▸ h
theorem succ64 {j : Nat} (h : j < 9223372036854775807) : wrap64 ((j : Int) + 1) = ((j + 1 : Nat) : Int) := by rw [w64 (by omega) (by omega)]; rfl
end Go.Proofs.YthpdpnpojgegiaaGreatDoor.Evs
namespace Go.Proofs.YthpdpnpojgegiaaGreatDoor.It
open Go.RowKit Go.Proofs.YthpdpnpojgegiaaGreatDoor.P Go.Proofs.YthpdpnpojgegiaaGreatDoor.Evs Go.Proofs.YthpdpnpojgegiaaGreatDoorW.PrintWords Go.Proofs.YthpdpnpojgegiaaGreatDoorW.PrintLast

/-! ### attributes -/
theorem szAttr_tells (n v : ByteArray) (left : Int) (hn : n.size ≤ maxLen) (hv : v.size ≤ maxLen) (h0 : 0 ≤ left) (h1 : left ≤ 1048576) :
  ∃ t, laws_szAttr.f n v left = some t ∧ -1 ≤ t ∧ t ≤ left ∧ (0 ≤ t → n.size ≤ 1048576 ∧ v.size ≤ 1048576) := by
 unfold maxLen at hn hv
 unfold laws_szAttr.f
 rw [w64 (i := left - (n.size : Int)) (by omega) (by omega)]
 by_cases c : left - (n.size : Int) < 0
 ·rw [if_pos c]; exact ⟨-1, rfl, by omega, by omega, by omega⟩
 ·rw [if_neg c, w64 (i := left - (n.size : Int) - (v.size : Int)) (by omega) (by omega)]
  by_cases c2 : left - (n.size : Int) - (v.size : Int) < 0
  ·rw [if_pos c2]; exact ⟨-1, rfl, by omega, by omega, by omega⟩
  ·rw [if_neg c2]; exact ⟨_, rfl, by omega, by omega, by omega⟩

theorem szAttrS_loop (xs : List S58) (m : Nat) (hlen : xs.length ≤ 1048576) (hx : ∀ y ∈ xs, G58 maxLen m y) : ∀ (d i : Nat) (left : Int), xs.length - i = d → i ≤ xs.length → 0 ≤ left → left ≤ 1048576 →
  ∃ t, Ev (fun k => laws_szAttrS.l0 k xs left i) t ∧ -1 ≤ t ∧ t ≤ left ∧ (0 ≤ t → ∀ j, i ≤ j → ∀ h : j < xs.length, G58 1048576 m xs[j]) := by
 intro d
 induction d with
 | zero =>
  intro i left hd hi h0 h1
  refine ⟨left, Ev.here fun k => ?_, by omega, by omega, fun _ j hj hjl => by omega⟩
  simp only [laws_szAttrS.l0]; rw [if_neg (by omega)]
 | succ d ih =>
  intro i left hd hi h0 h1
  have hil : i < xs.length := by omega
  obtain ⟨hn, hv⟩ := hx xs[i] (List.getElem_mem hil)
  obtain ⟨t, e, t0, t1, tq⟩ := szAttr_tells xs[i].f0 xs[i].f1 left hn hv h0 h1
  have hrd : rd_T58 xs (i : Int) = xs[i] := rdT xs _ i hil
  by_cases c : t < 0
  ·refine ⟨-1, Ev.here fun k => ?_, by omega, by omega, by omega⟩
   simp only [laws_szAttrS.l0]; rw [if_pos (by omega), if_pos (by omega), hrd, e]; simp only [Option.bind_some]; rw [if_pos c]
  ·obtain ⟨u, ev, u0, u1, uq⟩ := ih (i + 1) t (by omega) (by omega) (by omega) (by omega)
   refine ⟨u, Ev.step (f := fun k => laws_szAttrS.l0 k xs t ((i + 1 : Nat) : Int)) (fun k => ?_) ev, by omega, by omega, fun hu j hj hjl => ?_⟩
   ·simp only [laws_szAttrS.l0]; rw [if_pos (by omega), if_pos (by omega), hrd, e]; simp only [Option.bind_some]; rw [if_neg c, w64 (i := (i : Int) + 1) (by omega) (by omega)]; rfl
   ·rcases Nat.lt_or_ge i j with hij | hij
    ·exact uq hu j hij hjl
    ·obtain rfl : i = j := by omega
     exact tq (by omega)

theorem szAttrS_tells (xs : List S58) (m : Nat) (left : Int) (hlen : xs.length ≤ maxLen) (hx : ∀ y ∈ xs, G58 maxLen m y) (h0 : 0 ≤ left) (h1 : left ≤ 1048576) :
  ∃ t, Ev (fun k => laws_szAttrS.f k xs left) t ∧ -1 ≤ t ∧ t ≤ left ∧ (0 ≤ t → xs.length ≤ 1048576 ∧ ∀ y ∈ xs, G58 1048576 m y) := by
 unfold maxLen at hlen
 unfold laws_szAttrS.f
 rw [w64 (i := left - (xs.length : Int)) (by omega) (by omega)]
 by_cases c : left - (xs.length : Int) < 0
 ·exact ⟨-1, Ev.ite_pos c (Ev.const fun _ => rfl), by omega, by omega, by omega⟩
 ·obtain ⟨t, ev, t0, t1, tq⟩ := szAttrS_loop xs m (by omega) hx xs.length 0 (left - (xs.length : Int)) (by omega) (by omega) (by omega) (by omega)
  refine ⟨t, Ev.ite_neg c ev, by omega, by omega, fun ht => ⟨by omega, fun y hy => ?_⟩⟩
  obtain ⟨i, hi, rfl⟩ := List.getElem_of_mem hy
  exact tq ht i (by omega) hi

/-- A copied attribute. -/
def toA (x : S58) : S62 := ⟨x.f0, x.f1⟩
theorem toAttrS_loop (xs : List S58) (hlen : xs.length ≤ 1048576) : ∀ (d i : Nat) (out : List S62), xs.length - i = d → i ≤ xs.length → out.length = xs.length → (∀ j, j < i → out[j]? = (xs.map toA)[j]?) →
  Ev (fun k => laws_toAttrS.l0 k xs out i) (xs.map toA) := by
 intro d
 induction d with
 | zero =>
  intro i out hd hi ho hj
  have : out = xs.map toA := by
   apply List.ext_getElem?
   intro j
   rcases Nat.lt_or_ge j i with h | h
   ·exact hj j h
   ·rw [List.getElem?_eq_none (by omega), List.getElem?_eq_none (by simp; omega)]
  rw [← this]
  refine Ev.here fun k => ?_
  simp only [laws_toAttrS.l0]; rw [if_neg (by omega)]
 | succ d ih =>
  intro i out hd hi ho hj
  have hil : i < xs.length := by omega
  have hrd : rd_T58 xs (i : Int) = xs[i] := rdT xs _ i hil
  refine Ev.step (f := fun k => laws_toAttrS.l0 k xs (out.set i (toA xs[i])) ((i + 1 : Nat) : Int)) (fun k => ?_) (ih (i + 1) (out.set i (toA xs[i])) (by omega) (by omega) (by simpa using ho) fun j hji => ?_)
  ·simp only [laws_toAttrS.l0]; rw [if_pos (by omega), if_pos (by omega), hrd]; simp only [laws_toAttr.f, Option.bind_some]; rw [if_pos (by omega), w64 (i := (i : Int) + 1) (by omega) (by omega), Int.toNat_natCast]; rfl
  ·rw [List.getElem?_set]
   by_cases e : i = j
   ·subst e; rw [if_pos rfl, if_pos (by omega)]; simp [List.getElem?_eq_getElem hil]
   ·rw [if_neg e]; exact hj j (by omega)
theorem toAttrS_tells (xs : List S58) (hlen : xs.length ≤ 1048576) : Ev (fun k => laws_toAttrS.f k xs) (xs.map toA) := by
 unfold laws_toAttrS.f
 refine Ev.ite_pos (by omega) (Ev.ite_pos (by omega) ?_)
 rw [Int.toNat_natCast]
 exact toAttrS_loop xs hlen xs.length 0 _ (by omega) (by omega) (by simp) (fun j hj => by omega)

theorem eqAttrS_loop (xs : List S62) (hlen : xs.length ≤ 4611686018427387904) : ∀ (d i : Nat), xs.length - i = d → i ≤ xs.length → Ev (fun k => laws_eqAttrS.l0 k xs xs i) true := by
 intro d
 induction d with
 | zero =>
  intro i hd hi
  refine Ev.here fun k => ?_
  simp only [laws_eqAttrS.l0]; rw [if_neg (by omega)]
 | succ d ih =>
  intro i hd hi
  refine Ev.step (f := fun k => laws_eqAttrS.l0 k xs xs ((i + 1 : Nat) : Int)) (fun k => ?_) (ih (i + 1) (by omega) (by omega))
  simp only [laws_eqAttrS.l0]; rw [if_pos (by omega), if_pos (by omega), if_pos (by omega)]; simp only [laws_eqAttr.f, if_true, Option.bind_some]; rw [w64 (i := (i : Int) + 1) (by omega) (by omega)]; rfl
theorem eqAttrS_self (xs : List S62) (hlen : xs.length ≤ 4611686018427387904) : Ev (fun k => laws_eqAttrS.f k xs xs) true := by
 unfold laws_eqAttrS.f
 exact Ev.ite_pos rfl (eqAttrS_loop xs hlen xs.length 0 (by omega) (by omega))

end Go.Proofs.YthpdpnpojgegiaaGreatDoor.It
namespace Go.Proofs.YthpdpnpojgegiaaGreatDoor.Le
open Go.RowKit Go.Proofs.YthpdpnpojgegiaaGreatDoor.P Go.Proofs.YthpdpnpojgegiaaGreatDoor.Evs Go.Proofs.YthpdpnpojgegiaaGreatDoor.It Go.Proofs.YthpdpnpojgegiaaGreatDoorW.PrintWords Go.Proofs.YthpdpnpojgegiaaGreatDoorW.PrintLast

/-! ### elements -/
theorem szElS_loop (xs : List S25) (hlen : xs.length ≤ 1048576)
  (hx : ∀ y ∈ xs, ∀ left : Int, 0 ≤ left → left ≤ 1048576 → ∃ t, Ev (fun k => laws_szEl.f k y.f0 y.f1 y.f2 y.f3 y.f4 y.f5 left) t ∧ -1 ≤ t ∧ t ≤ left ∧ (0 ≤ t → G25 1048576 ((left - t).toNat + 1) y)) :
  ∀ (d i : Nat) (left : Int), xs.length - i = d → i ≤ xs.length → 0 ≤ left → left ≤ 1048576 →
  ∃ t, Ev (fun k => laws_szElS.l0 k xs left i) t ∧ -1 ≤ t ∧ t ≤ left ∧ (0 ≤ t → ∀ j, i ≤ j → ∀ h : j < xs.length, G25 1048576 ((left - t).toNat + 1) xs[j]) := by
 intro d
 induction d with
 | zero =>
  intro i left hd hi h0 h1
  refine ⟨left, Ev.here fun k => ?_, by omega, by omega, fun _ j hj hjl => by omega⟩
  simp only [laws_szElS.l0]; rw [if_neg (by omega)]
 | succ d ih =>
  intro i left hd hi h0 h1
  have hil : i < xs.length := by omega
  obtain ⟨t, e, t0, t1, tq⟩ := hx xs[i] (List.getElem_mem hil) left h0 h1
  have hrd : rd_T25 xs (i : Int) = xs[i] := rdT xs _ i hil
  by_cases c : t < 0
  ·refine ⟨-1, Ev.step (f := fun k => (laws_szEl.f k xs[i].f0 xs[i].f1 xs[i].f2 xs[i].f3 xs[i].f4 xs[i].f5 left).bind fun t115 => (if t115 < 0 then (some (-1)) else (laws_szElS.l0 k xs t115 (wrap64 ((i : Int) + 1))))) (fun k => ?_) (Ev.bind e (Ev.ite_pos c (Ev.const fun _ => rfl))), by omega, by omega, by omega⟩
   simp only [laws_szElS.l0]; rw [if_pos (by omega), if_pos (by omega), hrd]
  ·obtain ⟨u, ev, u0, u1, uq⟩ := ih (i + 1) t (by omega) (by omega) (by omega) (by omega)
   refine ⟨u, Ev.step (f := fun k => (laws_szEl.f k xs[i].f0 xs[i].f1 xs[i].f2 xs[i].f3 xs[i].f4 xs[i].f5 left).bind fun t115 => (if t115 < 0 then (some (-1)) else (laws_szElS.l0 k xs t115 (wrap64 ((i : Int) + 1))))) (fun k => ?_) (Ev.bind e (Ev.ite_neg c ?_)), by omega, by omega, fun hu j hj hjl => ?_⟩
   ·simp only [laws_szElS.l0]; rw [if_pos (by omega), if_pos (by omega), hrd]
   ·rw [w64 (i := (i : Int) + 1) (by omega) (by omega)]; exact ev
   ·rcases Nat.lt_or_ge i j with hij | hij
    ·exact G25_mono (by omega) (uq hu j hij hjl)
    ·obtain rfl : i = j := by omega
     exact G25_mono (by omega) (tq (by omega))

theorem szEl_tells : ∀ (m : Nat) (y : S25), G25 maxLen m y → ∀ left : Int, 0 ≤ left → left ≤ 1048576 →
  ∃ t, Ev (fun k => laws_szEl.f k y.f0 y.f1 y.f2 y.f3 y.f4 y.f5 left) t ∧ -1 ≤ t ∧ t ≤ left ∧ (0 ≤ t → G25 1048576 ((left - t).toNat + 1) y) := by
 intro m
 induction m with
 | zero => intro y hy; exact hy.elim
 | succ m ih =>
  intro y hy left h0 h1
  obtain ⟨w0, w1, hs2, ⟨hl3, hg3⟩, hs4, hl5, hg5⟩ := hy
  unfold maxLen at hs2 hs4 hl5
  have e0 : wrap64 (left - (y.f2.size : Int)) = left - (y.f2.size : Int) := w64 (by omega) (by omega)
  by_cases c0 : left - (y.f2.size : Int) < 0
  ·refine ⟨-1, Ev.here fun k => ?_, by omega, by omega, by omega⟩
   simp only [laws_szEl.f]; rw [e0, if_pos c0]
  obtain ⟨t, et, t0, t1, tq⟩ := szAttrS_tells y.f3 m (left - (y.f2.size : Int)) hl3 hg3 (by omega) (by omega)
  have step : ∀ k, laws_szEl.f (k + 1) y.f0 y.f1 y.f2 y.f3 y.f4 y.f5 left = (laws_szAttrS.f k y.f3 (left - (y.f2.size : Int))).bind fun t117 => (if t117 < 0 then (some (-1)) else (if (wrap64 (t117 - (y.f4.size : Int))) < 0 then (some (-1)) else ((laws_szElS.f k y.f5 (wrap64 (t117 - (y.f4.size : Int)))).bind fun t118 => (if t118 < 0 then (some (-1)) else (some t118))))) := by
   intro k; simp only [laws_szEl.f]; rw [e0, if_neg c0]
  by_cases c1 : t < 0
  ·exact ⟨-1, Ev.step step (Ev.bind et (Ev.ite_pos c1 (Ev.const fun _ => rfl))), by omega, by omega, by omega⟩
  have e1 : wrap64 (t - (y.f4.size : Int)) = t - (y.f4.size : Int) := w64 (by omega) (by omega)
  by_cases c2 : t - (y.f4.size : Int) < 0
  ·exact ⟨-1, Ev.step step (Ev.bind et (Ev.ite_neg c1 (Ev.ite_pos (by rw [e1]; exact c2) (Ev.const fun _ => rfl)))), by omega, by omega, by omega⟩
  have e2 : wrap64 (t - (y.f4.size : Int) - (y.f5.length : Int)) = t - (y.f4.size : Int) - (y.f5.length : Int) := w64 (by omega) (by omega)
  by_cases c3 : t - (y.f4.size : Int) - (y.f5.length : Int) < 0
  ·refine ⟨-1, Ev.step step (Ev.bind et (Ev.ite_neg c1 (Ev.ite_neg (by rw [e1]; exact c2) (Ev.bind (a := -1) (Ev.here fun k => ?_) (Ev.ite_pos (by omega) (Ev.const fun _ => rfl)))))), by omega, by omega, by omega⟩
   rw [e1]; simp only [laws_szElS.f]; rw [e2, if_pos c3]
  obtain ⟨u, eu, u0, u1, uq⟩ := szElS_loop y.f5 (by omega) (fun z hz l hl0 hl1 => ih z (hg5 z hz) l hl0 hl1) y.f5.length 0 (t - (y.f4.size : Int) - (y.f5.length : Int)) (by omega) (by omega) (by omega) (by omega)
  have eu' : Ev (fun k => laws_szElS.f k y.f5 (wrap64 (t - (y.f4.size : Int)))) u := by
   refine Ev.step (f := fun k => laws_szElS.l0 k y.f5 (t - (y.f4.size : Int) - (y.f5.length : Int)) 0) (fun k => ?_) eu
   rw [e1]; simp only [laws_szElS.f]; rw [e2, if_neg c3]
  by_cases c4 : u < 0
  ·exact ⟨-1, Ev.step step (Ev.bind et (Ev.ite_neg c1 (Ev.ite_neg (by rw [e1]; exact c2) (Ev.bind eu' (Ev.ite_pos c4 (Ev.const fun _ => rfl)))))), by omega, by omega, by omega⟩
  ·refine ⟨u, Ev.step step (Ev.bind et (Ev.ite_neg c1 (Ev.ite_neg (by rw [e1]; exact c2) (Ev.bind eu' (Ev.ite_neg c4 (Ev.const fun _ => rfl)))))), by omega, by omega, fun hu => ?_⟩
   obtain ⟨q3, g3⟩ := tq (by omega)
   refine ⟨w0, w1, by omega, ⟨q3, g3⟩, by omega, by omega, fun z hz => ?_⟩
   obtain ⟨i, hi, rfl⟩ := List.getElem_of_mem hz
   exact G25_mono (by omega) (uq hu i (by omega) hi)

/-! ### copying -/
theorem toElS_loop (b m : Nat) (xs : List S25) (hlen : xs.length ≤ 1048576)
  (hx : ∀ y ∈ xs, ∃ z : S31, Ev (fun k => laws_toEl.f k y.f0 y.f1 y.f2 y.f3 y.f4 y.f5) (z.f0, z.f1, z.f2, z.f3, z.f4, z.f5) ∧ G31 b m z) :
  ∀ (d i : Nat) (out : List S31), xs.length - i = d → i ≤ xs.length → out.length = xs.length → (∀ j, j < i → ∀ h : j < out.length, G31 b m out[j]) →
  ∃ r : List S31, Ev (fun k => laws_toElS.l0 k xs out i) r ∧ r.length = xs.length ∧ ∀ y ∈ r, G31 b m y := by
 intro d
 induction d with
 | zero =>
  intro i out hd hi ho hj
  refine ⟨out, Ev.here fun k => ?_, ho, fun y hy => ?_⟩
  ·simp only [laws_toElS.l0]; rw [if_neg (by omega)]
  ·obtain ⟨j, hj', rfl⟩ := List.getElem_of_mem hy
   exact hj j (by omega) hj'
 | succ d ih =>
  intro i out hd hi ho hj
  have hil : i < xs.length := by omega
  obtain ⟨⟨z0, z1, z2, z3, z4, z5⟩, ez, gz⟩ := hx xs[i] (List.getElem_mem hil)
  have hrd : rd_T25 xs (i : Int) = xs[i] := rdT xs _ i hil
  obtain ⟨r, er, hr, gr⟩ := ih (i + 1) (out.set i ⟨z0, z1, z2, z3, z4, z5⟩) (by omega) (by omega) (by simpa using ho) (fun j hji hjl => by
   rw [List.getElem_set]
   by_cases e : i = j
   ·rw [if_pos e]; exact gz
   ·rw [if_neg e]; exact hj j (by omega) (by simpa using hjl))
  refine ⟨r, Ev.step (f := fun k => (laws_toEl.f k xs[i].f0 xs[i].f1 xs[i].f2 xs[i].f3 xs[i].f4 xs[i].f5).bind fun bt160 => (if (i : Int) < (out.length : Int) then (laws_toElS.l0 k xs (out.set ((i : Int) : Int).toNat (⟨bt160.1, bt160.2.1, bt160.2.2.1, bt160.2.2.2.1, bt160.2.2.2.2.1, bt160.2.2.2.2.2⟩ : S31)) (wrap64 ((i : Int) + 1))) else (none))) (fun k => ?_) (Ev.bind ez (Ev.ite_pos (by omega) ?_)), hr, gr⟩
  ·simp only [laws_toElS.l0]; rw [if_pos (by omega), if_pos (by omega), hrd]
  ·rw [w64 (i := (i : Int) + 1) (by omega) (by omega), Int.toNat_natCast, show ((i : Int) + 1) = ((i + 1 : Nat) : Int) from rfl]; exact er

theorem toEl_tells : ∀ (m : Nat) (y : S25), G25 1048576 m y → ∃ z : S31, Ev (fun k => laws_toEl.f k y.f0 y.f1 y.f2 y.f3 y.f4 y.f5) (z.f0, z.f1, z.f2, z.f3, z.f4, z.f5) ∧ G31 1048576 m z := by
 intro m
 induction m with
 | zero => intro y hy; exact hy.elim
 | succ m ih =>
  intro y hy
  obtain ⟨w0, w1, hs2, ⟨hl3, hg3⟩, hs4, hl5, hg5⟩ := hy
  obtain ⟨r, er, hr, gr⟩ := toElS_loop 1048576 m y.f5 hl5 (fun z hz => ih z (hg5 z hz)) y.f5.length 0 (List.replicate y.f5.length z31) (by omega) (by omega) (by simp) (fun j hj => by omega)
  have er' : Ev (fun k => laws_toElS.f k y.f5) r := by
   refine Ev.step (f := fun k => laws_toElS.l0 k y.f5 (List.replicate y.f5.length z31) 0) (fun k => ?_) er
   simp only [laws_toElS.f]; rw [if_pos (by omega), if_pos (by omega), Int.toNat_natCast]
  refine ⟨⟨y.f0, y.f1, y.f2, y.f3.map toA, y.f4, r⟩, Ev.step (f := fun k => (laws_toAttrS.f k y.f3).bind fun t174 => ((laws_toElS.f k y.f5).bind fun t177 => (some (y.f0, y.f1, y.f2, t174, y.f4, t177)))) (fun k => ?_) (Ev.bind (toAttrS_tells y.f3 hl3) (Ev.bind er' (Ev.const fun _ => rfl))), w0, w1, hs2, ⟨by simpa using hl3, fun a ha => ?_⟩, hs4, by show r.length ≤ 1048576; omega, gr⟩
  ·simp only [laws_toEl.f]
  ·obtain ⟨x, hx, rfl⟩ := List.mem_map.1 ha
   exact hg3 x hx

/-! ### comparing with itself -/
theorem eqElS_loop (xs : List S31) (hlen : xs.length ≤ 1048576)
  (hx : ∀ y ∈ xs, Ev (fun k => laws_eqEl.f k y.f0 y.f1 y.f2 y.f3 y.f4 y.f5 y.f0 y.f1 y.f2 y.f3 y.f4 y.f5) true) : ∀ (d i : Nat), xs.length - i = d → i ≤ xs.length → Ev (fun k => laws_eqElS.l0 k xs xs i) true := by
 intro d
 induction d with
 | zero =>
  intro i hd hi
  refine Ev.here fun k => ?_
  simp only [laws_eqElS.l0]; rw [if_neg (by omega)]
 | succ d ih =>
  intro i hd hi
  have hil : i < xs.length := by omega
  have hrd : rd_T31 xs (i : Int) = xs[i] := rdT xs _ i hil
  refine Ev.step (f := fun k => (laws_eqEl.f k xs[i].f0 xs[i].f1 xs[i].f2 xs[i].f3 xs[i].f4 xs[i].f5 xs[i].f0 xs[i].f1 xs[i].f2 xs[i].f3 xs[i].f4 xs[i].f5).bind fun t205 => (if t205 = true then (laws_eqElS.l0 k xs xs (wrap64 ((i : Int) + 1))) else (some false))) (fun k => ?_) (Ev.bind (hx xs[i] (List.getElem_mem hil)) (Ev.ite_pos rfl ?_))
  ·simp only [laws_eqElS.l0]; rw [if_pos (by omega), if_pos (by omega), if_pos (by omega), hrd]
  ·rw [w64 (i := (i : Int) + 1) (by omega) (by omega)]; exact ih (i + 1) (by omega) (by omega)
theorem eqEl_self : ∀ (m : Nat) (y : S31), G31 1048576 m y → Ev (fun k => laws_eqEl.f k y.f0 y.f1 y.f2 y.f3 y.f4 y.f5 y.f0 y.f1 y.f2 y.f3 y.f4 y.f5) true := by
 intro m
 induction m with
 | zero => intro y hy; exact hy.elim
 | succ m ih =>
  intro y hy
  obtain ⟨w0, w1, hs2, ⟨hl3, hg3⟩, hs4, hl5, hg5⟩ := hy
  have h5 : Ev (fun k => laws_eqElS.f k y.f5 y.f5) true := by
   refine Ev.step (f := fun k => laws_eqElS.l0 k y.f5 y.f5 0) (fun k => ?_) (eqElS_loop y.f5 hl5 (fun z hz => ih z (hg5 z hz)) y.f5.length 0 (by omega) (by omega))
   simp only [laws_eqElS.f, if_true]
  refine Ev.step (f := fun k => (laws_eqAttrS.f k y.f3 y.f3).bind fun t208 => (if t208 = true then ((laws_eqElS.f k y.f5 y.f5).bind fun t209 => (if t209 = true then (some true) else (some false))) else (some false))) (fun k => ?_) (Ev.bind (eqAttrS_self y.f3 (by omega)) (Ev.ite_pos rfl (Ev.bind h5 (Ev.ite_pos rfl (Ev.const fun _ => rfl)))))
  simp only [laws_eqEl.f, if_true]

/-! ### lists -/
theorem szElS_tells (m : Nat) (xs : List S25) (left : Int) (hlen : xs.length ≤ maxLen) (hx : ∀ y ∈ xs, G25 maxLen m y) (h0 : 0 ≤ left) (h1 : left ≤ 1048576) :
  ∃ t, Ev (fun k => laws_szElS.f k xs left) t ∧ -1 ≤ t ∧ t ≤ left ∧ (0 ≤ t → xs.length ≤ 1048576 ∧ ∀ y ∈ xs, G25 1048576 ((left - t).toNat + 1) y) := by
 unfold maxLen at hlen
 have e2 : wrap64 (left - (xs.length : Int)) = left - (xs.length : Int) := w64 (by omega) (by omega)
 by_cases c : left - (xs.length : Int) < 0
 ·refine ⟨-1, Ev.here fun k => ?_, by omega, by omega, by omega⟩
  simp only [laws_szElS.f]; rw [e2, if_pos c]
 ·obtain ⟨t, ev, t0, t1, tq⟩ := szElS_loop xs (by omega) (fun z hz l hl0 hl1 => szEl_tells m z (hx z hz) l hl0 hl1) xs.length 0 (left - (xs.length : Int)) (by omega) (by omega) (by omega) (by omega)
  refine ⟨t, Ev.step (f := fun k => laws_szElS.l0 k xs (left - (xs.length : Int)) 0) (fun k => ?_) ev, by omega, by omega, fun ht => ⟨by omega, fun y hy => ?_⟩⟩
  ·simp only [laws_szElS.f]; rw [e2, if_neg c]
  ·obtain ⟨i, hi, rfl⟩ := List.getElem_of_mem hy
   exact G25_mono (by omega) (tq ht i (by omega) hi)
theorem toElS_tells (m : Nat) (xs : List S25) (hlen : xs.length ≤ 1048576) (hx : ∀ y ∈ xs, G25 1048576 m y) : ∃ r : List S31, Ev (fun k => laws_toElS.f k xs) r ∧ r.length = xs.length ∧ ∀ y ∈ r, G31 1048576 m y := by
 obtain ⟨r, er, hr, gr⟩ := toElS_loop 1048576 m xs hlen (fun z hz => toEl_tells m z (hx z hz)) xs.length 0 (List.replicate xs.length z31) (by omega) (by omega) (by simp) (fun j hj => by omega)
 refine ⟨r, Ev.step (f := fun k => laws_toElS.l0 k xs (List.replicate xs.length z31) 0) (fun k => ?_) er, hr, gr⟩
 simp only [laws_toElS.f]; rw [if_pos (by omega), if_pos (by omega), Int.toNat_natCast]
end Go.Proofs.YthpdpnpojgegiaaGreatDoor.Le
namespace Go.Proofs.YthpdpnpojgegiaaGreatDoor.Hs
open Go.RowKit Go.Proofs.YthpdpnpojgegiaaGreatDoor.P Go.Proofs.YthpdpnpojgegiaaGreatDoor.Evs Go.Proofs.YthpdpnpojgegiaaGreatDoorW.PrintWords Go.Proofs.YthpdpnpojgegiaaGreatDoorW.PrintLast

theorem Has_loop (nm : ByteArray) (l : List S62) (hl : l.length ≤ 1048576) : ∀ (d j : Nat), l.length - j = d → j ≤ l.length → Ev (fun k => spec_l4Has.l0 k l nm j) ((l.drop j).any (hasA nm)) := by
 intro d
 induction d with
 | zero =>
  intro j hd hj
  rw [List.drop_eq_nil_of_le (by omega)]
  refine Ev.here fun k => ?_
  simp only [spec_l4Has.l0]; rw [if_neg (by omega)]; rfl
 | succ d ih =>
  intro j hd hj
  have hjl : j < l.length := by omega
  have hrd : rd_T62 l (j : Int) = l[j] := rdT l _ j hjl
  have hw : wrap64 ((j : Int) + 1) = ((j + 1 : Nat) : Int) := by rw [w64 (by omega) (by omega)]; rfl
  rw [List.drop_eq_getElem_cons hjl, List.any_cons]
  have hstep : ∀ k, spec_l4Has.l0 (k + 1) l nm j = if hasA nm l[j] = true then some true else spec_l4Has.l0 k l nm ((j + 1 : Nat) : Int) := fun k => by
   simp only [spec_l4Has.l0, hrd, hw]
   rw [if_pos (by omega), if_pos (by omega)]
   by_cases c : l[j].f0.toList = nm.toList
   ·rw [if_pos c, if_pos (by unfold hasA; rw [c]; simp)]
   ·rw [if_neg c, if_neg (by unfold hasA; simpa using c)]
  by_cases c : hasA nm l[j] = true
  ·rw [c, Bool.true_or]; exact Ev.here fun k => by rw [hstep, if_pos c]
  ·rw [Bool.eq_false_iff.mpr c, Bool.false_or]; exact Ev.step (fun k => by rw [hstep, if_neg c]) (ih (j + 1) (by omega) (by omega))
theorem Has_tells (nm : ByteArray) (l : List S62) (hl : l.length ≤ 1048576) : Ev (fun k => spec_l4Has.f k l nm) (l.any (hasA nm)) := by
 have h := Has_loop nm l hl l.length 0 (by omega) (by omega)
 rw [List.drop_zero] at h
 exact h
end Go.Proofs.YthpdpnpojgegiaaGreatDoor.Hs
namespace Go.Proofs.YthpdpnpojgegiaaGreatDoor.Sg
open Go Go.RowKit Go.Proofs.YthpdpnpojgegiaaGreatDoor.P Go.Proofs.YthpdpnpojgegiaaGreatDoor.Evs Go.Proofs.YthpdpnpojgegiaaGreatDoorW.PrintWords Go.Proofs.YthpdpnpojgegiaaGreatDoorW.PrintLast

/-! ### numbers -/
theorem inRange_eq (a l m : Int) : impl_inRange.f a l m = some (decide (l ≤ a ∧ a ≤ m)) := by
 unfold impl_inRange.f
 by_cases h : a ≥ l
 ·rw [if_pos h]; simp [h]
 ·rw [if_neg h]; simp; omega
theorem l1In_eq (a l m : Int) : spec_l1In.f a l m = some (decide (l ≤ a ∧ a ≤ m)) := inRange_eq a l m
theorem SignOk_same (a : Int) : spec_SignOk.f a = impl_SignOk.f a := rfl
theorem SignOk_tells (a : Int) : impl_SignOk.f a = some (decide ((0 ≤ a ∧ a ≤ 1114111) ∧ ¬ (55296 ≤ a ∧ a ≤ 57343))) := by
 unfold impl_SignOk.f
 rw [inRange_eq, inRange_eq]
 simp only [Option.bind_some]
 by_cases c : 0 ≤ a ∧ a ≤ 1114111
 ·rw [if_pos (decide_eq_true c)]
  by_cases d : 55296 ≤ a ∧ a ≤ 57343
  ·rw [decide_eq_true d, decide_eq_false (by omega)]; rfl
  ·rw [decide_eq_false d, decide_eq_true (by omega)]; rfl
 ·rw [if_neg (by rw [decide_eq_true_iff]; exact c), decide_eq_false (by omega)]
theorem wraps_i64 (n : Int) (h0 : 0 ≤ n) (h1 : n < 2 ^ 63) : IntKind.i64.wrap n = n := by rw [IntKind.wrap_i64]; omega
theorem and63 (x : Int) (h0 : 0 ≤ x) (h1 : x < 9223372036854775808) : bits .and .i64 x 63 = x % 64 := bits_mask .i64 63 (by decide) wraps_i64 6 (by decide) x h0 h1
theorem or128 (y : Int) (h0 : 0 ≤ y) (h1 : y < 64) : bits .or .i64 128 y = 128 + y := bits_join .i64 63 (by decide) wraps_i64 6 128 y (by decide) (by decide) (by decide) h0 h1 (by omega)
theorem or192 (y : Int) (h0 : 0 ≤ y) (h1 : y < 32) : bits .or .i64 192 y = 192 + y := bits_join .i64 63 (by decide) wraps_i64 5 192 y (by decide) (by decide) (by decide) h0 h1 (by omega)
theorem or224 (y : Int) (h0 : 0 ≤ y) (h1 : y < 16) : bits .or .i64 224 y = 224 + y := bits_join .i64 63 (by decide) wraps_i64 4 224 y (by decide) (by decide) (by decide) h0 h1 (by omega)
theorem or240 (y : Int) (h0 : 0 ≤ y) (h1 : y < 8) : bits .or .i64 240 y = 240 + y := bits_join .i64 63 (by decide) wraps_i64 3 240 y (by decide) (by decide) (by decide) h0 h1 (by omega)

/-! ### PutSign -/
theorem follow_eq (n : Int) (by_ : Int) (q : Int) (h0 : 0 ≤ q) (h1 : q < 9223372036854775808) (hb : 0 ≤ IntKind.u64.wrap by_) (hq : shr .i64 n (IntKind.u64.wrap by_) = q) : impl_follow.f n by_ = some (128 + q % 64) := by
 unfold impl_follow.f
 rw [if_pos hb, hq, and63 q h0 h1, or128 _ (by omega) (by omega)]
 congr 1; omega
theorem PutSign_j (n : Int) (h0 : 0 ≤ n) (h1 : n ≤ 1114111) : ∃ t : ByteArray, (∀ k, spec_PutSign.j0 (k + 1) n = some t) ∧ (∀ k, impl_PutSign.j0 (k + 1) n = some t) ∧ 1 ≤ t.size ∧ t.size ≤ 4 := by
 have f0 : impl_follow.f n 0 = some (128 + n % 64) := follow_eq n 0 n h0 (by omega) (by decide) (by show n / 2 ^ min _ _ = n; simp [IntKind.wrap, IntKind.bits, IntKind.signed])
 have f6 : impl_follow.f n 6 = some (128 + n / 64 % 64) := follow_eq n 6 (n / 64) (by omega) (by omega) (by decide) (by rfl)
 have f12 : impl_follow.f n 12 = some (128 + n / 4096 % 64) := follow_eq n 12 (n / 4096) (by omega) (by omega) (by decide) (by rfl)
 have s0 : wrap64 (128 + bits .and .i64 n 63) % 256 = 128 + n % 64 := by rw [and63 n h0 (by omega), w64 (by omega) (by omega)]; omega
 have s6 : wrap64 (128 + bits .and .i64 (n / 64) 63) % 256 = 128 + n / 64 % 64 := by rw [and63 _ (by omega) (by omega), w64 (by omega) (by omega)]; omega
 have s12 : wrap64 (128 + bits .and .i64 (n / 4096) 63) % 256 = 128 + n / 4096 % 64 := by rw [and63 _ (by omega) (by omega), w64 (by omega) (by omega)]; omega
 simp only [spec_PutSign.j0, impl_PutSign.j0, f0, f6, f12, s0, s6, s12, Option.bind_some]
 by_cases c1 : n < 128
 ·refine ⟨_, fun k => if_pos c1, fun k => if_pos c1, ?_⟩; rw [strOfNums_size]; exact ⟨by simp, by simp⟩
 simp only [if_neg c1]
 by_cases c2 : n < 2048
 ·refine ⟨_, fun k => if_pos c2, fun k => ?_, ?_⟩
  ·rw [if_pos c2, or192 _ (by omega) (by omega), w64 (by omega) (by omega)]
  ·rw [strOfNums_size]; exact ⟨by simp, by simp⟩
 simp only [if_neg c2]
 by_cases c3 : n < 65536
 ·refine ⟨_, fun k => if_pos c3, fun k => ?_, ?_⟩
  ·rw [if_pos c3, or224 _ (by omega) (by omega), w64 (by omega) (by omega)]
  ·rw [strOfNums_size]; exact ⟨by simp, by simp⟩
 simp only [if_neg c3]
 refine ⟨_, fun k => rfl, fun k => ?_, ?_⟩
 ·rw [or240 _ (by omega) (by omega), w64 (by omega) (by omega)]
 ·rw [strOfNums_size]; exact ⟨by simp, by simp⟩
theorem PutSign_same (n : Int) : ∃ t : ByteArray, Ev (fun k => spec_PutSign.f k n) t ∧ Ev (fun k => impl_PutSign.f k n) t ∧ 1 ≤ t.size ∧ t.size ≤ 4 := by
 unfold spec_PutSign.f impl_PutSign.f
 rw [SignOk_same, SignOk_tells]
 by_cases c : (0 ≤ n ∧ n ≤ 1114111) ∧ ¬ (55296 ≤ n ∧ n ≤ 57343)
 ·obtain ⟨t, h1, h2, h3, h4⟩ := PutSign_j n c.1.1 c.1.2
  exact ⟨t, Ev.opt rfl (Ev.ite_pos (decide_eq_true c) (Ev.here h1)), Ev.opt rfl (Ev.ite_pos (decide_eq_true c) (Ev.here h2)), h3, h4⟩
 ·obtain ⟨t, h1, h2, h3, h4⟩ := PutSign_j 65533 (by decide) (by decide)
  exact ⟨t, Ev.opt rfl (Ev.ite_neg (by rw [decide_eq_true_iff]; exact c) (Ev.here h1)), Ev.opt rfl (Ev.ite_neg (by rw [decide_eq_true_iff]; exact c) (Ev.here h2)), h3, h4⟩

/-! ### GetSign -/
theorem or64 (x y : Int) (hx : 0 ≤ x) (hx1 : x < 1125899906842624) (h0 : 0 ≤ y) (h1 : y < 64) : bits .or .i64 (wrap64 (x * 64)) y = wrap64 (wrap64 (x * 64) + y) := by
 rw [w64 (i := x * 64) (by omega) (by omega), w64 (by omega) (by omega)]
 exact bits_join .i64 63 (by decide) wraps_i64 6 (x * 64) y (by omega) (by omega) (by omega) h0 h1 (by omega)
def lo (b : Int) : Int := if b = 224 then 160 else if b = 240 then 144 else 128
def hi (b : Int) : Int := if b = 237 then 159 else if b = 244 then 143 else 191
theorem Second_tells (b c : Int) : spec_l1Second.f b c = some (decide (lo b ≤ c ∧ c ≤ hi b)) := by
 unfold spec_l1Second.f lo hi
 simp only [l1In_eq, Option.bind_some]
 by_cases h1 : b = 224
 ·subst h1; rfl
 by_cases h2 : b = 237
 ·subst h2; rfl
 by_cases h3 : b = 240
 ·subst h3; rfl
 by_cases h4 : b = 244
 ·subst h4; rfl
 simp only [if_neg h1, if_neg h2, if_neg h3, if_neg h4]
def begins (b : Nat) : Prop :=
 (impl_beginning.f 1 (b : Int) = some (0, (b : Int), 0, 0) ∧ spec_l1Many.f (b : Int) = some 1) ∨ (impl_beginning.f 1 (b : Int) = some (-1, 0, 0, 0) ∧ spec_l1Many.f (b : Int) = some 0) ∨
 (∃ more : Nat, more < 4 ∧ 1 ≤ more ∧ spec_l1Many.f (b : Int) = some ((more : Int) + 1) ∧ impl_beginning.f 1 (b : Int) = some ((more : Int), bits .and .i64 (b : Int) (shr .i64 127 ((more : Int) + 1)), lo b, hi b) ∧ 0 ≤ bits .and .i64 (b : Int) (shr .i64 127 ((more : Int) + 1)) ∧ bits .and .i64 (b : Int) (shr .i64 127 ((more : Int) + 1)) < 64)
instance (b : Nat) : Decidable (begins b) := by unfold begins; infer_instance
theorem begins_all : ∀ b, b < 256 → begins b := by decide +kernel
theorem beginning_k (k : Nat) (b : Int) : impl_beginning.f (k + 1) b = impl_beginning.f 1 b := rfl
theorem pow_bound : ∀ i : Nat, i ≤ 4 → (64 : Int) ^ i ≤ 16777216 := by decide
set_option maxHeartbeats 1000000 in
theorem GetSign_loop (s : ByteArray) (at_ more : Nat) (a : Int) (hs : s.size ≤ 1048576) (hm : more ≤ 3) (hat : at_ < s.size) :
  ∀ (d i : Nat) (n low high : Int), more + 1 - i = d → 1 ≤ i → i ≤ more + 1 → at_ + i ≤ s.size → 0 ≤ n → n < 64 ^ i →
  (i = 1 → low = lo a ∧ high = hi a) → (2 ≤ i → low = 128 ∧ high = 191) →
  ∃ (r : Int) (m : Nat), Ev (fun k => spec_GetSign.l0 k s at_ a (more + 1) n i) (r, (m : Int)) ∧ Ev (fun k => impl_getSign.l0 k s at_ more n low high i) (r, (m : Int)) ∧ 1 ≤ m ∧ at_ + m ≤ s.size ∧ 0 ≤ r := by
 intro d
 induction d with
 | zero =>
  intro i n low high hd h1 h2 h3 h4 h5 h6 h7
  refine ⟨n, more + 1, Ev.here fun k => ?_, Ev.here fun k => ?_, by omega, by omega, h4⟩
  ·simp only [spec_GetSign.l0]; rw [if_neg (by omega)]; rfl
  ·simp only [impl_getSign.l0]; rw [if_neg (by omega), w64 (by omega) (by omega)]; rfl
 | succ d ih =>
  intro i n low high hd h1 h2 h3 h4 h5 h6 h7
  have hw : wrap64 ((at_ : Int) + (i : Int)) = ((at_ + i : Nat) : Int) := by rw [w64 (by omega) (by omega)]; rfl
  have hw1 : wrap64 ((i : Int) + 1) = ((i + 1 : Nat) : Int) := by rw [w64 (by omega) (by omega)]; rfl
  by_cases c : at_ + i ≥ s.size
  ·refine ⟨65533, i, Ev.here fun k => ?_, Ev.here fun k => ?_, h1, h3, by decide⟩
   ·simp only [spec_GetSign.l0, hw]; rw [if_pos (by omega), if_pos (by omega)]
   ·simp only [impl_getSign.l0, hw]; rw [if_pos (by omega), if_pos (by omega)]
  have hA : ¬ ((at_ + i : Nat) : Int) ≥ (s.size : Int) := by clear ih h5; omega
  have hB : (0 : Int) ≤ ((at_ + i : Nat) : Int) := Int.natCast_nonneg _
  have hC : ((at_ + i : Nat) : Int) < (s.size : Int) := by clear ih h5; omega
  have hD : (i : Int) < (more : Int) + 1 := by clear ih h5; omega
  obtain ⟨b0, b1⟩ := bt_range s ((at_ + i : Nat) : Int)
  generalize hbb : bt s ((at_ + i : Nat) : Int) = b at b0 b1
  have hwb : wrap64 b = b := w64 (by omega) (by omega)
  have hor : bits .or .i64 (wrap64 (n * 64)) (wrap64 (bits .and .u8 b 63)) = wrap64 (wrap64 (n * 64) + bits .and .i64 b 63) := by
   have hp := pow_bound i (by omega)
   rw [u8_and63 b b0 (by omega), and63 b b0 (by omega), w64 (i := b % 64) (by omega) (by omega), or64 n (b % 64) h4 (by omega) (by omega) (by omega)]
  have hn' : 0 ≤ wrap64 (wrap64 (n * 64) + bits .and .i64 b 63) ∧ wrap64 (wrap64 (n * 64) + bits .and .i64 b 63) < 64 ^ (i + 1) := by
   have hp := pow_bound i (by omega)
   rw [and63 b b0 (by omega), w64 (i := n * 64) (by omega) (by omega), w64 (by omega) (by omega), Int.pow_succ]
   generalize (64 : Int) ^ i = P at *
   omega
  obtain ⟨r, m, er1, er2, hm1, hm2, hm3⟩ := ih (i + 1) (wrap64 (wrap64 (n * 64) + bits .and .i64 b 63)) 128 191 (by omega) (by omega) (by omega) (by omega) hn'.1 hn'.2 (by omega) (fun _ => ⟨rfl, rfl⟩)
  have himpl : ∀ k, impl_getSign.l0 (k + 1) s at_ more n low high i = if b < low then some (65533, (i : Int)) else if b > high then some (65533, (i : Int)) else impl_getSign.l0 k s at_ more (wrap64 (wrap64 (n * 64) + bits .and .i64 b 63)) 128 191 ((i + 1 : Nat) : Int) := by
   intro k
   simp only [impl_getSign.l0, hw, hw1, hbb, hor]
   rw [if_pos (show (i : Int) ≤ (more : Int) from Int.lt_add_one_iff.mp hD), if_neg hA, if_pos hB, if_pos hC]
  have hrange : 128 ≤ low ∧ high ≤ 191 := by
   rcases Nat.lt_or_ge 1 i with hi | hi
   ·have := h7 hi; omega
   ·have := h6 (by omega); unfold lo Sg.hi at this; repeat' split at this
    all_goals omega
  have hspec : ∀ k, spec_GetSign.l0 (k + 1) s at_ a (more + 1) n i = if low ≤ b ∧ b ≤ high then spec_GetSign.l0 k s at_ a (more + 1) (wrap64 (wrap64 (n * 64) + bits .and .i64 b 63)) ((i + 1 : Nat) : Int) else some (65533, (i : Int)) := by
   intro k
   by_cases hi1 : i = 1
   ·obtain ⟨hl, hh⟩ := h6 hi1
    subst hi1
    have hw2 : wrap64 ((at_ : Int) + 1) = ((at_ + 1 : Nat) : Int) := hw
    have hw3 : wrap64 ((1 : Int) + 1) = ((1 + 1 : Nat) : Int) := hw1
    have e1 : ((1 : Nat) : Int) = 1 := rfl
    rw [e1]
    simp only [spec_GetSign.l0, hw2, hw3, hbb, hwb, Second_tells, l1In_eq, Option.bind_some]
    rw [if_pos (show (1 : Int) < (more : Int) + 1 from hD), if_neg hA, if_pos True.intro, if_pos hB, if_pos hC, ← hl, ← hh]
    by_cases cc : low ≤ b ∧ b ≤ high
    ·rw [if_pos (decide_eq_true cc), if_pos cc, if_pos hB, if_pos hC, if_pos (decide_eq_true (show 128 ≤ b ∧ b ≤ 191 from ⟨Int.le_trans hrange.1 cc.1, Int.le_trans cc.2 hrange.2⟩))]
    ·rw [if_neg (by rw [decide_eq_true_iff]; exact cc), if_neg cc]
   ·obtain ⟨hl, hh⟩ := h7 (by omega)
    subst hl; subst hh
    simp only [spec_GetSign.l0, hw, hw1, hbb, hwb, l1In_eq, Option.bind_some]
    rw [if_pos hD, if_neg hA, if_neg (show ¬ (i : Int) = 1 by clear ih h5 hn' er1 er2 himpl; omega), if_pos hB, if_pos hC]
    by_cases cc : 128 ≤ b ∧ b ≤ 191
    ·rw [if_pos (decide_eq_true cc), if_pos cc]
    ·rw [if_neg (by rw [decide_eq_true_iff]; exact cc), if_neg cc]
  by_cases cc : low ≤ b ∧ b ≤ high
  ·refine ⟨r, m, Ev.step (f := fun k => spec_GetSign.l0 k s at_ a (more + 1) (wrap64 (wrap64 (n * 64) + bits .and .i64 b 63)) ((i + 1 : Nat) : Int)) (fun k => ?_) er1, Ev.step (f := fun k => impl_getSign.l0 k s at_ more (wrap64 (wrap64 (n * 64) + bits .and .i64 b 63)) 128 191 ((i + 1 : Nat) : Int)) (fun k => ?_) er2, hm1, hm2, hm3⟩
   ·rw [hspec, if_pos cc]
   ·rw [himpl, if_neg (by omega), if_neg (by omega)]
  ·refine ⟨65533, i, Ev.here fun k => ?_, Ev.here fun k => ?_, h1, h3, by decide⟩
   ·rw [hspec, if_neg cc]
   ·rw [himpl]
    by_cases c1 : b < low
    ·rw [if_pos c1]
    ·rw [if_neg c1, if_pos (by omega)]
theorem GetSign_same (s : ByteArray) (at_ : Nat) (hs : s.size ≤ 1048576) (hat : at_ < s.size) :
  ∃ (r : Int) (m : Nat), Ev (fun k => spec_GetSign.f k s at_) (r, (m : Int)) ∧ Ev (fun k => impl_getSign.f k s at_) (r, (m : Int)) ∧ 1 ≤ m ∧ at_ + m ≤ s.size ∧ 0 ≤ r := by
 obtain ⟨b0, b1⟩ := bt_range s (at_ : Int)
 generalize hbb : bt s (at_ : Int) = b at b0 b1
 obtain ⟨bn, rfl⟩ := Int.eq_ofNat_of_zero_le b0
 have hwb : wrap64 (bn : Int) = bn := w64 (by omega) (by omega)
 have hi : ∀ k, impl_getSign.f (k + 1) s at_ = (impl_beginning.f 1 (bn : Int)).bind fun z => if z.1 < 0 then some (65533, 1) else impl_getSign.l0 (k + 1) s at_ z.1 z.2.1 z.2.2.1 z.2.2.2 1 := by
  intro k
  unfold impl_getSign.f
  rw [if_pos (by omega), if_pos (by omega), hbb, beginning_k]
 have hsp : ∀ k, spec_GetSign.f (k + 1) s at_ = (spec_l1Many.f (bn : Int)).bind fun t => if t < 2 then (if t = 1 then some ((bn : Int), 1) else some (65533, 1)) else if 0 ≤ t then spec_GetSign.l0 k s at_ bn t (bits .and .i64 bn (shr .i64 127 t)) 1 else none := by
  intro k
  unfold spec_GetSign.f
  rw [if_neg (by omega), decide_eq_false (by omega)]
  simp only [spec_GetSign.j0, hbb, hwb]
  rw [if_neg (by decide), if_pos (by omega), if_pos (by omega)]
 rcases begins_all bn (by omega) with ⟨e1, e2⟩ | ⟨e1, e2⟩ | ⟨more, hm1, hm2, e2, e1, hn0, hn1⟩
 ·refine ⟨bn, 1, Ev.here fun k => ?_, Ev.step hi ?_, by omega, by omega, by omega⟩
  ·rw [hsp, e2]; rfl
  ·rw [e1]
   refine Ev.here fun k => ?_
   simp only [Option.bind_some]
   rw [if_neg (by decide)]
   simp only [impl_getSign.l0]
   rw [if_neg (by decide), w64 (by omega) (by omega)]; rfl
 ·refine ⟨65533, 1, Ev.here fun k => ?_, Ev.here fun k => ?_, by omega, by omega, by decide⟩
  ·rw [hsp, e2]; rfl
  ·rw [hi, e1]; rfl
 ·obtain ⟨r, m, er1, er2, h3, h4, h5⟩ := GetSign_loop s at_ more bn hs (by omega) hat more 1 (bits .and .i64 (bn : Int) (shr .i64 127 ((more : Int) + 1))) (lo bn) (Sg.hi bn) (by omega) (by omega) (by omega) (by omega) hn0 (by omega) (fun _ => ⟨rfl, rfl⟩) (by omega)
  refine ⟨r, m, Ev.step (f := fun k => spec_GetSign.l0 k s at_ bn (more + 1) (bits .and .i64 (bn : Int) (shr .i64 127 ((more : Int) + 1))) 1) (fun k => ?_) er1, ?_, h3, h4, h5⟩
  ·rw [hsp, e2]
   simp only [Option.bind_some]
   rw [if_neg (by omega), if_pos (by omega)]
  ·obtain ⟨K, hK⟩ := er2
   refine ⟨K + 1, fun k hk => ?_⟩
   obtain ⟨k, rfl⟩ : ∃ q, k = q + 1 := ⟨k - 1, by omega⟩
   show impl_getSign.f (k + 1) s at_ = _
   rw [hi, e1]
   simp only [Option.bind_some]
   rw [if_neg (by omega)]
   exact hK (k + 1) (by omega)
end Go.Proofs.YthpdpnpojgegiaaGreatDoor.Sg
namespace Go.Proofs.YthpdpnpojgegiaaGreatDoor.Sg
open Go Go.RowKit Go.Proofs.YthpdpnpojgegiaaGreatDoor.P Go.Proofs.YthpdpnpojgegiaaGreatDoor.Evs Go.Proofs.YthpdpnpojgegiaaGreatDoorW.PrintWords Go.Proofs.YthpdpnpojgegiaaGreatDoorW.PrintLast

theorem Signs_loop (s : ByteArray) (hs : s.size ≤ 1048576) : ∀ (d at_ : Nat) (acc : List Int), s.size - at_ ≤ d → at_ ≤ s.size → acc.length ≤ at_ →
  ∃ l, Ev (fun k => spec_Signs.l0 k s acc at_) l ∧ Ev (fun k => impl_Signs.l0 k s acc at_) l ∧ l.length ≤ s.size ∧ acc.length ≤ l.length ∧ (at_ < s.size → acc.length < l.length) := by
 intro d
 induction d with
 | zero =>
  intro at_ acc hd hat hacc
  refine ⟨acc, Ev.here fun k => ?_, Ev.here fun k => ?_, by omega, by omega, by omega⟩
  ·simp only [spec_Signs.l0]; rw [if_neg (by omega)]
  ·simp only [impl_Signs.l0]; rw [if_neg (by omega)]
 | succ d ih =>
  intro at_ acc hd hat hacc
  by_cases c : at_ < s.size
  ·obtain ⟨r, m, e1, e2, h1, h2, _⟩ := GetSign_same s at_ hs c
   obtain ⟨l, el1, el2, hl, hl2, _⟩ := ih (at_ + m) (acc ++ [r]) (by omega) h2 (by simp; omega)
   rw [List.length_append, List.length_singleton] at hl2
   have hw : wrap64 ((at_ : Int) + (m : Int)) = ((at_ + m : Nat) : Int) := by rw [w64 (by omega) (by omega)]; rfl
   have hacc2 : acc.length < 17592186044416 := by omega
   refine ⟨l, ?_, ?_, hl, by omega, fun _ => by omega⟩
   ·refine Ev.step (fun k => by simp only [spec_Signs.l0]; rw [if_pos (by omega)]) ?_
    refine Ev.bind e1 (Ev.ite_pos hacc2 ?_)
    simp only [hw]; exact el1
   ·refine Ev.step (fun k => by simp only [impl_Signs.l0]; rw [if_pos (by omega)]) ?_
    refine Ev.bind e2 (Ev.ite_pos hacc2 ?_)
    simp only [hw]; exact el2
  ·refine ⟨acc, Ev.here fun k => ?_, Ev.here fun k => ?_, by omega, by omega, by omega⟩
   ·simp only [spec_Signs.l0]; rw [if_neg (by omega)]
   ·simp only [impl_Signs.l0]; rw [if_neg (by omega)]
theorem Signs_same (s : ByteArray) (hs : s.size ≤ 1048576) : ∃ l, Ev (fun k => spec_Signs.f k s) l ∧ Ev (fun k => impl_Signs.f k s) l ∧ l.length ≤ s.size := by
 unfold spec_Signs.f impl_Signs.f
 obtain ⟨l, h1, h2, h3, _, _⟩ := Signs_loop s hs s.size 0 [] (by omega) (by omega) (by simp)
 exact ⟨l, h1, h2, h3⟩
theorem Signs_some (s : ByteArray) (hs : s.size ≤ 1048576) (h0 : 0 < s.size) : ∃ l, Ev (fun k => spec_Signs.f k s) l ∧ Ev (fun k => impl_Signs.f k s) l ∧ l.length ≤ s.size ∧ 0 < l.length := by
 unfold spec_Signs.f impl_Signs.f
 obtain ⟨l, h1, h2, h3, _, h5⟩ := Signs_loop s hs s.size 0 [] (by omega) (by omega) (by simp)
 exact ⟨l, h1, h2, h3, h5 h0⟩

/-! ### a text of signs -/
theorem nums_bytes (t : ByteArray) : strOfNums (bytesOf t) = t := by
 unfold strOfNums bytesOf
 rw [List.map_map, show ((fun n : Int => UInt8.ofNat n.toNat) ∘ fun b : UInt8 => (b.toNat : Int)) = id from funext fun b => by simp, List.map_id]
theorem nums_append (a b : List Int) : strOfNums (a ++ b) = strOfNums a ++ strOfNums b := by
 apply ByteArray.ext
 simp [strOfNums, ByteArray.data_append]
theorem rdI (xs : List Int) (i : Nat) (h : i < xs.length) : rd xs (i : Int) = xs[i] := rdT xs 0 i h
theorem SignText_loop (l : List Int) (hl : l.length ≤ 1048576) : ∀ (d j : Nat) (acc : List Int), l.length - j = d → j ≤ l.length → acc.length ≤ 4 * j →
  ∃ t : ByteArray, Ev (fun k => spec_SignText.l0 k l acc j) t ∧ Ev (fun k => impl_SignText.l0 k l (strOfNums acc) j) t ∧ t.size ≤ 4 * l.length := by
 intro d
 induction d with
 | zero =>
  intro j acc hd hj hacc
  refine ⟨strOfNums acc, Ev.here fun k => ?_, Ev.here fun k => ?_, by rw [strOfNums_size]; omega⟩
  ·simp only [spec_SignText.l0]; rw [if_neg (by omega)]
  ·simp only [impl_SignText.l0]; rw [if_neg (by omega)]
 | succ d ih =>
  intro j acc hd hj hacc
  have hjl : j < l.length := by omega
  obtain ⟨t, e1, e2, h1, h2⟩ := PutSign_same l[j]
  have hbl : (bytesOf t).length = t.size := bytesOf_length t
  obtain ⟨u, eu1, eu2, hu⟩ := ih (j + 1) (acc ++ bytesOf t) (by omega) (by omega) (by rw [List.length_append, hbl]; omega)
  have hw : wrap64 ((j : Int) + 1) = ((j + 1 : Nat) : Int) := by rw [w64 (by omega) (by omega)]; rfl
  refine ⟨u, ?_, ?_, hu⟩
  ·refine Ev.step (fun k => by simp only [spec_SignText.l0]; rw [if_pos (by omega), if_pos (by omega), rdI l j hjl]) ?_
   refine Ev.bind e1 (Ev.ite_pos (by omega) ?_)
   simp only [hw]; exact eu1
  ·refine Ev.step (fun k => by simp only [impl_SignText.l0]; rw [if_pos (by omega), if_pos (by omega), rdI l j hjl]) ?_
   refine Ev.bind e2 (Ev.ite_pos (by rw [strOfNums_size]; omega) ?_)
   simp only [hw, show strOfNums acc ++ t = strOfNums (acc ++ bytesOf t) by rw [nums_append, nums_bytes]]; exact eu2
theorem SignText_same (l : List Int) (hl : l.length ≤ 1048576) : ∃ t : ByteArray, Ev (fun k => spec_SignText.f k l) t ∧ Ev (fun k => impl_SignText.f k l) t ∧ t.size ≤ 4 * l.length := by
 unfold spec_SignText.f impl_SignText.f
 exact SignText_loop l hl l.length 0 [] (by omega) (by omega) (by simp)
end Go.Proofs.YthpdpnpojgegiaaGreatDoor.Sg
namespace Go.Proofs.YthpdpnpojgegiaaGreatDoor.Sg
open Go Go.RowKit Go.Proofs.YthpdpnpojgegiaaGreatDoor.P Go.Proofs.YthpdpnpojgegiaaGreatDoor.Evs Go.Proofs.YthpdpnpojgegiaaGreatDoorW.PrintWords Go.Proofs.YthpdpnpojgegiaaGreatDoorW.PrintLast

theorem Clean_same (s : ByteArray) (hs : s.size ≤ 1048576) : ∃ t : ByteArray, Ev (fun k => spec_Clean.f k s) t ∧ Ev (fun k => impl_Clean.f k s) t ∧ t.size ≤ 4 * s.size := by
 obtain ⟨l, e1, e2, hl⟩ := Signs_same s hs
 obtain ⟨t, f1, f2, ht⟩ := SignText_same l (by omega)
 exact ⟨t, Ev.bind e1 (Ev.bind f1 (Ev.now t)), Ev.bind e2 (Ev.bind f2 (Ev.now t)), by omega⟩
theorem CleanOk_same (s : ByteArray) (hs : s.size ≤ 1048576) : ∃ b : Bool, Ev (fun k => spec_CleanOk.f k s) b ∧ Ev (fun k => impl_CleanOk.f k s) b := by
 obtain ⟨t, e1, e2, _⟩ := Clean_same s hs
 exact ⟨_, Ev.bind e1 (Ev.now _), Ev.bind e2 (Ev.now _)⟩

end Go.Proofs.YthpdpnpojgegiaaGreatDoor.Sg
namespace Go.Proofs.YthpdpnpojgegiaaGreatDoor.Sg
open Go Go.RowKit Go.Proofs.YthpdpnpojgegiaaGreatDoor.P Go.Proofs.YthpdpnpojgegiaaGreatDoor.Evs Go.Proofs.YthpdpnpojgegiaaGreatDoorW.PrintWords Go.Proofs.YthpdpnpojgegiaaGreatDoorW.PrintLast

theorem IsLetter_same (a : Int) : spec_IsLetter.f a = impl_IsLetter.f a := rfl
theorem IsLetter_tells (a : Int) : ∃ b, impl_IsLetter.f a = some b := by
 unfold impl_IsLetter.f
 rw [inRange_eq, inRange_eq]
 simp only [Option.bind_some]
 split <;> exact ⟨_, rfl⟩
def flI : List (Int × Int) → List Int
 | [] => []
 | p :: ps => p.1 :: p.2 :: flI ps
theorem flI_length : ∀ sp, (flI sp).length = 2 * sp.length
 | [] => rfl
 | p :: ps => by simp only [flI, List.length_cons, flI_length ps]; omega
theorem flI_get : ∀ (sp : List (Int × Int)) (j : Nat) (h : j < sp.length), (flI sp)[2 * j]? = some sp[j].1 ∧ (flI sp)[2 * j + 1]? = some sp[j].2
 | [], _, h => absurd h (by simp)
 | _ :: _, 0, _ => ⟨rfl, rfl⟩
 | p :: ps, j + 1, h => by
  have ih := flI_get ps j (by simpa using h)
  rw [show 2 * (j + 1) = 2 * j + 1 + 1 from by omega]
  exact ⟨by simpa [flI] using ih.1, by simpa [flI] using ih.2⟩
theorem rd_some (xs : List Int) (i : Nat) (v : Int) (h : xs[i]? = some v) : rd xs (i : Int) = v := by
 unfold rd
 rw [Int.toNat_natCast, List.getD_eq_getElem?_getD, h]; rfl
theorem Within_loop (sp : List (Int × Int)) (a : Int) (hsp : sp.length ≤ 100) : ∀ (d j : Nat), sp.length - j = d → j ≤ sp.length →
  Ev (fun k => spec_l2Within.l0 k (flI sp) a ((2 * j : Nat) : Int)) (inSp a (sp.drop j)) := by
 intro d
 have hlen := flI_length sp
 induction d with
 | zero =>
  intro j hd hj
  rw [List.drop_eq_nil_of_le (by omega)]
  refine Ev.here fun k => ?_
  simp only [spec_l2Within.l0]
  rw [w64 (by omega) (by omega), if_neg (by omega)]; rfl
 | succ d ih =>
  intro j hd hj
  have hjl : j < sp.length := by omega
  obtain ⟨g1, g2⟩ := flI_get sp j hjl
  have ih' := ih (j + 1) (by omega) (by omega)
  have hw : wrap64 (((2 * j : Nat) : Int) + 1) = ((2 * j + 1 : Nat) : Int) := by rw [w64 (by omega) (by omega)]; rfl
  have hw2 : wrap64 (((2 * j : Nat) : Int) + 2) = ((2 * (j + 1) : Nat) : Int) := by rw [w64 (by omega) (by omega)]; omega
  have hstep : ∀ k, spec_l2Within.l0 (k + 1) (flI sp) a ((2 * j : Nat) : Int) = if sp[j].1 ≤ a ∧ a ≤ sp[j].2 then some true else spec_l2Within.l0 k (flI sp) a ((2 * (j + 1) : Nat) : Int) := by
   intro k
   simp only [spec_l2Within.l0, hw, hw2, rd_some _ _ _ g1, rd_some _ _ _ g2, l1In_eq, Option.bind_some]
   rw [if_pos (by omega), if_pos (by omega), if_pos (by omega), if_pos (by omega)]
   by_cases c : sp[j].1 ≤ a ∧ a ≤ sp[j].2
   ·rw [if_pos (decide_eq_true c), if_pos c]
   ·rw [if_neg (by rw [decide_eq_true_iff]; exact c), if_neg c]
  rw [inSp_drop a sp j hjl]
  by_cases c : sp[j].1 ≤ a ∧ a ≤ sp[j].2
  ·rw [if_pos c]
   exact Ev.here fun k => by rw [hstep, if_pos c]
  ·rw [if_neg c]
   exact Ev.step (fun k => by rw [hstep, if_neg c]) ih'
theorem Within_tells (sp : List (Int × Int)) (a : Int) (hsp : sp.length ≤ 100) : Ev (fun k => spec_l2Within.f k (flI sp) a) (inSp a sp) := by
 unfold spec_l2Within.f
 exact Within_loop sp a hsp sp.length 0 (by omega) (by omega)
theorem IsFirst_same (a : Int) : ∃ b, Ev (fun k => spec_IsFirst.f k a) b ∧ impl_IsFirst.f a = some b := by
 obtain ⟨t, ht⟩ := IsLetter_tells a
 unfold spec_IsFirst.f impl_IsFirst.f
 rw [IsLetter_same, ht]
 cases t with
 | true => exact ⟨true, Ev.opt rfl (Ev.ite_pos rfl (Ev.now _)), rfl⟩
 | false =>
  by_cases c : a = 95
  ·subst c; exact ⟨true, Ev.opt rfl (Ev.ite_neg (by decide) (Ev.ite_pos rfl (Ev.now _))), rfl⟩
  ·refine ⟨inSp a spansFirst, Ev.opt rfl (Ev.ite_neg (by decide) (Ev.ite_neg c (Ev.bind (Within_tells spansFirst a (by decide)) (Ev.now _)))), ?_⟩
   simp only [Option.bind_some]
   rw [if_neg (by decide), if_neg c]
theorem IsNext_same (a : Int) : ∃ b, Ev (fun k => spec_IsNext.f k a) b ∧ impl_IsNext.f a = some b := by
 obtain ⟨t, h1, h2⟩ := IsFirst_same a
 unfold spec_IsNext.f impl_IsNext.f
 rw [h2]
 cases t with
 | true => exact ⟨true, Ev.bind h1 (Ev.ite_pos rfl (Ev.now _)), rfl⟩
 | false =>
  simp only [Option.bind_some]
  rw [if_neg (by decide)]
  by_cases c1 : a = 45
  ·subst c1; exact ⟨_, Ev.bind h1 (Ev.ite_neg (by decide) (Ev.ite_pos rfl (Ev.now _))), rfl⟩
  by_cases c2 : a = 46
  ·subst c2; exact ⟨_, Ev.bind h1 (Ev.ite_neg (by decide) (Ev.ite_neg c1 (Ev.ite_pos rfl (Ev.now _)))), rfl⟩
  by_cases c3 : a = 183
  ·subst c3; exact ⟨_, Ev.bind h1 (Ev.ite_neg (by decide) (Ev.ite_neg c1 (Ev.ite_neg c2 (Ev.ite_pos rfl (Ev.now _))))), rfl⟩
  refine ⟨inSp a [(48, 57), (768, 879), (8255, 8256)], Ev.bind h1 (Ev.ite_neg (by decide) (Ev.ite_neg c1 (Ev.ite_neg c2 (Ev.ite_neg c3 (Ev.bind (Within_tells [(48, 57), (768, 879), (8255, 8256)] a (by decide)) (Ev.now _)))))), ?_⟩
  congr 1
  simp only [spansNext, inSp]
  rw [if_neg (show ¬ ((45 : Int) ≤ a ∧ a ≤ 46) by omega)]
  by_cases c4 : (48 : Int) ≤ a ∧ a ≤ 57
  ·rw [if_pos c4, if_pos c4]
  ·rw [if_neg c4, if_neg c4, if_neg (show ¬ ((183 : Int) ≤ a ∧ a ≤ 183) by omega)]
end Go.Proofs.YthpdpnpojgegiaaGreatDoor.Sg
namespace Go.Proofs.YthpdpnpojgegiaaGreatDoor.Sg
open Go.RowKit Go.Proofs.YthpdpnpojgegiaaGreatDoor Go.Proofs.YthpdpnpojgegiaaGreatDoor.P Go.Proofs.YthpdpnpojgegiaaGreatDoor.Evs Go.Proofs.YthpdpnpojgegiaaGreatDoorW.PrintWords Go.Proofs.YthpdpnpojgegiaaGreatDoorW.PrintLast

theorem NameOk_loop (s : ByteArray) (l : List Int) (hs : s.size ≤ 1048576) (hl : l.length ≤ 1048576) : ∀ (d j : Nat), l.length - j = d → j ≤ l.length →
  ∃ b, Ev (fun k => spec_NameOk.l0 k s l j) b ∧ Ev (fun k => impl_NameOk.l0 k s l l.length j) b := by
 intro d
 induction d with
 | zero =>
  intro j hd hj
  obtain ⟨b, e1, e2⟩ := CleanOk_same s hs
  by_cases c : s.toList = []
  ·refine ⟨false, Ev.here fun k => ?_, Ev.here fun k => ?_⟩
   ·simp only [spec_NameOk.l0]; rw [if_neg (by omega), if_pos c]
   ·simp only [impl_NameOk.l0]; rw [if_neg (by omega), if_pos c]
  ·refine ⟨b, ?_, ?_⟩
   ·exact Ev.step (fun k => by simp only [spec_NameOk.l0]; rw [if_neg (by omega), if_neg c]) (Ev.bind e1 (Ev.now _))
   ·exact Ev.step (fun k => by simp only [impl_NameOk.l0]; rw [if_neg (by omega), if_neg c]) (Ev.bind e2 (Ev.now _))
 | succ d ih =>
  intro j hd hj
  have hjl : j < l.length := by omega
  obtain ⟨t, ht1, ht2⟩ := IsFirst_same l[j]
  obtain ⟨u, hu1, hu2⟩ := IsNext_same l[j]
  obtain ⟨b, e1, e2⟩ := ih (j + 1) (by omega) (by omega)
  have hw : wrap64 ((j : Int) + 1) = ((j + 1 : Nat) : Int) := by rw [w64 (by omega) (by omega)]; rfl
  have next : ∃ b, Ev (fun k => (spec_IsNext.f k l[j]).bind fun t => if t = true then spec_NameOk.l0 k s l ((j + 1 : Nat) : Int) else some false) b ∧ Ev (fun k => (impl_IsNext.f l[j]).bind fun t => if t = true then impl_NameOk.l0 k s l l.length ((j + 1 : Nat) : Int) else some false) b := by
   by_cases c : u = true
   ·exact ⟨b, Ev.bind hu1 (Ev.ite_pos c e1), Ev.opt hu2 (Ev.ite_pos c e2)⟩
   ·exact ⟨false, Ev.bind hu1 (Ev.ite_neg c (Ev.now _)), Ev.opt hu2 (Ev.ite_neg c (Ev.now _))⟩
  obtain ⟨b', n1, n2⟩ := next
  by_cases c0 : (j : Int) = 0
  ·by_cases c : t = true
   ·refine ⟨b', ?_, ?_⟩
    ·refine Ev.step (fun k => by simp only [spec_NameOk.l0, hw]; rw [if_pos (by omega), if_pos c0, if_pos (by omega), rdI l j hjl]) (Ev.bind ht1 (Ev.ite_pos c n1))
    ·refine Ev.step (fun k => by simp only [impl_NameOk.l0, hw]; rw [if_pos (by omega), if_pos (by omega), if_pos (by omega), if_pos c0, rdI l j hjl]) (Ev.opt ht2 (Ev.ite_pos c n2))
   ·refine ⟨false, ?_, ?_⟩
    ·refine Ev.step (fun k => by simp only [spec_NameOk.l0, hw]; rw [if_pos (by omega), if_pos c0, if_pos (by omega), rdI l j hjl]) (Ev.bind ht1 (Ev.ite_neg c (Ev.now _)))
    ·refine Ev.step (fun k => by simp only [impl_NameOk.l0, hw]; rw [if_pos (by omega), if_pos (by omega), if_pos (by omega), if_pos c0, rdI l j hjl]) (Ev.opt ht2 (Ev.ite_neg c (Ev.now _)))
  ·refine ⟨b', ?_, ?_⟩
   ·refine Ev.step (fun k => by simp only [spec_NameOk.l0, hw]; rw [if_pos (by omega), if_neg c0, if_pos (by omega), rdI l j hjl]) n1
   ·refine Ev.step (fun k => by simp only [impl_NameOk.l0, hw]; rw [if_pos (by omega), if_pos (by omega), if_pos (by omega), if_neg c0, rdI l j hjl]) n2
theorem NameOk_same (s : ByteArray) (hs : s.size ≤ 1048576) : ∃ b, Ev (fun k => spec_NameOk.f k s) b ∧ Ev (fun k => impl_NameOk.f k s) b := by
 obtain ⟨l, e1, e2, hl⟩ := Signs_same s hs
 obtain ⟨b, h1, h2⟩ := NameOk_loop s l hs (by omega) l.length 0 (by omega) (by omega)
 exact ⟨b, Ev.bind e1 h1, Ev.bind e2 h2⟩
end Go.Proofs.YthpdpnpojgegiaaGreatDoor.Sg
namespace Go.Proofs.YthpdpnpojgegiaaGreatDoor.Sg
open Go Go.RowKit Go.Proofs.YthpdpnpojgegiaaGreatDoor.P Go.Proofs.YthpdpnpojgegiaaGreatDoor.Evs Go.Proofs.YthpdpnpojgegiaaGreatDoorW.PrintWords Go.Proofs.YthpdpnpojgegiaaGreatDoorW.PrintLast

theorem IsText_same (a : Int) : spec_IsText.f a = impl_IsText.f a := rfl
theorem IsText_tells (a : Int) : ∃ b, impl_IsText.f a = some b := by
 unfold impl_IsText.f
 rw [SignOk_tells]
 simp only [Option.bind_some]
 repeat' split
 all_goals exact ⟨_, rfl⟩
end Go.Proofs.YthpdpnpojgegiaaGreatDoor.Sg
namespace Go.Proofs.YthpdpnpojgegiaaGreatDoor.Sg
open Go.RowKit Go.Proofs.YthpdpnpojgegiaaGreatDoor.P Go.Proofs.YthpdpnpojgegiaaGreatDoor.Evs Go.Proofs.YthpdpnpojgegiaaGreatDoorW.PrintWords Go.Proofs.YthpdpnpojgegiaaGreatDoorW.PrintLast

theorem TextOk_loop (s : ByteArray) (l : List Int) (hs : s.size ≤ 1048576) (hl : l.length ≤ 1048576) : ∀ (d j : Nat), l.length - j = d → j ≤ l.length →
  ∃ b, Ev (fun k => spec_TextOk.l0 k s l j) b ∧ Ev (fun k => impl_TextOk.l0 k s l l.length j) b := by
 intro d
 induction d with
 | zero =>
  intro j hd hj
  obtain ⟨b, e1, e2⟩ := CleanOk_same s hs
  refine ⟨b, ?_, ?_⟩
  ·exact Ev.step (fun k => by simp only [spec_TextOk.l0]; rw [if_neg (by omega)]) (Ev.bind e1 (Ev.now _))
  ·exact Ev.step (fun k => by simp only [impl_TextOk.l0]; rw [if_neg (by omega)]) (Ev.bind e2 (Ev.now _))
 | succ d ih =>
  intro j hd hj
  have hjl : j < l.length := by omega
  obtain ⟨t, ht⟩ := IsText_tells l[j]
  obtain ⟨b, e1, e2⟩ := ih (j + 1) (by omega) (by omega)
  have hw : wrap64 ((j : Int) + 1) = ((j + 1 : Nat) : Int) := by rw [w64 (by omega) (by omega)]; rfl
  have h1 : ∀ k, spec_TextOk.l0 (k + 1) s l j = if t = true then spec_TextOk.l0 k s l ((j + 1 : Nat) : Int) else some false := fun k => by
   simp only [spec_TextOk.l0]; rw [if_pos (by omega), if_pos (by omega), rdI l j hjl, IsText_same, ht, hw]; rfl
  have h2 : ∀ k, impl_TextOk.l0 (k + 1) s l l.length j = if t = true then impl_TextOk.l0 k s l l.length ((j + 1 : Nat) : Int) else some false := fun k => by
   simp only [impl_TextOk.l0]; rw [if_pos (by omega), if_pos (by omega), if_pos (by omega), rdI l j hjl, ht, hw]; rfl
  by_cases c : t = true
  ·exact ⟨b, Ev.step h1 (Ev.ite_pos c e1), Ev.step h2 (Ev.ite_pos c e2)⟩
  ·exact ⟨false, Ev.step h1 (Ev.ite_neg c (Ev.now _)), Ev.step h2 (Ev.ite_neg c (Ev.now _))⟩
theorem TextOk_same (s : ByteArray) (hs : s.size ≤ 1048576) : ∃ b, Ev (fun k => spec_TextOk.f k s) b ∧ Ev (fun k => impl_TextOk.f k s) b := by
 obtain ⟨l, e1, e2, hl⟩ := Signs_same s hs
 obtain ⟨b, h1, h2⟩ := TextOk_loop s l hs (by omega) l.length 0 (by omega) (by omega)
 exact ⟨b, Ev.bind e1 h1, Ev.bind e2 h2⟩
end Go.Proofs.YthpdpnpojgegiaaGreatDoor.Sg
namespace Go.Proofs.YthpdpnpojgegiaaGreatDoor.Sg
open Go Go.RowKit Go.Proofs.YthpdpnpojgegiaaGreatDoor.P Go.Proofs.YthpdpnpojgegiaaGreatDoor.Evs Go.Proofs.YthpdpnpojgegiaaGreatDoorW.PrintWords Go.Proofs.YthpdpnpojgegiaaGreatDoorW.PrintLast

theorem bt_list (s : ByteArray) (j : Nat) (h : j < s.data.toList.length) : bt s (j : Int) = ((s.data.toList[j]).toNat : Int) := by
 have h' : j < s.size := h
 unfold bt
 rw [Int.toNat_natCast, dif_pos h']
 rfl
/-- One byte, looked for from a place on. -/
theorem Find_some (s : ByteArray) (c : UInt8) (hs : s.size ≤ 1048576) : ∀ (d j : Nat), s.size - j = d → j ≤ s.size →
  ∃ r : Int, Ev (fun k => spec_l4Find.l0 k s j (c.toNat : Int)) r ∧ (r < 0 ↔ c ∉ s.data.toList.drop j) := by
 intro d
 have hsz : s.data.toList.length = s.size := rfl
 induction d with
 | zero =>
  intro j hd hj
  refine ⟨-1, Ev.here fun k => ?_, ?_⟩
  ·simp only [spec_l4Find.l0]; rw [if_neg (by omega)]
  ·rw [List.drop_eq_nil_of_le (by omega)]; simp
 | succ d ih =>
  intro j hd hj
  have hjl : j < s.data.toList.length := by omega
  have hA : (j : Int) < (s.size : Int) := Int.ofNat_lt.mpr hjl
  have hB : (0 : Int) ≤ (j : Int) := Int.natCast_nonneg j
  have hw : wrap64 ((j : Int) + 1) = ((j + 1 : Nat) : Int) := by rw [w64 (by omega) (by omega)]; rfl
  rw [List.drop_eq_getElem_cons hjl]
  have hstep : ∀ k, spec_l4Find.l0 (k + 1) s j (c.toNat : Int) = if (s.data.toList[j]) = c then some (j : Int) else spec_l4Find.l0 k s ((j + 1 : Nat) : Int) (c.toNat : Int) := by
   intro k
   have hbt := bt_list s j hjl
   generalize s.data.toList[j] = b at hbt
   simp only [spec_l4Find.l0, hbt, hw]
   rw [if_pos hA, if_pos hB]
   by_cases h : b = c
   ·rw [if_pos h, if_pos (by rw [h])]
   ·rw [if_neg h, if_neg (fun e => h (UInt8.toNat_inj.mp (Int.ofNat_inj.mp e)))]
  by_cases h : s.data.toList[j] = c
  ·refine ⟨j, Ev.here fun k => by rw [hstep, if_pos h], ?_⟩
   constructor
   ·intro h0; omega
   ·intro h0; exact absurd (by rw [h]; exact List.mem_cons_self) h0
  ·obtain ⟨r, er, hr⟩ := ih (j + 1) (by omega) (by omega)
   refine ⟨r, Ev.step (fun k => by rw [hstep, if_neg h]) er, ?_⟩
   rw [hr, List.mem_cons]
   constructor
   ·rintro h0 (h1 | h1)
    ·exact h h1.symm
    ·exact h0 h1
   ·intro h0 h1; exact h0 (Or.inr h1)
theorem stands_tells (s t : ByteArray) (j : Nat) (hs : s.size ≤ 1048576) (ht : j + t.size ≤ s.size) : spec_l5Stands.f s j t = some ((s.extract j (j + t.size)).toList == t.toList) := by
 have hw : wrap64 ((j : Int) + (t.size : Int)) = ((j + t.size : Nat) : Int) := by rw [w64 (by omega) (by omega)]; rfl
 unfold spec_l5Stands.f
 rw [hw, if_pos (by omega), if_pos (by omega), if_pos (by omega), Int.toNat_natCast, Int.toNat_natCast]
/-- A text, looked for from a place on. -/
theorem Search_some (s t : ByteArray) (hs : s.size ≤ 1048576) (ht : t.size ≤ 1048576) : ∀ (d j : Nat), s.size + 1 - j = d → j ≤ s.size + 1 →
  ∃ r : Int, Ev (fun k => spec_l5Search.l0 k s j t) r ∧ (r < 0 ↔ ∀ i, j ≤ i → i + t.size ≤ s.size → (s.extract i (i + t.size)).toList ≠ t.toList) := by
 intro d
 induction d with
 | zero =>
  intro j hd hj
  refine ⟨-1, Ev.here fun k => ?_, ?_⟩
  ·simp only [spec_l5Search.l0]; rw [if_neg (by rw [w64 (by omega) (by omega)]; omega)]
  ·constructor
   ·intro _ i h1 h2; omega
   ·intro _; omega
 | succ d ih =>
  intro j hd hj
  have hw0 : wrap64 ((j : Int) + (t.size : Int)) = ((j + t.size : Nat) : Int) := by rw [w64 (by omega) (by omega)]; rfl
  by_cases c : j + t.size ≤ s.size
  ·have hw : wrap64 ((j : Int) + 1) = ((j + 1 : Nat) : Int) := by rw [w64 (by omega) (by omega)]; rfl
   have hst := stands_tells s t j hs c
   have hA : ((j + t.size : Nat) : Int) ≤ (s.size : Int) := by omega
   have hstep : ∀ k, spec_l5Search.l0 (k + 1) s j t = if ((s.extract j (j + t.size)).toList == t.toList) = true then some (j : Int) else spec_l5Search.l0 k s ((j + 1 : Nat) : Int) t := by
    intro k
    simp only [spec_l5Search.l0, hw0, hst, hw, Option.bind_some]
    rw [if_pos hA]
   by_cases h : ((s.extract j (j + t.size)).toList == t.toList) = true
   ·refine ⟨j, Ev.here fun k => by rw [hstep, if_pos h], ?_⟩
    constructor
    ·intro h0; omega
    ·intro h0; exact absurd (by simpa using h) (h0 j (Nat.le_refl _) c)
   ·obtain ⟨r, er, hr⟩ := ih (j + 1) (by omega) (by omega)
    refine ⟨r, Ev.step (fun k => by rw [hstep, if_neg h]) er, ?_⟩
    rw [hr]
    constructor
    ·intro h0 i h1 h2
     rcases Nat.lt_or_ge j i with h3 | h3
     ·exact h0 i h3 h2
     ·obtain rfl : i = j := by omega
      simpa using h
    ·intro h0 i h1 h2; exact h0 i (by omega) h2
  ·refine ⟨-1, Ev.here fun k => ?_, ?_⟩
   ·simp only [spec_l5Search.l0]; rw [hw0, if_neg (by omega)]
   ·constructor
    ·intro _ i h1 h2; omega
    ·intro _; omega
/-! ### strings.Contains, HasSuffix in the same words -/
theorem contains_one (l : List UInt8) (c : UInt8) : Lib.contains l [c] = decide (c ∈ l) := by
 unfold Lib.contains
 rw [Lib.index_one]
 induction l with
 | nil => rfl
 | cons b l ih =>
  rw [show Lib.indexByte (b :: l) c = (if (b == c) = true then 0 else if (Lib.indexByte l c == -1) = true then -1 else Lib.indexByte l c + 1) from rfl]
  by_cases h : b = c
  ·rw [if_pos (by simpa using h)]
   rw [decide_eq_true (by decide), decide_eq_true (by rw [h]; exact List.mem_cons_self)]
  ·rw [if_neg (by simpa using h)]
   have hge := Lib.indexByte_ge l c
   have hm : (c ∈ b :: l) ↔ (c ∈ l) := by rw [List.mem_cons]; exact ⟨fun h0 => h0.resolve_left (fun e => h e.symm), Or.inr⟩
   rw [show decide (c ∈ b :: l) = decide (c ∈ l) from decide_eq_decide.mpr hm, ← ih]
   by_cases h2 : Lib.indexByte l c = -1
   ·rw [if_pos (by simpa using h2), h2]
   ·rw [if_neg (by simpa using h2)]
    rw [decide_eq_true (by omega), decide_eq_true (by omega)]
theorem occAt_extract (s t : ByteArray) (i : Nat) (h : i + t.size ≤ s.size) : Lib.occAt s.data.toList t.data.toList i = ((s.extract i (i + t.size)).toList == t.toList) := by
 have hs : s.data.toList.length = s.size := rfl
 have ht : t.data.toList.length = t.size := rfl
 unfold Lib.occAt
 rw [show (t.data.toList.isPrefixOf (s.data.toList.drop i)) = Lib.hasPrefix (s.data.toList.drop i) t.data.toList from rfl, ← Lib.hasPrefix_of_take, decide_eq_true (by rw [List.length_drop]; omega), Bool.true_and, Lib.extract_toList, Lib.toList_data, ht, show i + t.size - i = t.size by omega]
theorem contains_tells (s t : ByteArray) : Lib.contains s.data.toList t.data.toList = false ↔ ∀ i, 0 ≤ i → i + t.size ≤ s.size → (s.extract i (i + t.size)).toList ≠ t.toList := by
 have hs : s.data.toList.length = s.size := rfl
 have ht : t.data.toList.length = t.size := rfl
 unfold Lib.contains
 rcases Lib.index_spec s.data.toList t.data.toList with ⟨h, hn⟩ | ⟨i, h, hi, ho, _⟩
 ·rw [h]
  constructor
  ·intro _ j _ hj he
   have := hn j (by omega)
   rw [occAt_extract s t j hj] at this
   simp [he] at this
  ·intro _; rfl
 ·have hr := Lib.index_room s.data.toList t.data.toList (by omega)
  rw [h] at hr
  rw [occAt_extract s t i (by omega)] at ho
  constructor
  ·intro h0; rw [h, decide_eq_false_iff_not] at h0; omega
  ·intro h0; exact absurd (by simpa using ho) (h0 i (Nat.zero_le _) (by omega))
theorem suffix_one (init : List UInt8) (x c : UInt8) : Lib.hasSuffix (init ++ [x]) [c] = decide (x = c) := by
 unfold Lib.hasSuffix
 rw [Bool.eq_iff_iff, List.isSuffixOf_iff_suffix, decide_eq_true_iff]
 constructor
 ·rintro ⟨t, ht⟩
  have := (List.append_inj' ht rfl).2
  exact (List.cons.inj this).1.symm
 ·rintro rfl; exact List.suffix_append _ _
end Go.Proofs.YthpdpnpojgegiaaGreatDoor.Sg
namespace Go.Proofs.YthpdpnpojgegiaaGreatDoor.Sg
open Go Go.RowKit Go.Proofs.YthpdpnpojgegiaaGreatDoor.P Go.Proofs.YthpdpnpojgegiaaGreatDoor.Evs Go.Proofs.YthpdpnpojgegiaaGreatDoorW.PrintWords Go.Proofs.YthpdpnpojgegiaaGreatDoorW.PrintLast

theorem NoteOk_same (s : ByteArray) (hs : s.size ≤ 1048576) : ∃ b, Ev (fun k => spec_NoteOk.f k s) b ∧ Ev (fun k => impl_NoteOk.f k s) b := by
 obtain ⟨t, t1, t2⟩ := TextOk_same s hs
 obtain ⟨r1, f1, hr1⟩ := Find_some s 13 hs s.size 0 (by omega) (by omega)
 obtain ⟨r2, f2, hr2⟩ := Search_some s (⟨#[45, 45]⟩ : ByteArray) hs (by decide) (s.size + 1) 0 (by omega) (by omega)
 rw [List.drop_zero] at hr1
 replace f1 : Ev (fun k => spec_l4Find.f k s 0 13) r1 := f1
 replace f2 : Ev (fun k => spec_l5Search.f k s 0 (⟨#[45, 45]⟩ : ByteArray)) r2 := f2
 have hc2 := contains_tells s (⟨#[45, 45]⟩ : ByteArray)
 rw [← hr2] at hc2
 have hc1 : Lib.contains s.data.toList (⟨#[13]⟩ : ByteArray).data.toList = decide (¬ r1 < 0) := by
  show Lib.contains s.data.toList [13] = _
  rw [contains_one, decide_eq_decide, hr1, Classical.not_not]
 have hi : ∀ (b : Bool), (t && !(Lib.contains s.data.toList (⟨#[13]⟩ : ByteArray).data.toList) && !(Lib.contains s.data.toList (⟨#[45, 45]⟩ : ByteArray).data.toList) && !(Lib.hasSuffix s.data.toList (⟨#[45]⟩ : ByteArray).data.toList)) = b → Ev (fun k => impl_NoteOk.f k s) b := fun b hb => by
  unfold impl_NoteOk.f
  subst hb
  exact Ev.ite_pos (by omega) (Ev.bind t2 (Ev.now _))
 unfold spec_NoteOk.f
 cases t with
 | false => exact ⟨false, Ev.bind t1 (Ev.ite_neg (by decide) (Ev.now _)), hi false rfl⟩
 | true =>
  by_cases c1 : r1 < 0
  case neg => exact ⟨false, Ev.bind t1 (Ev.ite_pos rfl (Ev.bind f1 (Ev.ite_neg c1 (Ev.now _)))), hi false (by rw [hc1, decide_eq_true c1]; rfl)⟩
  rw [decide_eq_false (fun h => h c1)] at hc1
  by_cases c2 : r2 < 0
  case neg =>
   have h2 : Lib.contains s.data.toList (⟨#[45, 45]⟩ : ByteArray).data.toList = true := by
    cases h : Lib.contains s.data.toList (⟨#[45, 45]⟩ : ByteArray).data.toList with
    | true => rfl
    | false => exact absurd (hc2.mp h) c2
   exact ⟨false, Ev.bind t1 (Ev.ite_pos rfl (Ev.bind f1 (Ev.ite_pos c1 (Ev.bind f2 (Ev.ite_neg c2 (Ev.now _)))))), hi false (by rw [hc1, h2]; rfl)⟩
  have h2 := hc2.mpr c2
  rcases List.eq_nil_or_concat s.data.toList with hnil | ⟨init, x, hl⟩
  ·have h0 : s.toList = [] := by rw [Lib.toList_data]; exact hnil
   exact ⟨true, Ev.bind t1 (Ev.ite_pos rfl (Ev.bind f1 (Ev.ite_pos c1 (Ev.bind f2 (Ev.ite_pos c2 (Ev.ite_pos h0 (Ev.now _))))))), hi true (by rw [hc1, h2, hnil]; rfl)⟩
  ·rw [List.concat_eq_append] at hl
   have h0 : ¬ s.toList = [] := by rw [Lib.toList_data, hl]; simp
   have hsz : s.size = init.length + 1 := by
    show s.data.toList.length = _
    rw [hl]; simp
   have hlast : bt s ((init.length : Nat) : Int) = (x.toNat : Int) := by
    rw [bt_list s init.length (by show init.length < s.size; omega)]
    congr 2
    have : s.data.toList[init.length]? = some x := by rw [hl]; simp
    exact (List.getElem?_eq_some_iff.mp this).2
   have hw : wrap64 ((s.size : Int) - 1) = ((init.length : Nat) : Int) := by rw [w64 (by omega) (by omega)]; omega
   have hA : (0 : Int) ≤ ((init.length : Nat) : Int) := Int.natCast_nonneg _
   have hB : ((init.length : Nat) : Int) < (s.size : Int) := by omega
   have hx : (((x.toNat : Int)) != 45) = !(decide (x = 45)) := by
    by_cases h : x = 45
    ·subst h; rfl
    ·rw [decide_eq_false h]
     show _ = true
     rw [bne_iff_ne]
     intro e
     exact h (UInt8.toNat_inj.mp (by simpa using Int.ofNat_inj.mp (show ((x.toNat : Nat) : Int) = ((45 : Nat) : Int) from e)))
   refine ⟨!(decide (x = 45)), Ev.bind t1 (Ev.ite_pos rfl (Ev.bind f1 (Ev.ite_pos c1 (Ev.bind f2 (Ev.ite_pos c2 (Ev.ite_neg h0 ?_)))))), hi _ (by rw [hc1, h2, hl]; show (!(Lib.hasSuffix (init ++ [x]) [45])) = _; rw [suffix_one])⟩
   simp only [hw, hlast, hx]
   exact Ev.ite_pos hA (Ev.ite_pos hB (Ev.now _))
theorem FnExactNoteOk_all (a0 : ByteArray) : ∃ k, (if (a0.size : Int) > 1048576 then (some true) else ((spec_NoteOk.f k a0).bind fun t => ((impl_NoteOk.f k a0).bind fun u => (if (u != t) = true then (some false) else (some true))))) = some true := by
 by_cases c : (a0.size : Int) > 1048576
 ·exact (Ev.ite_pos c (Ev.now _)).rounds
 ·obtain ⟨b, h1, h2⟩ := NoteOk_same a0 (by omega)
  exact (Ev.ite_neg c (Ev.bind h1 (Ev.bind h2 (Ev.ite_neg (by simp) (Ev.now _))))).rounds
end Go.Proofs.YthpdpnpojgegiaaGreatDoor.Sg
namespace Go.Proofs.YthpdpnpojgegiaaGreatDoor.Le
open Go.RowKit Go.Proofs.YthpdpnpojgegiaaGreatDoor.P Go.Proofs.YthpdpnpojgegiaaGreatDoor.Evs Go.Proofs.YthpdpnpojgegiaaGreatDoor.Sg Go.Proofs.YthpdpnpojgegiaaGreatDoorW.PrintWords Go.Proofs.YthpdpnpojgegiaaGreatDoorW.PrintLast

theorem strictAttrs_same (l : List S62) (hl : l.length ≤ 1048576) (hs : ∀ y ∈ l, y.f0.size ≤ 1048576 ∧ y.f1.size ≤ 1048576) : ∃ b : Bool, Ev (fun k => spec_l15Attrs.f k l) b ∧ Ev (fun k => impl_strictAttrs.f k l) b := by
 have hN : ∀ j (h : j < l.length), ∃ b, Ev (fun k => spec_NameOk.f k l[j].f0) b ∧ Ev (fun k => impl_NameOk.f k l[j].f0) b := fun j h => NameOk_same _ (hs _ (List.getElem_mem h)).1
 have hT : ∀ j (h : j < l.length), ∃ b, Ev (fun k => spec_TextOk.f k l[j].f1) b ∧ Ev (fun k => impl_TextOk.f k l[j].f1) b := fun j h => TextOk_same _ (hs _ (List.getElem_mem h)).2
 have h1 : ∀ k (j : Nat) (h : j < l.length), spec_l15Attrs.l0 (k + 1) l j = (spec_NameOk.f k l[j].f0).bind fun t206 => (if t206 = true then (if l[j].f0.toList = ([120, 109, 108, 110, 115] : List UInt8) then (some false) else ((spec_TextOk.f k l[j].f1).bind fun t209 => (if t209 = true then ((spec_l4Has.f k (l.take j) l[j].f0).bind fun t215 => (if t215 = true then (some false) else (spec_l15Attrs.l0 k l ((j + 1 : Nat) : Int)))) else (some false)))) else (some false)) := fun k j h => by
  have hrd : rd_T62 l (j : Int) = l[j] := rdT l _ j h
  have hb : (j : Int) ≤ (l.length : Int) := by omega
  simp only [spec_l15Attrs.l0, hrd, succ64 (show j < 9223372036854775807 by omega), Int.toNat_natCast, if_pos hb]
  rw [if_pos (by omega), if_pos (by omega)]
 have h2 : ∀ k (j : Nat) (h : j < l.length), impl_strictAttrs.l0 (k + 1) l l l.length j = (impl_NameOk.f k l[j].f0).bind fun t345 => (if t345 = true then (if l[j].f0.toList = ([120, 109, 108, 110, 115] : List UInt8) then (some false) else (if (l.take j).any (hasA l[j].f0) = true then (some false) else ((impl_TextOk.f k l[j].f1).bind fun t351 => (if t351 = true then (impl_strictAttrs.l0 k l l l.length ((j + 1 : Nat) : Int)) else (some false))))) else (some false)) := fun k j h => by
  have hrd : rd_T62 l (j : Int) = l[j] := rdT l _ j h
  have hb : (j : Int) ≤ (l.length : Int) := by omega
  simp only [impl_strictAttrs.l0, hrd, succ64 (show j < 9223372036854775807 by omega), Int.toNat_natCast, impl_hasAttr.f, Option.bind_some, if_pos hb]
  rw [if_pos (by omega), if_pos (by omega), if_pos (by omega)]
 have hH : ∀ j (h : j < l.length), Ev (fun k => spec_l4Has.f k (l.take j) l[j].f0) ((l.take j).any (hasA l[j].f0)) := fun j h => Hs.Has_tells _ _ (by rw [List.length_take]; omega)
 have ok := fun j => ∀ h : j < l.length, Ev (fun k => impl_NameOk.f k l[j].f0) true ∧ ¬ l[j].f0.toList = ([120, 109, 108, 110, 115] : List UInt8) ∧ (l.take j).any (hasA l[j].f0) = false ∧ Ev (fun k => impl_TextOk.f k l[j].f1) true
 have A := Ev.all (n := l.length) (j0 := 0) (g := fun k j => spec_l15Attrs.l0 k l (j : Int)) (e := false) (ok := fun j => ∀ h : j < l.length, Ev (fun k => impl_NameOk.f k l[j].f0) true ∧ ¬ l[j].f0.toList = ([120, 109, 108, 110, 115] : List UInt8) ∧ (l.take j).any (hasA l[j].f0) = false ∧ Ev (fun k => impl_TextOk.f k l[j].f1) true) (Nat.zero_le _)
  (fun j _ hj _ hok r hr => by
   obtain ⟨q1, q2, q3, q4⟩ := hok hj
   obtain ⟨a, ea, ea2⟩ := hN j hj
   obtain rfl := Ev.uniq ea2 q1
   obtain ⟨b, eb, eb2⟩ := hT j hj
   obtain rfl := Ev.uniq eb2 q4
   have hh := hH j hj
   rw [q3] at hh
   exact Ev.step (fun k => h1 k j hj) (Ev.bind ea (Ev.ite_pos rfl (Ev.ite_neg q2 (Ev.bind eb (Ev.ite_pos rfl (Ev.bind hh (Ev.ite_neg Bool.false_ne_true hr))))))))
  (fun j _ hj _ hok => by
   obtain ⟨a, ea, ea2⟩ := hN j hj
   obtain ⟨b, eb, eb2⟩ := hT j hj
   have hh := hH j hj
   refine Ev.step (fun k => h1 k j hj) (Ev.bind ea ?_)
   cases a with
   | false => exact Ev.ite_neg Bool.false_ne_true (Ev.now _)
   | true =>
    refine Ev.ite_pos rfl ?_
    by_cases c : l[j].f0.toList = ([120, 109, 108, 110, 115] : List UInt8)
    ·exact Ev.ite_pos c (Ev.now _)
    refine Ev.ite_neg c (Ev.bind eb ?_)
    cases b with
    | false => exact Ev.ite_neg Bool.false_ne_true (Ev.now _)
    | true =>
     refine Ev.ite_pos rfl (Ev.bind hh ?_)
     cases e : (l.take j).any (hasA l[j].f0) with
     | true => exact Ev.ite_pos rfl (Ev.now _)
     | false => exact absurd (fun _ => ⟨ea2, c, e, eb2⟩) hok)
 have B := Ev.all (n := l.length) (j0 := 0) (g := fun k j => impl_strictAttrs.l0 k l l l.length (j : Int)) (e := false) (ok := fun j => ∀ h : j < l.length, Ev (fun k => impl_NameOk.f k l[j].f0) true ∧ ¬ l[j].f0.toList = ([120, 109, 108, 110, 115] : List UInt8) ∧ (l.take j).any (hasA l[j].f0) = false ∧ Ev (fun k => impl_TextOk.f k l[j].f1) true) (Nat.zero_le _)
  (fun j _ hj _ hok r hr => by
   obtain ⟨q1, q2, q3, q4⟩ := hok hj
   exact Ev.step (fun k => h2 k j hj) (Ev.bind q1 (Ev.ite_pos rfl (Ev.ite_neg q2 (Ev.ite_neg (by rw [q3]; exact Bool.false_ne_true) (Ev.bind q4 (Ev.ite_pos rfl hr)))))))
  (fun j _ hj _ hok => by
   obtain ⟨a, ea, ea2⟩ := hN j hj
   obtain ⟨b, eb, eb2⟩ := hT j hj
   refine Ev.step (fun k => h2 k j hj) (Ev.bind ea2 ?_)
   cases a with
   | false => exact Ev.ite_neg Bool.false_ne_true (Ev.now _)
   | true =>
    refine Ev.ite_pos rfl ?_
    by_cases c : l[j].f0.toList = ([120, 109, 108, 110, 115] : List UInt8)
    ·exact Ev.ite_pos c (Ev.now _)
    refine Ev.ite_neg c ?_
    cases e : (l.take j).any (hasA l[j].f0) with
    | true => exact Ev.ite_pos rfl (Ev.now _)
    | false =>
     refine Ev.ite_neg Bool.false_ne_true (Ev.bind eb2 ?_)
     cases b with
     | false => exact Ev.ite_neg Bool.false_ne_true (Ev.now _)
     | true => exact absurd (fun _ => ⟨ea2, c, e, eb2⟩) hok)
 have e1 : Ev (fun k => spec_l15Attrs.l0 k l (l.length : Int)) true := Ev.here fun k => by simp only [spec_l15Attrs.l0]; rw [if_neg (by omega)]
 have e2 : Ev (fun k => impl_strictAttrs.l0 k l l l.length (l.length : Int)) true := Ev.here fun k => by simp only [impl_strictAttrs.l0]; rw [if_neg (by omega)]
 clear ok
 by_cases c : ∀ j, 0 ≤ j → j < l.length → ∀ h : j < l.length, Ev (fun k => impl_NameOk.f k l[j].f0) true ∧ ¬ l[j].f0.toList = ([120, 109, 108, 110, 115] : List UInt8) ∧ (l.take j).any (hasA l[j].f0) = false ∧ Ev (fun k => impl_TextOk.f k l[j].f1) true
 ·exact ⟨true, A.1 c true e1, B.1 c true e2⟩
 ·exact ⟨false, A.2 c, B.2 c⟩
/-- The greatest of the first j numbers. -/
def top (F : Nat → Nat × Bool) : Nat → Nat
 | 0 => 0
 | j + 1 => max (top F j) (F j).1
theorem top_le (F : Nat → Nat × Bool) (d : Nat) : ∀ n, (top F n ≤ d ↔ ∀ j, j < n → (F j).1 ≤ d)
 | 0 => ⟨fun _ j h => absurd h (Nat.not_lt_zero j), fun _ => Nat.zero_le _⟩
 | n + 1 => by
  have ih := top_le F d n
  rw [top]
  constructor
  ·intro h j hj
   rcases Nat.lt_or_ge j n with q | q
   ·exact ih.mp (by omega) j q
   ·obtain rfl : j = n := by omega
    omega
  ·intro h
   have h1 := ih.mpr fun j hj => h j (by omega)
   have h2 := h n (by omega)
   omega
/-- An element's kids, as both ask: two texts never beside each other. -/
def Beside (xs : List S31) (j : Nat) : Prop := 0 < j ∧ (rd_T31 xs (j : Int)).f0 = 2 ∧ (rd_T31 xs ((j : Int) - 1)).f0 = 2
theorem ElOk_main : ∀ (m : Nat) (z : S31), G31 1048576 m z → m ≤ 1048577 → ∃ (D : Nat) (b : Bool), 1 ≤ D ∧ D ≤ m ∧ Ev (fun k => spec_ElDeep.f k z.f0 z.f1 z.f2 z.f3 z.f4 z.f5) (D : Int) ∧ Ev (fun k => spec_l15El.f k z.f0 z.f1 z.f2 z.f3 z.f4 z.f5) b ∧
  ∀ deep : Int, 0 ≤ deep → deep ≤ 60 → Ev (fun k => impl_elOk.f k z.f0 z.f1 z.f2 z.f3 z.f4 z.f5 deep) (b && decide ((D : Int) ≤ deep)) := by
 intro m
 induction m with
 | zero => intro z hz; exact hz.elim
 | succ m ih =>
  intro z hz hm
  obtain ⟨_, _, hs2, ⟨hl3, hg3⟩, hs4, hl5, hg5⟩ := hz
  have hF0 : ∀ j : Nat, ∃ p : Nat × Bool, ∀ h : j < z.f5.length, 1 ≤ p.1 ∧ p.1 ≤ m ∧ Ev (fun k => spec_ElDeep.f k z.f5[j].f0 z.f5[j].f1 z.f5[j].f2 z.f5[j].f3 z.f5[j].f4 z.f5[j].f5) (p.1 : Int) ∧ Ev (fun k => spec_l15El.f k z.f5[j].f0 z.f5[j].f1 z.f5[j].f2 z.f5[j].f3 z.f5[j].f4 z.f5[j].f5) p.2 ∧
    ∀ deep : Int, 0 ≤ deep → deep ≤ 60 → Ev (fun k => impl_elOk.f k z.f5[j].f0 z.f5[j].f1 z.f5[j].f2 z.f5[j].f3 z.f5[j].f4 z.f5[j].f5 deep) (p.2 && decide ((p.1 : Int) ≤ deep)) := fun j => by
   by_cases h : j < z.f5.length
   ·obtain ⟨D, b, q⟩ := ih _ (hg5 _ (List.getElem_mem h)) (by omega)
    exact ⟨(D, b), fun _ => q⟩
   ·exact ⟨(0, false), fun h' => absurd h' h⟩
  obtain ⟨F, hF⟩ := Classical.axiomOfChoice hF0
  have hrd : ∀ j (h : j < z.f5.length), rd_T31 z.f5 (j : Int) = z.f5[j] := fun j h => rdT z.f5 _ j h
  have htm : ∀ n, n ≤ z.f5.length → top F n ≤ m := fun n hn => (top_le F m n).mpr fun j hj => (hF j (by omega)).2.1
  -- how deep
  have deepL : ∀ (d i : Nat), z.f5.length - i = d → i ≤ z.f5.length → Ev (fun k => spec_ElDeep.l0 k (top F i) i z.f0 z.f1 z.f2 z.f3 z.f4 z.f5) ((top F z.f5.length + 1 : Nat) : Int) := by
   intro d
   induction d with
   | zero =>
    intro i hd hi
    obtain rfl : i = z.f5.length := by omega
    have := htm z.f5.length (Nat.le_refl _)
    refine Ev.here fun k => ?_
    simp only [spec_ElDeep.l0]; rw [if_neg (by omega), succ64 (by omega)]
   | succ d ihd =>
    intro i hd hi
    have hil : i < z.f5.length := by omega
    obtain ⟨p1, p2, p3, _, _⟩ := hF i hil
    have hmx : spec_l1Max.f (top F i : Int) ((F i).1 : Int) = some ((top F (i + 1) : Nat) : Int) := by
     unfold spec_l1Max.f
     rw [top]
     by_cases c : (top F i : Int) > ((F i).1 : Int)
     ·rw [if_pos c]; exact congrArg (fun n : Nat => some (n : Int)) (by omega)
     ·rw [if_neg c]; exact congrArg (fun n : Nat => some (n : Int)) (by omega)
    refine Ev.step (f := fun k => (spec_ElDeep.f k z.f5[i].f0 z.f5[i].f1 z.f5[i].f2 z.f5[i].f3 z.f5[i].f4 z.f5[i].f5).bind fun t121 => ((spec_l1Max.f (top F i) t121).bind fun t122 => (spec_ElDeep.l0 k t122 ((i + 1 : Nat) : Int) z.f0 z.f1 z.f2 z.f3 z.f4 z.f5))) (fun k => ?_) (Ev.bind p3 (Ev.opt hmx (ihd (i + 1) (by omega) (by omega))))
    simp only [spec_ElDeep.l0, hrd i hil, succ64 (show i < 9223372036854775807 by omega)]
    rw [if_pos (by omega), if_pos (by omega)]
  have deepE : Ev (fun k => spec_ElDeep.f k z.f0 z.f1 z.f2 z.f3 z.f4 z.f5) ((top F z.f5.length + 1 : Nat) : Int) := Ev.step (fun k => by simp only [spec_ElDeep.f]; rfl) (deepL z.f5.length 0 (by omega) (by omega))
  -- the reference's kids
  have hS : ∀ k (j : Nat) (h : j < z.f5.length), spec_l15El.l0 (k + 1) j z.f0 z.f1 z.f2 z.f3 z.f4 z.f5 = (spec_l15El.f k z.f5[j].f0 z.f5[j].f1 z.f5[j].f2 z.f5[j].f3 z.f5[j].f4 z.f5[j].f5).bind fun t222 => (if t222 = true then (if (0 < j ∧ z.f5[j].f0 = 2) then (if (rd_T31 z.f5 ((j : Int) - 1)).f0 = 2 then some false else spec_l15El.l0 k ((j + 1 : Nat) : Int) z.f0 z.f1 z.f2 z.f3 z.f4 z.f5) else spec_l15El.l0 k ((j + 1 : Nat) : Int) z.f0 z.f1 z.f2 z.f3 z.f4 z.f5) else some false) := fun k j h => by
   simp only [spec_l15El.l0, hrd j h, succ64 (show j < 9223372036854775807 by omega)]
   rw [if_pos (by omega), if_pos (by omega)]
   by_cases c : 0 < j
   ·have e : wrap64 ((j : Int) - 1) = (j : Int) - 1 := w64 (by omega) (by omega)
    have c1 : (j : Int) > 0 := by omega
    have c2 : 0 ≤ (j : Int) - 1 := by omega
    have c3 : (j : Int) - 1 < (z.f5.length : Int) := by omega
    simp only [e, if_pos c1, if_pos c2, if_pos c3, c, true_and]
   ·have c1 : ¬ (j : Int) > 0 := by omega
    simp only [if_neg c1, c, false_and, if_false]
  have hI : ∀ (deep : Int) k (j : Nat) (h : j < z.f5.length), impl_elOk.l0 (k + 1) deep z.f5 z.f5.length j z.f0 z.f1 z.f2 z.f3 z.f4 z.f5 = (impl_elOk.f k z.f5[j].f0 z.f5[j].f1 z.f5[j].f2 z.f5[j].f3 z.f5[j].f4 z.f5[j].f5 (wrap64 (deep - 1))).bind fun t362 => (if t362 = true then (if (0 < j ∧ z.f5[j].f0 = 2) then (if (rd_T31 z.f5 ((j : Int) - 1)).f0 = 2 then some false else impl_elOk.l0 k deep z.f5 z.f5.length ((j + 1 : Nat) : Int) z.f0 z.f1 z.f2 z.f3 z.f4 z.f5) else impl_elOk.l0 k deep z.f5 z.f5.length ((j + 1 : Nat) : Int) z.f0 z.f1 z.f2 z.f3 z.f4 z.f5) else some false) := fun deep k j h => by
   simp only [impl_elOk.l0, hrd j h, succ64 (show j < 9223372036854775807 by omega)]
   rw [if_pos (by omega), if_pos (by omega), if_pos (by omega)]
   by_cases c : 0 < j
   ·have e : wrap64 ((j : Int) - 1) = (j : Int) - 1 := w64 (by omega) (by omega)
    have c1 : (j : Int) > 0 := by omega
    have c2 : 0 ≤ (j : Int) - 1 := by omega
    have c3 : (j : Int) - 1 < (z.f5.length : Int) := by omega
    simp only [e, if_pos c1, if_pos c2, if_pos c3, c, true_and]
   ·have c1 : ¬ (j : Int) > 0 := by omega
    simp only [if_neg c1, c, false_and, if_false]
  have A := Ev.all (n := z.f5.length) (j0 := 0) (g := fun k j => spec_l15El.l0 k (j : Int) z.f0 z.f1 z.f2 z.f3 z.f4 z.f5) (e := false) (ok := fun j => (F j).2 = true ∧ ¬ Beside z.f5 j) (Nat.zero_le _)
   (fun j _ hj _ hok r hr => by
    refine Ev.step (fun k => hS k j hj) (Ev.bind (hF j hj).2.2.2.1 (Ev.ite_pos hok.1 ?_))
    by_cases c : 0 < j ∧ z.f5[j].f0 = 2
    ·exact Ev.ite_pos c (Ev.ite_neg (fun q => hok.2 ⟨c.1, by rw [hrd j hj]; exact c.2, q⟩) hr)
    ·exact Ev.ite_neg c hr)
   (fun j _ hj _ hok => by
    refine Ev.step (fun k => hS k j hj) (Ev.bind (hF j hj).2.2.2.1 ?_)
    by_cases c1 : (F j).2 = true
    ·have hb : Beside z.f5 j := Classical.byContradiction fun q => hok ⟨c1, q⟩
     have hb2 := hb.2.1
     rw [hrd j hj] at hb2
     exact Ev.ite_pos c1 (Ev.ite_pos ⟨hb.1, hb2⟩ (Ev.ite_pos hb.2.2 (Ev.now _)))
    ·exact Ev.ite_neg c1 (Ev.now _))
  have B : ∀ deep : Int, 1 ≤ deep → deep ≤ 60 → _ := fun (deep : Int) (hd0 : 1 ≤ deep) (hd1 : deep ≤ 60) =>
   Ev.all (n := z.f5.length) (j0 := 0) (g := fun k j => impl_elOk.l0 k deep z.f5 z.f5.length (j : Int) z.f0 z.f1 z.f2 z.f3 z.f4 z.f5) (e := false) (ok := fun j => ((F j).2 = true ∧ ((F j).1 : Int) ≤ deep - 1) ∧ ¬ Beside z.f5 j) (Nat.zero_le _)
   (fun j _ hj _ hok r hr => by
    have e := (hF j hj).2.2.2.2 (deep - 1) (by omega) (by omega)
    rw [← w64 (i := deep - 1) (by omega) (by omega), hok.1.1, Bool.true_and, decide_eq_true (by rw [w64 (by omega) (by omega)]; exact hok.1.2)] at e
    refine Ev.step (fun k => hI deep k j hj) (Ev.bind e (Ev.ite_pos rfl ?_))
    by_cases c : 0 < j ∧ z.f5[j].f0 = 2
    ·exact Ev.ite_pos c (Ev.ite_neg (fun q => hok.2 ⟨c.1, by rw [hrd j hj]; exact c.2, q⟩) hr)
    ·exact Ev.ite_neg c hr)
   (fun j _ hj _ hok => by
    have e := (hF j hj).2.2.2.2 (deep - 1) (by omega) (by omega)
    refine Ev.step (fun k => hI deep k j hj) ?_
    rw [w64 (i := deep - 1) (by omega) (by omega)]
    refine Ev.bind e ?_
    by_cases c1 : ((F j).2 && decide (((F j).1 : Int) ≤ deep - 1)) = true
    ·rw [Bool.and_eq_true, decide_eq_true_iff] at c1
     have hb : Beside z.f5 j := Classical.byContradiction fun q => hok ⟨c1, q⟩
     have hb2 := hb.2.1
     rw [hrd j hj] at hb2
     exact Ev.ite_pos (by rw [Bool.and_eq_true, decide_eq_true_iff]; exact c1) (Ev.ite_pos ⟨hb.1, hb2⟩ (Ev.ite_pos hb.2.2 (Ev.now _)))
    ·exact Ev.ite_neg c1 (Ev.now _))
  obtain ⟨nb, en1, en2⟩ := NameOk_same z.f2 hs2
  obtain ⟨tb, et1, et2⟩ := TextOk_same z.f4 hs4
  obtain ⟨ob, eo1, eo2⟩ := NoteOk_same z.f4 hs4
  obtain ⟨ab, ea1, ea2⟩ := strictAttrs_same z.f3 hl3 hg3
  have hD : top F z.f5.length + 1 ≤ m + 1 := by have := htm z.f5.length (Nat.le_refl _); omega
  have hlow : ∀ (b : Bool) (deep : Int), deep < 1 → (b && decide (((top F z.f5.length + 1 : Nat) : Int) ≤ deep)) = false := fun b deep h => by rw [decide_eq_false (by omega), Bool.and_false]
  have iLow : ∀ (deep : Int), deep < 1 → Ev (fun k => impl_elOk.f k z.f0 z.f1 z.f2 z.f3 z.f4 z.f5 deep) false := fun deep h => Ev.here fun k => by simp only [impl_elOk.f]; rw [if_pos h]
  by_cases c1 : z.f0 = 1
  ·-- a tag
   have tail : Ev (fun k => spec_l15El.l0 k (z.f5.length : Int) z.f0 z.f1 z.f2 z.f3 z.f4 z.f5) (decide (0 ≤ z.f1 ∧ z.f1 ≤ 2) && nb && ab && (z.f4.toList == ([] : List UInt8))) := by
    have hj : ∀ x : Bool, Ev (fun k => spec_l15El.j1 k x z.f0 z.f1 z.f2 z.f3 z.f4 z.f5) (decide (0 ≤ z.f1 ∧ z.f1 ≤ 2) && nb && ab && (z.f4.toList == ([] : List UInt8))) := fun x => by
     refine Ev.step (fun k => by simp only [spec_l15El.j1]; rw [if_pos c1]) (Ev.opt (Sg.l1In_eq z.f1 0 2) ?_)
     cases decide (0 ≤ z.f1 ∧ z.f1 ≤ 2) with
     | false => exact Ev.ite_neg Bool.false_ne_true (Ev.const fun _ => by simp)
     | true =>
      refine Ev.ite_pos rfl (Ev.bind en1 ?_)
      cases nb with
      | false => exact Ev.ite_neg Bool.false_ne_true (Ev.const fun _ => by simp)
      | true =>
       refine Ev.ite_pos rfl (Ev.bind ea1 ?_)
       cases ab with
       | false => exact Ev.ite_neg Bool.false_ne_true (Ev.const fun _ => by simp)
       | true => exact Ev.ite_pos rfl (Ev.const fun _ => by simp)
    have : ∃ x : Bool, ∀ k, spec_l15El.l0 (k + 1) (z.f5.length : Int) z.f0 z.f1 z.f2 z.f3 z.f4 z.f5 = spec_l15El.j1 k x z.f0 z.f1 z.f2 z.f3 z.f4 z.f5 := by
     by_cases q1 : z.f1 = 0
     ·by_cases q2 : z.f2.toList = []
      ·by_cases q3 : (z.f3.length : Int) = 0
       ·exact ⟨_, fun k => by simp only [spec_l15El.l0]; rw [if_neg (by omega), if_pos q1, if_pos q2, if_pos q3]⟩
       ·exact ⟨_, fun k => by simp only [spec_l15El.l0]; rw [if_neg (by omega), if_pos q1, if_pos q2, if_neg q3]⟩
      ·exact ⟨_, fun k => by simp only [spec_l15El.l0]; rw [if_neg (by omega), if_pos q1, if_neg q2]⟩
     ·exact ⟨_, fun k => by simp only [spec_l15El.l0]; rw [if_neg (by omega), if_neg q1]⟩
    obtain ⟨x, hx⟩ := this
    exact Ev.step hx (hj x)
   have iTag : ∀ deep : Int, 1 ≤ deep → ∀ r, (decide (0 ≤ z.f1 ∧ z.f1 ≤ 2) && nb && ab && (z.f4.toList == ([] : List UInt8))) = true → Ev (fun k => impl_elOk.l0 k deep z.f5 z.f5.length 0 z.f0 z.f1 z.f2 z.f3 z.f4 z.f5) r → Ev (fun k => impl_elOk.f k z.f0 z.f1 z.f2 z.f3 z.f4 z.f5 deep) r := fun deep hd r hc hr => by
    simp only [Bool.and_eq_true, beq_iff_eq] at hc
    obtain ⟨⟨⟨q1, q2⟩, q3⟩, q4⟩ := hc
    subst q2 q3
    have hj : Ev (fun k => impl_elOk.j1 k deep false z.f0 z.f1 z.f2 z.f3 z.f4 z.f5) r := Ev.step (fun k => by simp only [impl_elOk.j1]; rw [if_neg Bool.false_ne_true]) hr
    refine Ev.step (fun k => by simp only [impl_elOk.f]; rw [if_neg (by omega), if_pos c1]) (Ev.opt (Sg.inRange_eq z.f1 0 2) (Ev.ite_pos q1 (Ev.bind en2 (Ev.ite_pos rfl (Ev.bind ea2 (Ev.ite_pos rfl ?_))))))
    rw [show (z.f4.toList != ([] : List UInt8)) = false from by rw [q4]; rfl]
    exact hj
   have iTagNo : ∀ deep : Int, 1 ≤ deep → ¬ (decide (0 ≤ z.f1 ∧ z.f1 ≤ 2) && nb && ab && (z.f4.toList == ([] : List UInt8))) = true → Ev (fun k => impl_elOk.f k z.f0 z.f1 z.f2 z.f3 z.f4 z.f5 deep) false := fun deep hd hc => by
    have hj : Ev (fun k => impl_elOk.j1 k deep true z.f0 z.f1 z.f2 z.f3 z.f4 z.f5) false := Ev.here fun k => by simp only [impl_elOk.j1]; rw [if_pos True.intro]
    refine Ev.step (fun k => by simp only [impl_elOk.f]; rw [if_neg (by omega), if_pos c1]) (Ev.opt (Sg.inRange_eq z.f1 0 2) ?_)
    cases q1 : decide (0 ≤ z.f1 ∧ z.f1 ≤ 2) with
    | false => exact Ev.ite_neg Bool.false_ne_true hj
    | true =>
     rw [q1] at hc
     refine Ev.ite_pos rfl (Ev.bind en2 ?_)
     cases nb with
     | false => exact Ev.ite_neg Bool.false_ne_true hj
     | true =>
      refine Ev.ite_pos rfl (Ev.bind ea2 ?_)
      cases ab with
      | false => exact Ev.ite_neg Bool.false_ne_true hj
      | true =>
       refine Ev.ite_pos rfl ?_
       rw [show (z.f4.toList != ([] : List UInt8)) = true from by simpa using hc]
       exact hj
   have iEnd : ∀ deep : Int, Ev (fun k => impl_elOk.l0 k deep z.f5 z.f5.length (z.f5.length : Int) z.f0 z.f1 z.f2 z.f3 z.f4 z.f5) true := fun deep => Ev.here fun k => by simp only [impl_elOk.l0]; rw [if_neg (by omega)]
   by_cases ck : ∀ j, 0 ≤ j → j < z.f5.length → (F j).2 = true ∧ ¬ Beside z.f5 j
   ·refine ⟨top F z.f5.length + 1, (decide (0 ≤ z.f1 ∧ z.f1 ≤ 2) && nb && ab && (z.f4.toList == ([] : List UInt8))), by omega, hD, deepE, Ev.step (fun k => by simp only [spec_l15El.f]; rfl) (A.1 ck _ tail), fun deep hd0 hd1 => ?_⟩
    by_cases cl : deep < 1
    ·rw [hlow _ _ cl]; exact iLow deep cl
    by_cases cc : (decide (0 ≤ z.f1 ∧ z.f1 ≤ 2) && nb && ab && (z.f4.toList == ([] : List UInt8))) = true
    ·rw [cc, Bool.true_and]
     by_cases cd : ((top F z.f5.length + 1 : Nat) : Int) ≤ deep
     ·rw [decide_eq_true cd]
      refine iTag deep (by omega) true cc ((B deep (by omega) hd1).1 (fun j q1 q2 => ⟨⟨(ck j q1 q2).1, ?_⟩, (ck j q1 q2).2⟩) true (iEnd deep))
      have := (top_le F (deep - 1).toNat z.f5.length).mp (by omega) j q2
      omega
     ·rw [decide_eq_false cd]
      refine iTag deep (by omega) false cc ((B deep (by omega) hd1).2 fun hall => cd ?_)
      have := (top_le F (deep - 1).toNat z.f5.length).mpr fun j hj => by have := (hall j (Nat.zero_le _) hj).1.2; omega
      omega
    ·rw [Bool.eq_false_iff.mpr cc, Bool.false_and]
     exact iTagNo deep (by omega) cc
   ·refine ⟨top F z.f5.length + 1, false, by omega, hD, deepE, Ev.step (fun k => by simp only [spec_l15El.f]; rfl) (A.2 ck), fun deep hd0 hd1 => ?_⟩
    rw [Bool.false_and]
    by_cases cl : deep < 1
    ·exact iLow deep cl
    by_cases cc : (decide (0 ≤ z.f1 ∧ z.f1 ≤ 2) && nb && ab && (z.f4.toList == ([] : List UInt8))) = true
    ·exact iTag deep (by omega) false cc ((B deep (by omega) hd1).2 fun hall => ck fun j q1 q2 => ⟨(hall j q1 q2).1.1, (hall j q1 q2).2⟩)
    ·exact iTagNo deep (by omega) cc
  ·-- a text, a note, or neither
   have J0 : Ev (fun k => impl_elOk.j0 k true z.f0 z.f1 z.f2 z.f3 z.f4 z.f5) false := Ev.here fun k => by simp only [impl_elOk.j0]; rw [if_pos True.intro]
   have iOut : ∀ deep : Int, 1 ≤ deep → ¬ (z.f1 = 0 ∧ z.f2.toList = [] ∧ z.f3.length = 0 ∧ z.f5.length = 0) → Ev (fun k => impl_elOk.f k z.f0 z.f1 z.f2 z.f3 z.f4 z.f5 deep) false := fun deep hd hn => by
    by_cases q1 : z.f1 = 0
    ·by_cases q2 : z.f2.toList = []
     ·by_cases q3 : (z.f3.length : Int) > 0
      ·exact Ev.step (fun k => by simp only [impl_elOk.f]; rw [if_neg (by omega), if_neg c1, if_pos q1, if_pos q2, if_pos q3]) J0
      ·refine Ev.step (fun k => by simp only [impl_elOk.f]; rw [if_neg (by omega), if_neg c1, if_pos q1, if_pos q2, if_neg q3]) ?_
       rw [decide_eq_true (show (z.f5.length : Int) > 0 from by
        rcases Nat.eq_zero_or_pos z.f5.length with q | q
        ·exact absurd ⟨q1, q2, by omega, q⟩ hn
        ·omega)]
       exact J0
     ·exact Ev.step (fun k => by simp only [impl_elOk.f]; rw [if_neg (by omega), if_neg c1, if_pos q1, if_neg q2]) J0
    ·exact Ev.step (fun k => by simp only [impl_elOk.f]; rw [if_neg (by omega), if_neg c1, if_neg q1]) J0
   have sOut : ¬ (z.f1 = 0 ∧ z.f2.toList = [] ∧ z.f3.length = 0 ∧ z.f5.length = 0) → Ev (fun k => spec_l15El.l0 k (z.f5.length : Int) z.f0 z.f1 z.f2 z.f3 z.f4 z.f5) false := fun hn => by
    have hj : Ev (fun k => spec_l15El.j1 k false z.f0 z.f1 z.f2 z.f3 z.f4 z.f5) false := Ev.here fun k => by
     simp only [spec_l15El.j1]; rw [if_neg c1]
     by_cases q : z.f0 = 2
     ·rw [if_pos q, if_neg Bool.false_ne_true]
     ·rw [if_neg q]
      by_cases q2 : z.f0 = 3
      ·rw [if_pos q2, if_neg Bool.false_ne_true]
      ·rw [if_neg q2]
    by_cases q1 : z.f1 = 0
    ·by_cases q2 : z.f2.toList = []
     ·by_cases q3 : (z.f3.length : Int) = 0
      ·refine Ev.step (fun k => by simp only [spec_l15El.l0]; rw [if_neg (by omega), if_pos q1, if_pos q2, if_pos q3]) ?_
       rw [show ((z.f5.length : Int) == 0) = false from by
        rw [beq_eq_false_iff_ne]
        intro q
        exact hn ⟨q1, q2, by omega, by omega⟩]
       exact hj
      ·exact Ev.step (fun k => by simp only [spec_l15El.l0]; rw [if_neg (by omega), if_pos q1, if_pos q2, if_neg q3]) hj
     ·exact Ev.step (fun k => by simp only [spec_l15El.l0]; rw [if_neg (by omega), if_pos q1, if_neg q2]) hj
    ·exact Ev.step (fun k => by simp only [spec_l15El.l0]; rw [if_neg (by omega), if_neg q1]) hj
   by_cases cp : z.f1 = 0 ∧ z.f2.toList = [] ∧ z.f3.length = 0 ∧ z.f5.length = 0
   ·obtain ⟨q1, q2, q3, q5⟩ := cp
    have hv : ∃ v : Bool, Ev (fun k => spec_l15El.j1 k true z.f0 z.f1 z.f2 z.f3 z.f4 z.f5) v ∧ Ev (fun k => impl_elOk.j0 k false z.f0 z.f1 z.f2 z.f3 z.f4 z.f5) v := by
     by_cases k2 : z.f0 = 2
     ·by_cases k4 : z.f4.toList = []
      ·exact ⟨false, Ev.here fun k => by simp only [spec_l15El.j1]; rw [if_neg c1, if_pos k2, if_pos True.intro, if_pos k4], Ev.here fun k => by simp only [impl_elOk.j0]; rw [if_neg Bool.false_ne_true, if_pos k2, if_pos k4, if_neg (by omega)]⟩
      ·refine ⟨tb, Ev.step (fun k => by simp only [spec_l15El.j1]; rw [if_neg c1, if_pos k2, if_pos True.intro, if_neg k4]) (Ev.bind et1 (Ev.now _)), Ev.step (fun k => by simp only [impl_elOk.j0]; rw [if_neg Bool.false_ne_true, if_pos k2, if_neg k4]) (Ev.bind et2 ?_)⟩
       cases tb with
       | true => exact Ev.ite_pos rfl (Ev.now _)
       | false => exact Ev.ite_neg Bool.false_ne_true (Ev.ite_neg (by omega) (Ev.now _))
     ·by_cases k3 : z.f0 = 3
      ·exact ⟨ob, Ev.step (fun k => by simp only [spec_l15El.j1]; rw [if_neg c1, if_neg k2, if_pos k3, if_pos True.intro]) (Ev.bind eo1 (Ev.now _)), Ev.step (fun k => by simp only [impl_elOk.j0]; rw [if_neg Bool.false_ne_true, if_neg k2, if_pos k3]) (Ev.bind eo2 (Ev.now _))⟩
      ·exact ⟨false, Ev.here fun k => by simp only [spec_l15El.j1]; rw [if_neg c1, if_neg k2, if_neg k3], Ev.here fun k => by simp only [impl_elOk.j0]; rw [if_neg Bool.false_ne_true, if_neg k2, if_neg k3]⟩
    obtain ⟨v, v1, v2⟩ := hv
    have ht0 : top F z.f5.length = 0 := by rw [q5]; rfl
    refine ⟨top F z.f5.length + 1, v, by omega, hD, deepE, Ev.step (fun k => by simp only [spec_l15El.f]; rfl) (A.1 (fun j _ h => by omega) _ (Ev.step (fun k => by simp only [spec_l15El.l0]; rw [if_neg (by omega), if_pos q1, if_pos q2, if_pos (by omega)]) (by
     rw [show ((z.f5.length : Int) == 0) = true from by rw [beq_iff_eq]; omega]; exact v1))), fun deep hd0 hd1 => ?_⟩
    by_cases cl : deep < 1
    ·rw [hlow _ _ cl]; exact iLow deep cl
    rw [decide_eq_true (by omega), Bool.and_true]
    refine Ev.step (fun k => by simp only [impl_elOk.f]; rw [if_neg cl, if_neg c1, if_pos q1, if_pos q2, if_neg (by omega)]) ?_
    rw [decide_eq_false (by omega)]
    exact v2
   ·refine ⟨top F z.f5.length + 1, false, by omega, hD, deepE, Ev.step (fun k => by simp only [spec_l15El.f]; rfl) ?_, fun deep hd0 hd1 => ?_⟩
    ·by_cases ck : ∀ j, 0 ≤ j → j < z.f5.length → (F j).2 = true ∧ ¬ Beside z.f5 j
     ·exact A.1 ck _ (sOut cp)
     ·exact A.2 ck
    ·rw [Bool.false_and]
     by_cases cl : deep < 1
     ·exact iLow deep cl
     ·exact iOut deep (by omega) cp
theorem ElOk_same (m : Nat) (z : S31) (hz : G31 1048576 m z) (hm : m ≤ 1048577) : ∃ b : Bool, Ev (fun k => spec_ElOk.f k z.f0 z.f1 z.f2 z.f3 z.f4 z.f5) b ∧ Ev (fun k => impl_ElOk.f k z.f0 z.f1 z.f2 z.f3 z.f4 z.f5) b := by
 obtain ⟨D, b, _, _, e1, e2, e3⟩ := ElOk_main m z hz hm
 unfold spec_ElOk.f impl_ElOk.f
 refine ⟨b && decide ((D : Int) ≤ 60), Ev.bind e1 ?_, Ev.bind (e3 60 (by omega) (by omega)) (Ev.now _)⟩
 by_cases c : (D : Int) ≤ 60
 ·rw [decide_eq_true c, Bool.and_true]; exact Ev.ite_pos c (Ev.bind e2 (Ev.now _))
 ·rw [decide_eq_false c, Bool.and_false]; exact Ev.ite_neg c (Ev.now _)
end Go.Proofs.YthpdpnpojgegiaaGreatDoor.Le
