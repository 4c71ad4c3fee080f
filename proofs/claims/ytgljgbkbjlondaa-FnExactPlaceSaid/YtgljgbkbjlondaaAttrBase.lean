/- Lists of attributes as the laws' own code goes over them: counting, copying, comparing: each ends, and what it tells. No conditions but the sizes that the row gives. -/
import Derived.Test.YtgljgbkbjlondaaEvBase
import Derived.Test.YtgljgbkbjlondaaPl1
import Derived.Test.YtgljgbkbjlondaaPl16
import Derived.Test.YtgljgbkbjlondaaPl7
set_option linter.unusedVariables false
set_option linter.unusedSimpArgs false
namespace Go.Proofs.Ytgljgbkbjlondaa.It
open Go.RowKit Go.Proofs.Ytgljgbkbjlondaa.P Go.Proofs.Ytgljgbkbjlondaa.Evs Go.Proofs.YtgljgbkbjlondaaW.PrintWords Go.Proofs.YtgljgbkbjlondaaW.PrintLast

/-! ### attributes -/
theorem szAttr_tells (n v : ByteArray) (left : Int) (hn : n.size ≤ maxLen) (hv : v.size ≤ maxLen) (h0 : 0 ≤ left) (h1 : left ≤ 1048576) :
  ∃ t, laws_szAttr.f n v left = some t ∧ -1 ≤ t ∧ t ≤ left ∧ (0 ≤ t → n.size ≤ 1048576 ∧ v.size ≤ 1048576) := by
 unfold maxLen at hn hv
 unfold laws_szAttr.f
 rw [w64 (i := left - (n.size : Int)) (by omega) (by omega)]
 by_cases c : left - (n.size : Int) < 0
 ·rw [if_pos c]; exact ⟨-1, rfl, by omega, by omega, by omega⟩
 ·rw [if_neg c, w64 (i := left - (n.size : Int) - (v.size : Int)) (by omega) (by omega)]
  by_cases c2 : left - (n.size : Int) - (v.size : Int) < 0
  ·rw [if_pos c2]; exact ⟨-1, rfl, by omega, by omega, by omega⟩
  ·rw [if_neg c2]; exact ⟨_, rfl, by omega, by omega, by omega⟩

theorem szAttrS_loop (xs : List S82) (m : Nat) (hlen : xs.length ≤ 1048576) (hx : ∀ y ∈ xs, G82 maxLen m y) : ∀ (d i : Nat) (left : Int), xs.length - i = d → i ≤ xs.length → 0 ≤ left → left ≤ 1048576 →
  ∃ t, Ev (fun k => laws_szAttrS.l0 k xs left i) t ∧ -1 ≤ t ∧ t ≤ left ∧ (0 ≤ t → ∀ j, i ≤ j → ∀ h : j < xs.length, G82 1048576 m xs[j]) := by
 intro d
 induction d with
 | zero =>
  intro i left hd hi h0 h1
  refine ⟨left, Ev.here fun k => ?_, by omega, by omega, fun _ j hj hjl => by omega⟩
  simp only [laws_szAttrS.l0]; rw [if_neg (by omega)]
 | succ d ih =>
  intro i left hd hi h0 h1
  have hil : i < xs.length := by omega
  obtain ⟨hn, hv⟩ := hx xs[i] (List.getElem_mem hil)
  obtain ⟨t, e, t0, t1, tq⟩ := szAttr_tells xs[i].f0 xs[i].f1 left hn hv h0 h1
  have hrd : rd_T82 xs (i : Int) = xs[i] := rdT xs _ i hil
  by_cases c : t < 0
  ·refine ⟨-1, Ev.here fun k => ?_, by omega, by omega, by omega⟩
   simp only [laws_szAttrS.l0]; rw [if_pos (by omega), if_pos (by omega), hrd, e]; simp only [Option.bind_some]; rw [if_pos c]
  ·obtain ⟨u, ev, u0, u1, uq⟩ := ih (i + 1) t (by omega) (by omega) (by omega) (by omega)
   refine ⟨u, Ev.step (f := fun k => laws_szAttrS.l0 k xs t ((i + 1 : Nat) : Int)) (fun k => ?_) ev, by omega, by omega, fun hu j hj hjl => ?_⟩
   ·simp only [laws_szAttrS.l0]; rw [if_pos (by omega), if_pos (by omega), hrd, e]; simp only [Option.bind_some]; rw [if_neg c, w64 (i := (i : Int) + 1) (by omega) (by omega)]; rfl
   ·rcases Nat.lt_or_ge i j with hij | hij
    ·exact uq hu j hij hjl
    ·obtain rfl : i = j := by omega
     exact tq (by omega)

theorem szAttrS_tells (xs : List S82) (m : Nat) (left : Int) (hlen : xs.length ≤ maxLen) (hx : ∀ y ∈ xs, G82 maxLen m y) (h0 : 0 ≤ left) (h1 : left ≤ 1048576) :
  ∃ t, Ev (fun k => laws_szAttrS.f k xs left) t ∧ -1 ≤ t ∧ t ≤ left ∧ (0 ≤ t → xs.length ≤ 1048576 ∧ ∀ y ∈ xs, G82 1048576 m y) := by
 unfold maxLen at hlen
 unfold laws_szAttrS.f
 rw [w64 (i := left - (xs.length : Int)) (by omega) (by omega)]
 by_cases c : left - (xs.length : Int) < 0
 ·exact ⟨-1, Ev.ite_pos c (Ev.const fun _ => rfl), by omega, by omega, by omega⟩
 ·obtain ⟨t, ev, t0, t1, tq⟩ := szAttrS_loop xs m (by omega) hx xs.length 0 (left - (xs.length : Int)) (by omega) (by omega) (by omega) (by omega)
  refine ⟨t, Ev.ite_neg c ev, by omega, by omega, fun ht => ⟨by omega, fun y hy => ?_⟩⟩
  obtain ⟨i, hi, rfl⟩ := List.getElem_of_mem hy
  exact tq ht i (by omega) hi

/-- A copied attribute. -/
def toA (x : S82) : S71 := ⟨x.f0, x.f1⟩
theorem toAttrS_loop (xs : List S82) (hlen : xs.length ≤ 1048576) : ∀ (d i : Nat) (out : List S71), xs.length - i = d → i ≤ xs.length → out.length = xs.length → (∀ j, j < i → out[j]? = (xs.map toA)[j]?) →
  Ev (fun k => laws_toAttrS.l0 k xs out i) (xs.map toA) := by
 intro d
 induction d with
 | zero =>
  intro i out hd hi ho hj
  have : out = xs.map toA := by
   apply List.ext_getElem?
   intro j
   rcases Nat.lt_or_ge j i with h | h
   ·exact hj j h
   ·rw [List.getElem?_eq_none (by omega), List.getElem?_eq_none (by simp; omega)]
  rw [← this]
  refine Ev.here fun k => ?_
  simp only [laws_toAttrS.l0]; rw [if_neg (by omega)]
 | succ d ih =>
  intro i out hd hi ho hj
  have hil : i < xs.length := by omega
  have hrd : rd_T82 xs (i : Int) = xs[i] := rdT xs _ i hil
  refine Ev.step (f := fun k => laws_toAttrS.l0 k xs (out.set i (toA xs[i])) ((i + 1 : Nat) : Int)) (fun k => ?_) (ih (i + 1) (out.set i (toA xs[i])) (by omega) (by omega) (by simpa using ho) fun j hji => ?_)
  ·simp only [laws_toAttrS.l0]; rw [if_pos (by omega), if_pos (by omega), hrd]; simp only [laws_toAttr.f, Option.bind_some]; rw [if_pos (by omega), w64 (i := (i : Int) + 1) (by omega) (by omega), Int.toNat_natCast]; rfl
  ·rw [List.getElem?_set]
   by_cases e : i = j
   ·subst e; rw [if_pos rfl, if_pos (by omega)]; simp [List.getElem?_eq_getElem hil]
   ·rw [if_neg e]; exact hj j (by omega)
theorem toAttrS_tells (xs : List S82) (hlen : xs.length ≤ 1048576) : Ev (fun k => laws_toAttrS.f k xs) (xs.map toA) := by
 unfold laws_toAttrS.f
 refine Ev.ite_pos (by omega) (Ev.ite_pos (by omega) ?_)
 rw [Int.toNat_natCast]
 exact toAttrS_loop xs hlen xs.length 0 _ (by omega) (by omega) (by simp) (fun j hj => by omega)

theorem eqAttrS_loop (xs : List S71) (hlen : xs.length ≤ 4611686018427387904) : ∀ (d i : Nat), xs.length - i = d → i ≤ xs.length → Ev (fun k => laws_eqAttrS.l0 k xs xs i) true := by
 intro d
 induction d with
 | zero =>
  intro i hd hi
  refine Ev.here fun k => ?_
  simp only [laws_eqAttrS.l0]; rw [if_neg (by omega)]
 | succ d ih =>
  intro i hd hi
  refine Ev.step (f := fun k => laws_eqAttrS.l0 k xs xs ((i + 1 : Nat) : Int)) (fun k => ?_) (ih (i + 1) (by omega) (by omega))
  simp only [laws_eqAttrS.l0]; rw [if_pos (by omega), if_pos (by omega), if_pos (by omega)]; simp only [laws_eqAttr.f, if_true, Option.bind_some]; rw [w64 (i := (i : Int) + 1) (by omega) (by omega)]; rfl
theorem eqAttrS_self (xs : List S71) (hlen : xs.length ≤ 4611686018427387904) : Ev (fun k => laws_eqAttrS.f k xs xs) true := by
 unfold laws_eqAttrS.f
 exact Ev.ite_pos rfl (eqAttrS_loop xs hlen xs.length 0 (by omega) (by omega))

end Go.Proofs.Ytgljgbkbjlondaa.It
