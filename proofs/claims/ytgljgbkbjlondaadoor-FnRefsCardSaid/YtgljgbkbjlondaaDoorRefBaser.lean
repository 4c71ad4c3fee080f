/- References by name and by number: what stands at a place of a text, over plain lists; the parts of the program's Ref and of the reference's tell it. No conditions but the sizes. -/
import Derived.Test.YtgljgbkbjlondaaDoorPutBaser
import Derived.Test.YtgljgbkbjlondaaDoorLoopBaser
import Derived.Lib.IndexMore
import Derived.Lib.IndexBytes
import Derived.Lib.LazyBuf
import Derived.Test.YtgljgbkbjlondaaDoorPr1
import Derived.Test.YtgljgbkbjlondaaDoorPr13
import Derived.Test.YtgljgbkbjlondaaDoorPr14
import Derived.Test.YtgljgbkbjlondaaDoorPr15
import Derived.Test.YtgljgbkbjlondaaDoorPr2
import Derived.Test.YtgljgbkbjlondaaDoorPr3
import Derived.Test.YtgljgbkbjlondaaDoorPr4
import Derived.Test.YtgljgbkbjlondaaDoorPr5
import Derived.Test.YtgljgbkbjlondaaDoorPr6
set_option linter.unusedVariables false
set_option linter.unusedSimpArgs false
namespace Go.Proofs.YtgljgbkbjlondaaDoor.Rf
open Go Go.RowKit Go.Proofs.YtgljgbkbjlondaaDoor.P Go.Proofs.YtgljgbkbjlondaaDoor.Evs Go.Proofs.YtgljgbkbjlondaaDoorW.PrintWords Go.Proofs.YtgljgbkbjlondaaDoorW.PrintLast

theorem Ev.of_mono {α : Type} {g : Nat → Option α} (hm : ∀ k, LeO (g k) (g (k + 1))) {K : Nat} {r : α} (h : g K = some r) : Ev g r := by
 refine ⟨K, fun k hk => ?_⟩
 obtain ⟨d, rfl⟩ : ∃ d, k = K + d := ⟨k - K, by omega⟩
 clear hk
 induction d with
 | zero => exact h
 | succ d ih => exact hm _ _ ih

/-! ### bytes of a text -/
theorem bt_list (s : ByteArray) (j : Nat) (h : j < s.data.toList.length) : bt s (j : Int) = ((s.data.toList[j]).toNat : Int) := by
 have h' : j < s.size := h
 unfold bt
 rw [Int.toNat_natCast, dif_pos h']
 rfl
theorem bt_byte (s : ByteArray) (j : Nat) (h : j < s.size) : ∃ b : UInt8, s.data.toList.drop j = b :: s.data.toList.drop (j + 1) ∧ bt s (j : Int) = (b.toNat : Int) :=
 ⟨s.data.toList[j]'h, List.drop_eq_getElem_cons h, bt_list s j h⟩
theorem drop_end (s : ByteArray) (j : Nat) (h : s.size ≤ j) : s.data.toList.drop j = [] := List.drop_eq_nil_of_le h
theorem byte_eq (b : UInt8) (n : Nat) (h : n < 256) : ((b.toNat : Int) = (n : Int)) ↔ b = UInt8.ofNat n := by
 constructor
 ·intro e
  have e2 : b.toNat = n := Int.ofNat_inj.mp e
  rw [← e2, UInt8.ofNat_toNat]
 ·intro e
  rw [e]
  have : (UInt8.ofNat n).toNat = n := by rw [UInt8.toNat_ofNat']; exact Nat.mod_eq_of_lt h
  rw [this]
/-- A byte at a place, as the list has it. -/
theorem head_iff (s : ByteArray) (j : Nat) (n : Nat) (hn : n < 256) (h : j < s.size) : bt s (j : Int) = (n : Int) ↔ (s.data.toList.drop j).head? = some (UInt8.ofNat n) := by
 obtain ⟨b, e1, e2⟩ := bt_byte s j h
 rw [e1, e2, byte_eq b n hn, List.head?_cons, Option.some.injEq]
theorem all_bytes {p : UInt8 → Prop} (h : ∀ n : Nat, n < 256 → p (UInt8.ofNat n)) (b : UInt8) : p b := by
 have := h b.toNat b.toNat_lt
 rwa [UInt8.ofNat_toNat] at this

/-! ### digits, letters -/
def dg (hex : Bool) (b : UInt8) : Int := if 48 ≤ b.toNat ∧ b.toNat ≤ 57 then (b.toNat : Int) - 48 else if hex = true then (if 97 ≤ b.toNat ∧ b.toNat ≤ 102 then (b.toNat : Int) - 87 else if 65 ≤ b.toNat ∧ b.toNat ≤ 70 then (b.toNat : Int) - 55 else -1) else -1
def bs (hex : Bool) : Int := if hex = true then 16 else 10
theorem dg_impl_at (hex : Bool) : ∀ b : UInt8, impl_digitOf.f 3 (b.toNat : Int) (bs hex) = some (dg hex b) := by
 cases hex with
 | true => exact all_bytes (by decide +kernel)
 | false => exact all_bytes (by decide +kernel)
theorem dg_impl (hex : Bool) (b : UInt8) : Ev (fun k => impl_digitOf.f k (b.toNat : Int) (bs hex)) (dg hex b) := Ev.of_mono (fun k => impl_digitOf.mono _ _ k) (dg_impl_at hex b)
theorem dg_spec_at (hex : Bool) : ∀ b : UInt8, spec_l3Digit.f 2 (b.toNat : Int) hex = some (dg hex b) := by
 cases hex with
 | true => exact all_bytes (by decide +kernel)
 | false => exact all_bytes (by decide +kernel)
theorem dg_spec (hex : Bool) (b : UInt8) : Ev (fun k => spec_l3Digit.f k (b.toNat : Int) hex) (dg hex b) := Ev.of_mono (fun k => spec_l3Digit.mono _ _ k) (dg_spec_at hex b)
theorem dg_bound (hex : Bool) : ∀ b : UInt8, -1 ≤ dg hex b ∧ dg hex b ≤ 15 := by
 cases hex with
 | true => exact all_bytes (by decide +kernel)
 | false => exact all_bytes (by decide +kernel)
def lt (b : UInt8) : Bool := decide (97 ≤ b.toNat ∧ b.toNat ≤ 122) || decide (65 ≤ b.toNat ∧ b.toNat ≤ 90)
theorem lt_impl : ∀ b : UInt8, impl_IsLetter.f (wrap64 (b.toNat : Int)) = some (lt b) := all_bytes (by decide +kernel)
theorem lt_spec : ∀ b : UInt8, spec_IsLetter.f (wrap64 (b.toNat : Int)) = some (lt b) := all_bytes (by decide +kernel)
/-- What stands behind a name and makes it none in a value. -/
def aft : List UInt8 → Bool
 | [] => false
 | b :: _ => b == 61 || lt b || decide (0 ≤ dg false b)

/-! ### numbers -/
def numsL_ : List Int := [8364, 129, 8218, 402, 8222, 8230, 8224, 8225, 710, 8240, 352, 8249, 338, 141, 381, 143, 144, 8216, 8217, 8220, 8221, 8226, 8211, 8212, 732, 8482, 353, 8250, 339, 157, 382, 376]
def okS (a : Int) : Prop := (0 ≤ a ∧ a ≤ 1114111) ∧ ¬ (55296 ≤ a ∧ a ≤ 57343)
instance (a : Int) : Decidable (okS a) := by unfold okS; infer_instance
theorem ok_impl (n : Int) : impl_SignOk.f n = some (decide (okS n)) := (Sg.SignOk_tells n).trans (by congr)
def nb (n : Int) : Int := if 128 ≤ n ∧ n ≤ 159 then numsL_.getD (n - 128).toNat 0 else if n = 0 then 65533 else if okS n then n else 65533
theorem nb_impl (n : Int) : impl_Numbered.f n = some (nb n) := by
 unfold impl_Numbered.f nb
 rw [Sg.inRange_eq]
 simp only [Option.bind_some]
 by_cases c : 128 ≤ n ∧ n ≤ 159
 ·rw [if_pos (decide_eq_true c), if_pos c]
  rfl
 ·rw [if_neg (by simpa using c), if_neg c]
  by_cases c0 : n = 0
  ·rw [if_pos c0, if_pos c0]
  ·rw [if_neg c0, if_neg c0, ok_impl]
   simp only [Option.bind_some]
   by_cases c1 : okS n
   ·rw [if_pos (decide_eq_true c1), if_pos c1]
   ·rw [if_neg (by rw [decide_eq_false c1]; decide), if_neg c1]
theorem nb_spec (n : Int) : Ev (fun k => spec_Numbered.f k n) (nb n) := by
 have tail : ∀ q : Bool, q = (decide (n = 0) || !decide (okS n)) → Ev (fun k => spec_Numbered.j0 k n numsL_ q) (nb n) := fun q hq => by
  refine Ev.here fun k => ?_
  simp only [spec_Numbered.j0]
  unfold nb
  by_cases c : 128 ≤ n ∧ n ≤ 159
  ·have hw : wrap64 (n - 128) = n - 128 := w64 (by omega) (by omega)
   have hl : numsL_.length = 32 := rfl
   have hq2 : q = false := by
    rw [hq, decide_eq_false (show ¬ n = 0 by omega), decide_eq_true (show okS n from ⟨by omega, by omega⟩)]; rfl
   rw [if_neg (by rw [hq2]; decide), if_pos c, Sg.l1In_eq, decide_eq_true c]
   simp only [Option.bind_some, if_true, hw]
   rw [if_pos (by omega), if_pos (by omega)]
   rfl
  ·rw [if_neg c, Sg.l1In_eq, decide_eq_false c]
   by_cases c0 : n = 0
   ·rw [if_pos (by rw [hq, decide_eq_true c0]; rfl), if_pos c0]
   ·rw [if_neg c0]
    by_cases c1 : okS n
    ·rw [if_neg (by rw [hq, decide_eq_false c0, decide_eq_true c1]; decide), if_pos c1]
     simp only [Option.bind_some]
     rw [if_neg Bool.false_ne_true]
    ·rw [if_pos (by rw [hq, decide_eq_false c0, decide_eq_false c1]; rfl), if_neg c1]
 unfold spec_Numbered.f
 refine Ev.opt (a := numsL_) rfl ?_
 by_cases c0 : n = 0
 ·exact Ev.ite_pos c0 (tail true (by rw [decide_eq_true c0]; rfl))
 ·refine Ev.ite_neg c0 (Ev.opt (Sg.SignOk_tells n) (tail _ ?_))
  rw [decide_eq_false c0]; rfl
theorem nums_ok : ∀ m : Fin 32, okS (numsL_.getD m 0) := by decide +kernel
theorem nb_ok (n : Int) : okS (nb n) := by
 unfold nb
 split
 ·next c => exact nums_ok ⟨(n - 128).toNat, by omega⟩
 split
 ·exact ⟨by omega, by omega⟩
 split
 ·next c => exact c
 ·exact ⟨by omega, by omega⟩
noncomputable def ps (n : Int) : ByteArray := Classical.choose (Sg.PutSign_same n)
theorem ps_spec (n : Int) : Ev (fun k => spec_PutSign.f k n) (ps n) := (Classical.choose_spec (Sg.PutSign_same n)).1
theorem ps_impl (n : Int) : Ev (fun k => impl_PutSign.f k n) (ps n) := (Classical.choose_spec (Sg.PutSign_same n)).2.1
theorem ps_size (n : Int) : 1 ≤ (ps n).size ∧ (ps n).size ≤ 4 := (Classical.choose_spec (Sg.PutSign_same n)).2.2
theorem ps_small (n : Nat) (h : n < 128) : ps (n : Int) = ⟨#[UInt8.ofNat n]⟩ := by
 refine Ev.uniq (ps_impl n) ?_
 refine Ev.step (f := fun k => some (⟨#[UInt8.ofNat n]⟩ : ByteArray)) (fun k => ?_) (Ev.now _)
 have e : impl_SignOk.f (n : Int) = some true := by rw [Sg.SignOk_tells, decide_eq_true]; exact ⟨by omega, by omega⟩
 unfold impl_PutSign.f
 rw [e]
 rw [Option.bind_some, if_pos rfl]
 unfold impl_PutSign.j0
 dsimp only
 rw [if_pos (by omega)]
 have hm : (n : Int) % 256 = (n : Int) := by omega
 rw [hm]
 have := Lib.Lz.strOfNums_map [UInt8.ofNat n]
 have hn : ((UInt8.ofNat n).toNat : Int) = (n : Int) := by rw [UInt8.toNat_ofNat', Nat.mod_eq_of_lt (by omega)]
 simp only [List.map_cons, List.map_nil, hn] at this
 rw [this]

/-! ### a reference by number -/
def cap (n : Int) : Int := if n < 1114112 then n else 1114112
theorem cap_bound {n : Int} (h : 0 ≤ n) : 0 ≤ cap n ∧ cap n ≤ 1114112 := by unfold cap; split <;> omega
def numGo (hex : Bool) : List UInt8 → Int → Int × Nat
 | [], n => (n, 0)
 | b :: l, n => if 0 ≤ dg hex b then ((numGo hex l (cap (n * bs hex + dg hex b))).1, (numGo hex l (cap (n * bs hex + dg hex b))).2 + 1) else (n, 0)
theorem bs_bound (hex : Bool) : 10 ≤ bs hex ∧ bs hex ≤ 16 := by cases hex <;> decide
theorem mul_bound (hex : Bool) (n : Int) (h0 : 0 ≤ n) (h1 : n ≤ 1114112) : 0 ≤ n * bs hex ∧ n * bs hex ≤ 17825792 := by
 cases hex with
 | true => show 0 ≤ n * 16 ∧ n * 16 ≤ _; omega
 | false => show 0 ≤ n * 10 ∧ n * 10 ≤ _; omega
theorem numGo_le (hex : Bool) : ∀ (l : List UInt8) (n : Int), (numGo hex l n).2 ≤ l.length
 | [], _ => Nat.le_refl _
 | b :: l, n => by
  unfold numGo
  by_cases c : 0 ≤ dg hex b
  ·rw [if_pos c]; have := numGo_le hex l (cap (n * bs hex + dg hex b)); show _ + 1 ≤ l.length + 1; omega
  ·rw [if_neg c]; exact Nat.zero_le _
theorem num_impl (s : ByteArray) (hs : s.size ≤ 4194304) (hex : Bool) (at_ from_ : Int) : ∀ (d i : Nat) (n : Int), s.size - i = d → i ≤ s.size → 0 ≤ n → n ≤ 1114112 →
  ∀ r, Ev (fun k => impl_numberRef.j3 k s at_ from_ (numGo hex (s.data.toList.drop i) n).1 ((i + (numGo hex (s.data.toList.drop i) n).2 : Nat) : Int)) r → Ev (fun k => impl_numberRef.l0 k s at_ from_ (bs hex) n i) r := by
 intro d
 induction d with
 | zero =>
  intro i n hd hi h0 h1 r hr
  rw [drop_end s i (by omega)] at hr
  refine Ev.step (fun k => ?_) hr
  simp only [impl_numberRef.l0, numGo, Nat.add_zero]
  rw [if_neg (by omega)]
 | succ d ih =>
  intro i n hd hi h0 h1 r hr
  have hil : i < s.size := by omega
  obtain ⟨b, e1, e2⟩ := bt_byte s i hil
  have hw : wrap64 ((i : Int) + 1) = ((i + 1 : Nat) : Int) := succ64 (by omega)
  obtain ⟨m0, m1⟩ := mul_bound hex n h0 h1
  obtain ⟨d0, d1⟩ := dg_bound hex b
  have hstep : ∀ k, impl_numberRef.l0 (k + 1) s at_ from_ (bs hex) n i = (impl_digitOf.f k (b.toNat : Int) (bs hex)).bind fun t171 => (if t171 ≥ 0 then ((impl_digitOf.f k (b.toNat : Int) (bs hex)).bind fun t172 => (impl_numberRef.l0 k s at_ from_ (bs hex) (mn (wrap64 ((wrap64 (n * bs hex)) + t172)) 1114112) ((i + 1 : Nat) : Int))) else (impl_numberRef.j3 k s at_ from_ n i)) := fun k => by
   simp only [impl_numberRef.l0, e2, hw]
   rw [if_pos (by omega), if_pos (by omega)]
  rw [e1] at hr
  unfold numGo at hr
  by_cases c : 0 ≤ dg hex b
  ·rw [if_pos c] at hr
   have hc : mn (wrap64 ((wrap64 (n * bs hex)) + dg hex b)) 1114112 = cap (n * bs hex + dg hex b) := by
    rw [w64 (i := n * bs hex) (by omega) (by omega), w64 (by omega) (by omega)]
    unfold mn cap
    by_cases q : n * bs hex + dg hex b < 1114112
    ·rw [if_neg (by omega), if_pos q]
    ·rw [if_neg q]
     by_cases q2 : (1114112 : Int) < n * bs hex + dg hex b
     ·rw [if_pos q2]
     ·rw [if_neg q2]; omega
   obtain ⟨q0, q1⟩ := cap_bound (n := n * bs hex + dg hex b) (by omega)
   have h := ih (i + 1) (cap (n * bs hex + dg hex b)) (by omega) (by omega) q0 q1 r (by
    have ea : i + 1 + (numGo hex (s.data.toList.drop (i + 1)) (cap (n * bs hex + dg hex b))).2 = i + ((numGo hex (s.data.toList.drop (i + 1)) (cap (n * bs hex + dg hex b))).2 + 1) := by omega
    rw [ea]; exact hr)
   refine Ev.step hstep (Ev.bind (dg_impl hex b) (Ev.ite_pos c (Ev.bind (dg_impl hex b) ?_)))
   rw [hc]
   exact h
  ·rw [if_neg c] at hr
   exact Ev.step hstep (Ev.bind (dg_impl hex b) (Ev.ite_neg c hr))
theorem num_spec (s : ByteArray) (hs : s.size ≤ 4194304) (hex : Bool) (at_ from_ : Int) : ∀ (d i : Nat) (n : Int), s.size - i = d → i ≤ s.size → 0 ≤ n → n ≤ 1114112 →
  ∀ r, Ev (fun k => spec_l3Number.j3 k s at_ ((i + (numGo hex (s.data.toList.drop i) n).2 : Nat) : Int) hex (bs hex) from_ (numGo hex (s.data.toList.drop i) n).1 false) r → Ev (fun k => spec_l3Number.l0 k s at_ i hex (bs hex) from_ n) r := by
 intro d
 induction d with
 | zero =>
  intro i n hd hi h0 h1 r hr
  rw [drop_end s i (by omega)] at hr
  refine Ev.step (fun k => ?_) hr
  simp only [spec_l3Number.l0, numGo, Nat.add_zero]
  rw [if_neg (by omega)]
 | succ d ih =>
  intro i n hd hi h0 h1 r hr
  have hil : i < s.size := by omega
  obtain ⟨b, e1, e2⟩ := bt_byte s i hil
  have hw : wrap64 ((i : Int) + 1) = ((i + 1 : Nat) : Int) := succ64 (by omega)
  obtain ⟨m0, m1⟩ := mul_bound hex n h0 h1
  obtain ⟨d0, d1⟩ := dg_bound hex b
  have hstep : ∀ k, spec_l3Number.l0 (k + 1) s at_ i hex (bs hex) from_ n = (spec_l3Digit.f k (b.toNat : Int) hex).bind fun t246 => (spec_l3Number.j3 k s at_ i hex (bs hex) from_ n (decide (t246 ≥ 0))) := fun k => by
   simp only [spec_l3Number.l0, e2]
   rw [if_pos (by omega), if_pos (by omega)]
  have hstep2 : ∀ k, spec_l3Number.j3 (k + 1) s at_ i hex (bs hex) from_ n true = (spec_l3Digit.f k (b.toNat : Int) hex).bind fun t247 => ((spec_l1Min.f (wrap64 ((wrap64 (n * bs hex)) + t247)) 1114112).bind fun t248 => (spec_l3Number.l0 k s at_ ((i + 1 : Nat) : Int) hex (bs hex) from_ t248)) := fun k => by
   simp only [spec_l3Number.j3, e2, hw]
   rw [if_pos True.intro, if_pos (by omega), if_pos (by omega)]
  rw [e1] at hr
  unfold numGo at hr
  by_cases c : 0 ≤ dg hex b
  ·rw [if_pos c] at hr
   have hc : spec_l1Min.f (wrap64 ((wrap64 (n * bs hex)) + dg hex b)) 1114112 = some (cap (n * bs hex + dg hex b)) := by
    rw [w64 (i := n * bs hex) (by omega) (by omega), w64 (by omega) (by omega)]
    unfold spec_l1Min.f cap
    split <;> rfl
   obtain ⟨q0, q1⟩ := cap_bound (n := n * bs hex + dg hex b) (by omega)
   have h := ih (i + 1) (cap (n * bs hex + dg hex b)) (by omega) (by omega) q0 q1 r (by
    have ea : i + 1 + (numGo hex (s.data.toList.drop (i + 1)) (cap (n * bs hex + dg hex b))).2 = i + ((numGo hex (s.data.toList.drop (i + 1)) (cap (n * bs hex + dg hex b))).2 + 1) := by omega
    rw [ea]; exact hr)
   refine Ev.step hstep (Ev.bind (dg_spec hex b) ?_)
   rw [show decide (dg hex b ≥ 0) = true from decide_eq_true c]
   exact Ev.step hstep2 (Ev.bind (dg_spec hex b) (Ev.opt hc h))
  ·rw [if_neg c] at hr
   refine Ev.step hstep (Ev.bind (dg_spec hex b) ?_)
   rw [show decide (dg hex b ≥ 0) = false from decide_eq_false c]
   exact hr
end Go.Proofs.YtgljgbkbjlondaaDoor.Rf
