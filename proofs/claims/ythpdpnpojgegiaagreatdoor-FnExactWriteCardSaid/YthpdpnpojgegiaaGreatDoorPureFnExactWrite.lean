/- The program's Escape (one strings.ReplaceAll behind the other) and the reference's (one pass) tell the same text: the pure statement of the law FnExactEscape. No conditions but the row's. What is said of an element: the program (a Builder's text handed on) and the reference (texts put together) tell the same. No conditions but the sizes. The weight of an element (all its texts and rows, those of the elements in it too), and that what is said of it is not much longer. Plain lists. The weight of an element as the laws' own code counts it, and that a copy weighs the same. No conditions but the sizes that the row gives. How many an element is: the program's ElSize and the reference's tell the same number. No conditions but the sizes. A strict document: the program's DocOk and the reference's tell the same. No conditions but the sizes. A document written: the program's Write and the reference's tell the same text: the pure statement of the law FnExactWrite. No conditions but the row's. -/
import Derived.Test.YthpdpnpojgegiaaGreatDoorPuA
import Derived.Lib.ReplaceLaws
import Derived.Lib.IndexBytes
import Derived.Lib.LazyBuf
import Derived.Test.YthpdpnpojgegiaaGreatDoorPw1
import Derived.Test.YthpdpnpojgegiaaGreatDoorPw10
import Derived.Test.YthpdpnpojgegiaaGreatDoorPw38
import Derived.Test.YthpdpnpojgegiaaGreatDoorPw40
import Derived.Test.YthpdpnpojgegiaaGreatDoorPw43
import Derived.Test.YthpdpnpojgegiaaGreatDoorPw44
import Derived.Test.YthpdpnpojgegiaaGreatDoorPw45
import Derived.Test.YthpdpnpojgegiaaGreatDoorPw46
import Derived.Test.YthpdpnpojgegiaaGreatDoorPw47
import Derived.Test.YthpdpnpojgegiaaGreatDoorPw8
import Derived.Test.YthpdpnpojgegiaaGreatDoorPw9
set_option linter.unusedVariables false
set_option linter.unusedSimpArgs false
namespace Go.Proofs.YthpdpnpojgegiaaGreatDoor.Esc
open Go Go.RowKit Go.Proofs.YthpdpnpojgegiaaGreatDoor.P Go.Proofs.YthpdpnpojgegiaaGreatDoor.Evs Go.Proofs.YthpdpnpojgegiaaGreatDoorW.PrintWords Go.Proofs.YthpdpnpojgegiaaGreatDoorW.PrintLast

/-! ### strings.ReplaceAll of one byte -/
def one (c : UInt8) (new : List UInt8) (b : UInt8) : List UInt8 := if b = c then new else [b]
theorem skipK (c : UInt8) (new : List UInt8) (b : UInt8) (hb : b ≠ c) (l : List UInt8) : ∀ k, Lib.replaceK [c] new k (b :: l) = b :: Lib.replaceK [c] new k l := by
 intro k
 cases k with
 | zero => rfl
 | succ k =>
  have hi : Lib.index (b :: l) [c] = if Lib.index l [c] == -1 then -1 else Lib.index l [c] + 1 := by
   rw [Lib.index_one, Lib.index_one]
   rw [show Lib.indexByte (b :: l) c = (if (b == c) = true then 0 else if (Lib.indexByte l c == -1) = true then -1 else Lib.indexByte l c + 1) from rfl, if_neg (by simpa using hb)]
  rcases Lib.index_spec l [c] with ⟨h, _⟩ | ⟨i, h, _⟩
  ·have h2 : Lib.index (b :: l) [c] = -1 := by rw [hi, h]; rfl
   simp only [Lib.replaceK, h, h2]
   rfl
  ·have h2 : Lib.index (b :: l) [c] = ((i + 1 : Nat) : Int) := by
    rw [hi, h, if_neg (by rw [beq_iff_eq]; omega)]; rfl
   rw [Lib.replaceK_hit [c] new k (b :: l) (i + 1) h2, Lib.replaceK_hit [c] new k l i h]
   rfl
theorem replaceK_one (c : UInt8) (new : List UInt8) : ∀ l : List UInt8, Lib.replaceK [c] new (Lib.count l [c]) l = l.flatMap (one c new) := by
 intro l
 induction l with
 | nil => rfl
 | cons b l ih =>
  by_cases h : b = c
  ·subst h
   rw [Lib.count_cons_eq, Nat.add_comm 1, Lib.replaceK_hit [b] new _ (b :: l) 0 (by rw [Lib.index_one]; simp [Lib.indexByte])]
   show [] ++ new ++ Lib.replaceK [b] new (Lib.count l [b]) l = _
   rw [ih, List.flatMap_cons]
   simp [one]
  ·rw [Lib.count_cons_ne b c l h, skipK c new b h, ih, List.flatMap_cons]
   simp [one, h]
theorem one_self (c : UInt8) (l : List UInt8) : l.flatMap (one c [c]) = l := by
 induction l with
 | nil => rfl
 | cons b l ih =>
  rw [List.flatMap_cons, ih]
  unfold one
  by_cases h : b = c
  ·rw [if_pos h, h]; rfl
  ·rw [if_neg h]; rfl
theorem replaceAll_one (c : UInt8) (new l : List UInt8) : Lib.replaceAll l [c] new = l.flatMap (one c new) := by
 unfold Lib.replaceAll Lib.replace
 by_cases h : [c] = new
 ·rw [if_pos (by simpa using h), ← h, one_self]
 ·rw [if_neg (by simpa using h)]
  have e : Lib.replaceNum l [c] (-1) = Lib.count l [c] := by
   unfold Lib.replaceNum
   rw [if_pos (Or.inl (by decide))]
  rw [e, replaceK_one]
theorem flat_length (g : UInt8 → List UInt8) (hg : ∀ b, (g b).length ≤ 6) : ∀ l : List UInt8, (l.flatMap g).length ≤ 6 * l.length
 | [] => Nat.le_refl _
 | b :: l => by
  have h1 := flat_length g hg l
  have h2 := hg b
  rw [List.flatMap_cons, List.length_append, List.length_cons]; omega
theorem repl_step (l : List UInt8) (hl : l.length ≤ 1048576) (g : UInt8 → List UInt8) (hg : ∀ b, (g b).length ≤ 6) (c : UInt8) (new : ByteArray) :
  repl ⟨(l.flatMap g).toArray⟩ ⟨#[c]⟩ new = some ⟨(l.flatMap fun b => (g b).flatMap (one c new.data.toList)).toArray⟩ := by
 unfold repl replB
 have hs : (⟨(l.flatMap g).toArray⟩ : ByteArray).size = (l.flatMap g).length := rfl
 have := flat_length g hg l
 rw [if_pos (by rw [hs]; omega)]
 show some (⟨(Lib.replaceAll (l.flatMap g) [c] new.data.toList).toArray⟩ : ByteArray) = _
 rw [replaceAll_one, List.flatMap_assoc]
theorem all_bytes {p : UInt8 → Prop} (h : ∀ n : Nat, n < 256 → p (UInt8.ofNat n)) (b : UInt8) : p b := by
 have := h b.toNat b.toNat_lt
 rwa [UInt8.ofNat_toNat] at this

/-! ### the seven swaps -/
def amp : ByteArray := ⟨#[38, 97, 109, 112, 59]⟩
def lts : ByteArray := ⟨#[38, 108, 116, 59]⟩
def gts : ByteArray := ⟨#[38, 103, 116, 59]⟩
def ret : ByteArray := ⟨#[38, 35, 49, 51, 59]⟩
def quo : ByteArray := ⟨#[38, 113, 117, 111, 116, 59]⟩
def tab : ByteArray := ⟨#[38, 35, 57, 59]⟩
def lin : ByteArray := ⟨#[38, 35, 49, 48, 59]⟩
def g0 (b : UInt8) : List UInt8 := [b]
def g1 (b : UInt8) : List UInt8 := (g0 b).flatMap (one 38 amp.data.toList)
def g2 (b : UInt8) : List UInt8 := (g1 b).flatMap (one 60 lts.data.toList)
def g3 (b : UInt8) : List UInt8 := (g2 b).flatMap (one 62 gts.data.toList)
def g4 (b : UInt8) : List UInt8 := (g3 b).flatMap (one 13 ret.data.toList)
def g5 (b : UInt8) : List UInt8 := (g4 b).flatMap (one 34 quo.data.toList)
def g6 (b : UInt8) : List UInt8 := (g5 b).flatMap (one 9 tab.data.toList)
def g7 (b : UInt8) : List UInt8 := (g6 b).flatMap (one 10 lin.data.toList)
theorem l0 : ∀ b, (g0 b).length ≤ 6 := fun b => by show [b].length ≤ 6; simp
theorem l1 : ∀ b, (g1 b).length ≤ 6 := all_bytes (by decide +kernel)
theorem l2 : ∀ b, (g2 b).length ≤ 6 := all_bytes (by decide +kernel)
theorem l3 : ∀ b, (g3 b).length ≤ 6 := all_bytes (by decide +kernel)
theorem l4 : ∀ b, (g4 b).length ≤ 6 := all_bytes (by decide +kernel)
theorem l5 : ∀ b, (g5 b).length ≤ 6 := all_bytes (by decide +kernel)
theorem l6 : ∀ b, (g6 b).length ≤ 6 := all_bytes (by decide +kernel)
theorem flat_id (s : ByteArray) : s = ⟨(s.data.toList.flatMap g0).toArray⟩ := by
 have : s.data.toList.flatMap g0 = s.data.toList := by
  show s.data.toList.flatMap (fun b => [b]) = _
  rw [List.flatMap_singleton']
 rw [this]
theorem textSaid_tells (s : ByteArray) (hs : s.size ≤ 1048576) : impl_textSaid.f s = some ⟨(s.data.toList.flatMap g4).toArray⟩ := by
 have hl : s.data.toList.length ≤ 1048576 := hs
 have e : impl_escaped.f s = some ⟨(s.data.toList.flatMap g3).toArray⟩ := by
  unfold impl_escaped.f
  have e1 : repl s ⟨#[38]⟩ amp = some ⟨(s.data.toList.flatMap g1).toArray⟩ := by
   rw [show repl s ⟨#[38]⟩ amp = repl ⟨(s.data.toList.flatMap g0).toArray⟩ ⟨#[38]⟩ amp from congrArg (fun z => repl z _ _) (flat_id s)]
   exact repl_step _ hl g0 l0 38 amp
  have e2 : repl ⟨(s.data.toList.flatMap g1).toArray⟩ ⟨#[60]⟩ lts = some ⟨(s.data.toList.flatMap g2).toArray⟩ := repl_step _ hl g1 l1 60 lts
  have e3 : repl ⟨(s.data.toList.flatMap g2).toArray⟩ ⟨#[62]⟩ gts = some ⟨(s.data.toList.flatMap g3).toArray⟩ := repl_step _ hl g2 l2 62 gts
  show ((repl s ⟨#[38]⟩ amp).bind fun a => (repl a ⟨#[60]⟩ lts).bind fun b => repl b ⟨#[62]⟩ gts) = _
  rw [e1, Option.bind_some, e2, Option.bind_some, e3]
 unfold impl_textSaid.f
 rw [e, Option.bind_some]
 exact repl_step _ hl g3 l3 13 ret
theorem Escape_tells (s : ByteArray) (v : Bool) (hs : s.size ≤ 1048576) : impl_Escape.f s v = some ⟨(s.data.toList.flatMap (if v = true then g7 else g4)).toArray⟩ := by
 have hl : s.data.toList.length ≤ 1048576 := hs
 unfold impl_Escape.f
 rw [textSaid_tells s hs, Option.bind_some]
 cases v with
 | false => rfl
 | true =>
  have e1 : repl ⟨(s.data.toList.flatMap g4).toArray⟩ ⟨#[34]⟩ quo = some ⟨(s.data.toList.flatMap g5).toArray⟩ := repl_step _ hl g4 l4 34 quo
  have e2 : repl ⟨(s.data.toList.flatMap g5).toArray⟩ ⟨#[9]⟩ tab = some ⟨(s.data.toList.flatMap g6).toArray⟩ := repl_step _ hl g5 l5 9 tab
  have e3 : repl ⟨(s.data.toList.flatMap g6).toArray⟩ ⟨#[10]⟩ lin = some ⟨(s.data.toList.flatMap g7).toArray⟩ := repl_step _ hl g6 l6 10 lin
  show ((repl ⟨(s.data.toList.flatMap g4).toArray⟩ ⟨#[34]⟩ quo).bind fun b => (repl b ⟨#[9]⟩ tab).bind fun c => repl c ⟨#[10]⟩ lin) = _
  rw [e1, Option.bind_some, e2, Option.bind_some, e3]; rfl

/-! ### the reference's one pass -/
def fidx : List UInt8 → Nat → UInt8 → Int
 | [], _, _ => -1
 | x :: xs, j, b => if x = b then (j : Int) else fidx xs (j + 1) b
theorem bt_list (s : ByteArray) (j : Nat) (h : j < s.data.toList.length) : bt s (j : Int) = ((s.data.toList[j]).toNat : Int) := by
 have h' : j < s.size := h
 unfold bt
 rw [Int.toNat_natCast, dif_pos h']
 rfl
theorem Find_loop (w : ByteArray) (b : UInt8) (hw : w.size ≤ 1048576) : ∀ (d j : Nat), w.size - j = d → j ≤ w.size →
  Ev (fun k => spec_l4Find.l0 k w j (b.toNat : Int)) (fidx (w.data.toList.drop j) j b) := by
 intro d
 have hsz : w.data.toList.length = w.size := rfl
 induction d with
 | zero =>
  intro j hd hj
  rw [List.drop_eq_nil_of_le (by omega)]
  refine Ev.here fun k => ?_
  simp only [spec_l4Find.l0]; rw [if_neg (by omega)]; rfl
 | succ d ih =>
  intro j hd hj
  have hjl : j < w.data.toList.length := by omega
  rw [List.drop_eq_getElem_cons hjl]
  have hstep : ∀ k, spec_l4Find.l0 (k + 1) w j (b.toNat : Int) = if (w.data.toList[j]) = b then some (j : Int) else spec_l4Find.l0 k w ((j + 1 : Nat) : Int) (b.toNat : Int) := by
   intro k
   simp only [spec_l4Find.l0]
   rw [if_pos (by omega), if_pos (by omega), bt_list w j hjl, w64 (i := (j : Int) + 1) (by omega) (by omega)]
   by_cases c : w.data.toList[j] = b
   ·rw [if_pos c, if_pos (by rw [c])]
   ·rw [if_neg c, if_neg (fun e => c (UInt8.toNat_inj.mp (Int.ofNat_inj.mp e)))]; rfl
  unfold fidx
  by_cases c : w.data.toList[j] = b
  ·rw [if_pos c]; exact Ev.here fun k => by rw [hstep, if_pos c]
  ·rw [if_neg c]; exact Ev.step (fun k => by rw [hstep, if_neg c]) (ih (j + 1) (by omega) (by omega))
def swF (which : ByteArray) (wi : List ByteArray) (b : UInt8) : List UInt8 := if fidx which.data.toList 0 b < 0 then [b] else (rdOf ByteArray.empty wi (fidx which.data.toList 0 b)).data.toList
def ints (l : List UInt8) : List Int := l.map fun b => (b.toNat : Int)
set_option maxHeartbeats 2000000 in
theorem Swap_loop (s which : ByteArray) (wi : List ByteArray) (hs : s.size ≤ 1048576) (hw : which.size ≤ 1048576) (h1 : ∀ b, fidx which.data.toList 0 b < wi.length) (h2 : ∀ b, (swF which wi b).length ≤ 6) :
  ∀ (d j : Nat) (x : List Int), s.size - j = d → j ≤ s.size → x.length ≤ 6 * j →
  Ev (fun k => spec_l5Swap.l0 k s which wi x j) (strOfNums (x ++ ints ((s.data.toList.drop j).flatMap (swF which wi)))) := by
 intro d
 have hsz : s.data.toList.length = s.size := rfl
 induction d with
 | zero =>
  intro j x hd hj hx
  rw [List.drop_eq_nil_of_le (by omega)]
  refine Ev.here fun k => ?_
  simp only [spec_l5Swap.l0]; rw [if_neg (by omega)]; simp [ints]
 | succ d ih =>
  intro j x hd hj hx
  have hjl : j < s.data.toList.length := by omega
  have hA : (j : Int) < (s.size : Int) := Int.ofNat_lt.mpr hjl
  have hB : (0 : Int) ≤ (j : Int) := Int.natCast_nonneg j
  have hf := Find_loop which (s.data.toList[j]) hw which.size 0 (by omega) (by omega)
  rw [List.drop_zero] at hf
  replace hf : Ev (fun k => spec_l4Find.f k which 0 ((s.data.toList[j]).toNat : Int)) (fidx which.data.toList 0 (s.data.toList[j])) := hf
  have hb2 := h2 (s.data.toList[j])
  have hb1 := h1 (s.data.toList[j])
  have hih := ih (j + 1) (x ++ ints (swF which wi (s.data.toList[j]))) (by omega) (by omega) (by rw [List.length_append]; unfold ints; rw [List.length_map]; omega)
  have he : x ++ ints ((s.data.toList.drop j).flatMap (swF which wi)) = x ++ ints (swF which wi (s.data.toList[j])) ++ ints ((s.data.toList.drop (j + 1)).flatMap (swF which wi)) := by
   rw [List.drop_eq_getElem_cons hjl, List.flatMap_cons]
   simp [ints]
  rw [he]
  have hw1 : wrap64 ((j : Int) + 1) = ((j + 1 : Nat) : Int) := by rw [w64 (by omega) (by omega)]; rfl
  have hstep : ∀ k, spec_l5Swap.l0 (k + 1) s which wi x j = (spec_l4Find.f k which 0 ((s.data.toList[j]).toNat : Int)).bind fun t => if t < 0 then (if x.length < 140737488355328 then (spec_l5Swap.l0 k s which wi (x ++ [((s.data.toList[j]).toNat : Int)]) ((j + 1 : Nat) : Int)) else none) else (if 0 ≤ t then (if t < (wi.length : Int) then (if x.length + (bytesOf (rdOf ByteArray.empty wi t)).length < 140737488355328 then (spec_l5Swap.l0 k s which wi (x ++ (bytesOf (rdOf ByteArray.empty wi t))) ((j + 1 : Nat) : Int)) else none) else none) else none) := fun k => by
   have hbt := bt_list s j hjl
   generalize s.data.toList[j] = b at hbt
   simp only [spec_l5Swap.l0, hbt, hw1]
   rw [if_pos hA, if_pos hB]
  clear hw1
  refine Ev.step hstep (Ev.bind hf ?_)
  by_cases c : fidx which.data.toList 0 (s.data.toList[j]) < 0
  ·have e : ints (swF which wi (s.data.toList[j])) = [((s.data.toList[j]).toNat : Int)] := by unfold swF; rw [if_pos c]; rfl
   rw [e] at hih ⊢
   have hlen : x.length < 140737488355328 := by omega
   exact Ev.ite_pos c (Ev.ite_pos hlen hih)
  ·have e : ints (swF which wi (s.data.toList[j])) = bytesOf (rdOf ByteArray.empty wi (fidx which.data.toList 0 (s.data.toList[j]))) := by unfold swF; rw [if_neg c]; rfl
   have hl6 : (bytesOf (rdOf ByteArray.empty wi (fidx which.data.toList 0 (s.data.toList[j])))).length ≤ 6 := by rw [← e]; unfold ints; rw [List.length_map]; exact hb2
   rw [e] at hih ⊢
   have hge : 0 ≤ fidx which.data.toList 0 (s.data.toList[j]) := by omega
   have hlen : x.length + (bytesOf (rdOf ByteArray.empty wi (fidx which.data.toList 0 (s.data.toList[j])))).length < 140737488355328 := by omega
   exact Ev.ite_neg c (Ev.ite_pos hge (Ev.ite_pos hb1 (Ev.ite_pos hlen hih)))
theorem Swap_tells (s which : ByteArray) (wi : List ByteArray) (hs : s.size ≤ 1048576) (hw : which.size ≤ 1048576) (h1 : ∀ b, fidx which.data.toList 0 b < wi.length) (h2 : ∀ b, (swF which wi b).length ≤ 6) :
  Ev (fun k => spec_l5Swap.f k s which wi) ⟨(s.data.toList.flatMap (swF which wi)).toArray⟩ := by
 have h := Swap_loop s which wi hs hw h1 h2 s.size 0 [] (by omega) (by omega) (by simp)
 rw [List.drop_zero, List.nil_append] at h
 unfold ints at h
 rw [Lib.Lz.strOfNums_map] at h
 exact h
def whichF : ByteArray := ⟨#[38, 60, 62, 13]⟩
def whichT : ByteArray := ⟨#[38, 60, 62, 13, 34, 9, 10]⟩
theorem sw4 : ∀ b, swF whichF [amp, lts, gts, ret] b = g4 b := all_bytes (by decide +kernel)
theorem sw7 : ∀ b, swF whichT [amp, lts, gts, ret, quo, tab, lin] b = g7 b := all_bytes (by decide +kernel)
theorem l7 : ∀ b, (g7 b).length ≤ 6 := all_bytes (by decide +kernel)
theorem f4 : ∀ b, fidx whichF.data.toList 0 b < (4 : Int) := all_bytes (by decide +kernel)
theorem f7 : ∀ b, fidx whichT.data.toList 0 b < (7 : Int) := all_bytes (by decide +kernel)
theorem spec_tells (s : ByteArray) (v : Bool) (hs : s.size ≤ 1048576) : Ev (fun k => spec_Escape.f k s v) ⟨(s.data.toList.flatMap (if v = true then g7 else g4)).toArray⟩ := by
 unfold spec_Escape.f
 cases v with
 | true =>
  have h := Swap_tells s whichT [amp, lts, gts, ret, quo, tab, lin] hs (by decide) f7 (fun b => by rw [sw7]; exact l7 b)
  rw [show swF whichT [amp, lts, gts, ret, quo, tab, lin] = g7 from funext sw7] at h
  exact Ev.ite_pos rfl (Ev.bind h (Ev.now _))
 | false =>
  have h := Swap_tells s whichF [amp, lts, gts, ret] hs (by decide) f4 (fun b => by rw [sw4]; exact l4 b)
  rw [show swF whichF [amp, lts, gts, ret] = g4 from funext sw4] at h
  exact Ev.ite_neg (by decide) (Ev.bind h (Ev.now _))
end Go.Proofs.YthpdpnpojgegiaaGreatDoor.Esc
namespace Go.Proofs.YthpdpnpojgegiaaGreatDoor.Sd
open Go.RowKit Go.Proofs.YthpdpnpojgegiaaGreatDoor.P Go.Proofs.YthpdpnpojgegiaaGreatDoor.Evs Go.Proofs.YthpdpnpojgegiaaGreatDoor.Esc Go.Proofs.YthpdpnpojgegiaaGreatDoorW.PrintWords Go.Proofs.YthpdpnpojgegiaaGreatDoorW.PrintLast

def esc (s : ByteArray) (v : Bool) : ByteArray := ⟨(s.data.toList.flatMap (if v = true then g7 else g4)).toArray⟩
theorem esc_size (s : ByteArray) (v : Bool) : (esc s v).size ≤ 6 * s.size := by
 have h : (s.data.toList.flatMap (if v = true then g7 else g4)).length ≤ 6 * s.data.toList.length := flat_length _ (fun b => by
  cases v with
  | true => exact l7 b
  | false => exact l4 b) _
 show (s.data.toList.flatMap (if v = true then g7 else g4)).toArray.size ≤ _
 rw [List.size_toArray]
 exact h
def spn (n : Int) : ByteArray := (impl_SpaceName.f n).getD ByteArray.empty
theorem spn_impl (n : Int) : impl_SpaceName.f n = some (spn n) := by
 unfold spn impl_SpaceName.f
 by_cases h0 : n = 0
 ·rw [if_pos h0]; rfl
 by_cases h1 : n = 1
 ·rw [if_neg h0, if_pos h1]; rfl
 by_cases h2 : n = 2
 ·rw [if_neg h0, if_neg h1, if_pos h2]; rfl
 ·rw [if_neg h0, if_neg h1, if_neg h2]; rfl
theorem spn_spec (n : Int) : spec_SpaceName.f n = some (spn n) := spn_impl n
theorem spn_size (n : Int) : (spn n).size ≤ 40 := by
 unfold spn impl_SpaceName.f
 by_cases h0 : n = 0
 ·rw [if_pos h0]; decide
 by_cases h1 : n = 1
 ·rw [if_neg h0, if_pos h1]; decide
 by_cases h2 : n = 2
 ·rw [if_neg h0, if_neg h1, if_pos h2]; decide
 ·rw [if_neg h0, if_neg h1, if_neg h2]; decide
def atx (a : S62) : ByteArray := ((((⟨#[32]⟩ : ByteArray) ++ a.f0) ++ (⟨#[61, 34]⟩ : ByteArray)) ++ esc a.f1 true) ++ (⟨#[34]⟩ : ByteArray)
def cat : List ByteArray → ByteArray
 | [] => ByteArray.empty
 | x :: l => x ++ cat l
def close (nm : ByteArray) : ByteArray := ((⟨#[60, 47]⟩ : ByteArray) ++ nm) ++ (⟨#[62]⟩ : ByteArray)
def nsx (n : Int) : ByteArray := ((⟨#[32, 120, 109, 108, 110, 115, 61, 34]⟩ : ByteArray) ++ spn n) ++ (⟨#[34]⟩ : ByteArray)
def sd : Nat → S31 → Int → ByteArray
 | 0, _, _ => ByteArray.empty
 | m + 1, x, ab => if x.f0 = 2 then esc x.f4 false else if x.f0 = 3 then ((⟨#[60, 33, 45, 45]⟩ : ByteArray) ++ x.f4) ++ (⟨#[45, 45, 62]⟩ : ByteArray) else
  (((⟨#[60]⟩ : ByteArray) ++ x.f2) ++ (if x.f1 = ab then ByteArray.empty else nsx x.f1)) ++ (cat (x.f3.map atx) ++ (if x.f5.length = 0 then (⟨#[47, 62]⟩ : ByteArray) else (⟨#[62]⟩ : ByteArray) ++ (cat (x.f5.map fun y => sd m y x.f1) ++ close x.f2)))
theorem cat_size (l : List ByteArray) : (cat l).size = (l.map ByteArray.size).sum := by
 induction l with
 | nil => rfl
 | cons x l ih => simp [cat, ByteArray.size_append, ih]
theorem app_empty (a : ByteArray) : a ++ ByteArray.empty = a := by simp
/-! ### the program -/
section
variable (m : Nat) (k0 sp : Int) (nm tx : ByteArray) (as_ : List S62) (ks : List S31)
theorem impl_kids (hn : nm.size ≤ 1048576) (hl : ks.length ≤ 1048576) (hk : ∀ y ∈ ks, ∀ acc : ByteArray, acc.size + (sd m y sp).size ≤ 70368744177664 → Ev (fun k => impl_sayEl.f k acc y.f0 y.f1 y.f2 y.f3 y.f4 y.f5 sp) (acc ++ sd m y sp)) :
  ∀ (d j : Nat) (acc : ByteArray), ks.length - j = d → j ≤ ks.length → acc.size + (cat ((ks.drop j).map fun y => sd m y sp)).size + (close nm).size ≤ 70368744177664 →
  Ev (fun k => impl_sayEl.l1 k acc ks (ks.length : Int) j k0 sp nm as_ tx ks) (acc ++ (cat ((ks.drop j).map fun y => sd m y sp) ++ close nm)) := by
 intro d
 induction d with
 | zero =>
  intro j acc hd hj hb
  obtain rfl : j = ks.length := by omega
  rw [List.drop_length] at hb ⊢
  have hc : (close nm).size = 2 + nm.size + 1 := by unfold close; rw [ByteArray.size_append, ByteArray.size_append]; rfl
  have e : cat (([] : List S31).map fun y => sd m y sp) ++ close nm = close nm := by show ByteArray.empty ++ close nm = close nm; simp
  rw [e]
  have hb' : acc.size + (close nm).size ≤ 70368744177664 := by
   have h0 : (cat (([] : List S31).map fun y => sd m y sp)).size = 0 := rfl
   omega
  refine Ev.here fun k => ?_
  simp only [impl_sayEl.l1, Option.bind_some]
  rw [if_neg (by omega), if_pos (by omega), if_pos (by rw [ByteArray.size_append]; show 2 + nm.size + 1 ≤ _; omega), if_pos (by show acc.size + (close nm).size ≤ _; omega)]
  rfl
 | succ d ih =>
  intro j acc hd hj hb
  have hjl : j < ks.length := by omega
  have hrd : rd_T31 ks (j : Int) = ks[j] := rdT ks _ j hjl
  rw [List.drop_eq_getElem_cons hjl, List.map_cons] at hb ⊢
  have hs : (cat (sd m ks[j] sp :: (ks.drop (j + 1)).map fun y => sd m y sp)).size = (sd m ks[j] sp).size + (cat ((ks.drop (j + 1)).map fun y => sd m y sp)).size := by show (_ ++ _ : ByteArray).size = _; rw [ByteArray.size_append]
  have h1 := hk ks[j] (List.getElem_mem hjl) acc (by omega)
  have h2 := ih (j + 1) (acc ++ sd m ks[j] sp) (by omega) (by omega) (by rw [ByteArray.size_append]; omega)
  refine Ev.cast (Ev.step (f := fun k => (impl_sayEl.f k acc ks[j].f0 ks[j].f1 ks[j].f2 ks[j].f3 ks[j].f4 ks[j].f5 sp).bind fun t => impl_sayEl.l1 k t ks (ks.length : Int) ((j + 1 : Nat) : Int) k0 sp nm as_ tx ks) (fun k => ?_) (Ev.bind h1 h2)) (by show _ = acc ++ ((sd m ks[j] sp ++ cat _) ++ close nm); simp only [ByteArray.append_assoc])
  simp only [impl_sayEl.l1, hrd, succ64 (show j < 9223372036854775807 by omega)]
  rw [if_pos (by omega), if_pos (by omega), if_pos (by omega)]
def tailT : ByteArray := if ks.length = 0 then (⟨#[47, 62]⟩ : ByteArray) else (⟨#[62]⟩ : ByteArray) ++ (cat (ks.map fun y => sd m y sp) ++ close nm)
theorem atx_sizes (a : S62) : ((⟨#[32]⟩ : ByteArray) ++ a.f0).size = 1 + a.f0.size ∧ (((⟨#[32]⟩ : ByteArray) ++ a.f0) ++ (⟨#[61, 34]⟩ : ByteArray)).size = 1 + a.f0.size + 2 ∧ ((((⟨#[32]⟩ : ByteArray) ++ a.f0) ++ (⟨#[61, 34]⟩ : ByteArray)) ++ esc a.f1 true).size = 1 + a.f0.size + 2 + (esc a.f1 true).size ∧ (atx a).size = 1 + a.f0.size + 2 + (esc a.f1 true).size + 1 := by
 have s1 : ((⟨#[32]⟩ : ByteArray) ++ a.f0).size = 1 + a.f0.size := by rw [ByteArray.size_append]; rfl
 have s2 : (((⟨#[32]⟩ : ByteArray) ++ a.f0) ++ (⟨#[61, 34]⟩ : ByteArray)).size = 1 + a.f0.size + 2 := by rw [ByteArray.size_append, s1]; rfl
 have s3 : ((((⟨#[32]⟩ : ByteArray) ++ a.f0) ++ (⟨#[61, 34]⟩ : ByteArray)) ++ esc a.f1 true).size = 1 + a.f0.size + 2 + (esc a.f1 true).size := by rw [ByteArray.size_append, s2]
 exact ⟨s1, s2, s3, by unfold atx; rw [ByteArray.size_append, s3]; rfl⟩
theorem impl_attrs (ha : as_.length ≤ 1048576) (hs : ∀ a ∈ as_, a.f0.size ≤ 1048576 ∧ a.f1.size ≤ 1048576) (hn : nm.size ≤ 1048576) (hl : ks.length ≤ 1048576) (hk : ∀ y ∈ ks, ∀ acc : ByteArray, acc.size + (sd m y sp).size ≤ 70368744177664 → Ev (fun k => impl_sayEl.f k acc y.f0 y.f1 y.f2 y.f3 y.f4 y.f5 sp) (acc ++ sd m y sp)) :
  ∀ (d j : Nat) (acc : ByteArray), as_.length - j = d → j ≤ as_.length → acc.size + (cat ((as_.drop j).map atx)).size + (tailT m sp nm ks).size ≤ 70368744177664 →
  Ev (fun k => impl_sayEl.l0 k acc as_ (as_.length : Int) j k0 sp nm as_ tx ks) (acc ++ (cat ((as_.drop j).map atx) ++ tailT m sp nm ks)) := by
 intro d
 induction d with
 | zero =>
  intro j acc hd hj hb
  obtain rfl : j = as_.length := by omega
  rw [List.drop_length] at hb ⊢
  have e : cat (([] : List S62).map atx) ++ tailT m sp nm ks = tailT m sp nm ks := by show ByteArray.empty ++ _ = _; simp
  rw [e]
  have h0 : (cat (([] : List S62).map atx)).size = 0 := rfl
  by_cases hz : ks.length = 0
  ·have et : tailT m sp nm ks = (⟨#[47, 62]⟩ : ByteArray) := by unfold tailT; rw [if_pos hz]
   rw [et] at hb ⊢
   have h2 : (⟨#[47, 62]⟩ : ByteArray).size = 2 := rfl
   refine Ev.here fun k => ?_
   simp only [impl_sayEl.l0, Option.bind_some]
   rw [if_neg (by omega), if_pos (by omega), if_pos (by omega)]
  ·have et : tailT m sp nm ks = (⟨#[62]⟩ : ByteArray) ++ (cat (ks.map fun y => sd m y sp) ++ close nm) := by unfold tailT; rw [if_neg hz]
   rw [et] at hb ⊢
   have h2 : ((⟨#[62]⟩ : ByteArray) ++ (cat (ks.map fun y => sd m y sp) ++ close nm)).size = 1 + ((cat (ks.map fun y => sd m y sp)).size + (close nm).size) := by rw [ByteArray.size_append, ByteArray.size_append]; rfl
   have h3 : (acc ++ (⟨#[62]⟩ : ByteArray)).size = acc.size + 1 := by rw [ByteArray.size_append]; rfl
   have h := impl_kids m k0 sp nm tx as_ ks hn hl hk ks.length 0 (acc ++ (⟨#[62]⟩ : ByteArray)) (by omega) (by omega) (by rw [List.drop_zero]; omega)
   rw [List.drop_zero] at h
   refine Ev.cast (Ev.step (fun k => ?_) h) (by simp only [ByteArray.append_assoc])
   simp only [impl_sayEl.l0, Option.bind_some]
   rw [if_neg (by omega), if_neg (by omega), if_pos (by omega)]
   rfl
 | succ d ih =>
  intro j acc hd hj hb
  have hjl : j < as_.length := by omega
  have hrd : rd_T62 as_ (j : Int) = as_[j] := rdT as_ _ j hjl
  obtain ⟨q0, q1⟩ := hs as_[j] (List.getElem_mem hjl)
  obtain ⟨s1, s2, s3, s4⟩ := atx_sizes as_[j]
  have hE := esc_size as_[j].f1 true
  have hEi : impl_Escape.f as_[j].f1 true = some (esc as_[j].f1 true) := Escape_tells as_[j].f1 true q1
  rw [List.drop_eq_getElem_cons hjl, List.map_cons] at hb ⊢
  have hc : (cat (atx as_[j] :: (as_.drop (j + 1)).map atx)).size = (atx as_[j]).size + (cat ((as_.drop (j + 1)).map atx)).size := by show (_ ++ _ : ByteArray).size = _; rw [ByteArray.size_append]
  have h2 := ih (j + 1) (acc ++ atx as_[j]) (by omega) (by omega) (by rw [ByteArray.size_append]; omega)
  refine Ev.cast (Ev.step (fun k => ?_) h2) (by show _ = acc ++ ((atx as_[j] ++ cat _) ++ _); simp only [ByteArray.append_assoc])
  simp only [impl_sayEl.l0, hrd, succ64 (show j < 9223372036854775807 by omega), hEi, Option.bind_some]
  rw [if_pos (by omega), if_pos (by omega), if_pos (by omega), if_pos (by omega), if_pos (by omega), if_pos (by omega), if_pos (by omega), if_pos (by show acc.size + (atx as_[j]).size ≤ _; omega)]
  rfl
/-! ### the reference -/
theorem spec_kids (hn : nm.size ≤ 1048576) (hl : ks.length ≤ 1048576) (hk : ∀ y ∈ ks, (sd m y sp).size ≤ 70368744177664 → Ev (fun k => spec_l17Said.f k y.f0 y.f1 y.f2 y.f3 y.f4 y.f5 sp) (sd m y sp)) :
  ∀ (d j : Nat) (acc : ByteArray), ks.length - j = d → j ≤ ks.length → acc.size + (cat ((ks.drop j).map fun y => sd m y sp)).size + (close nm).size ≤ 70368744177664 →
  Ev (fun k => spec_l17Said.l1 k acc j k0 sp nm as_ tx ks) (acc ++ (cat ((ks.drop j).map fun y => sd m y sp) ++ close nm)) := by
 intro d
 induction d with
 | zero =>
  intro j acc hd hj hb
  obtain rfl : j = ks.length := by omega
  rw [List.drop_length] at hb ⊢
  have hc : (close nm).size = 2 + nm.size + 1 := by unfold close; rw [ByteArray.size_append, ByteArray.size_append]; rfl
  have e : cat (([] : List S31).map fun y => sd m y sp) ++ close nm = close nm := by show ByteArray.empty ++ close nm = close nm; simp
  rw [e]
  have h0 : (cat (([] : List S31).map fun y => sd m y sp)).size = 0 := rfl
  have a1 : (acc ++ (⟨#[60, 47]⟩ : ByteArray)).size = acc.size + 2 := by rw [ByteArray.size_append]; rfl
  have a2 : ((acc ++ (⟨#[60, 47]⟩ : ByteArray)) ++ nm).size = acc.size + 2 + nm.size := by rw [ByteArray.size_append, a1]
  refine Ev.here fun k => ?_
  simp only [spec_l17Said.l1]
  rw [if_neg (by omega), if_pos (by omega), if_pos (by omega), if_pos (by omega)]
  unfold close
  simp only [ByteArray.append_assoc]
 | succ d ih =>
  intro j acc hd hj hb
  have hjl : j < ks.length := by omega
  have hrd : rd_T31 ks (j : Int) = ks[j] := rdT ks _ j hjl
  rw [List.drop_eq_getElem_cons hjl, List.map_cons] at hb ⊢
  have hs : (cat (sd m ks[j] sp :: (ks.drop (j + 1)).map fun y => sd m y sp)).size = (sd m ks[j] sp).size + (cat ((ks.drop (j + 1)).map fun y => sd m y sp)).size := by show (_ ++ _ : ByteArray).size = _; rw [ByteArray.size_append]
  have h1 := hk ks[j] (List.getElem_mem hjl) (by omega)
  have h2 := ih (j + 1) (acc ++ sd m ks[j] sp) (by omega) (by omega) (by rw [ByteArray.size_append]; omega)
  refine Ev.cast (Ev.step (f := fun k => (spec_l17Said.f k ks[j].f0 ks[j].f1 ks[j].f2 ks[j].f3 ks[j].f4 ks[j].f5 sp).bind fun t => if acc.size + t.size ≤ 9223372036854775807 then spec_l17Said.l1 k (acc ++ t) ((j + 1 : Nat) : Int) k0 sp nm as_ tx ks else none) (fun k => ?_) (Ev.bind h1 (Ev.ite_pos (by omega) h2))) (by show _ = acc ++ ((sd m ks[j] sp ++ cat _) ++ close nm); simp only [ByteArray.append_assoc])
  simp only [spec_l17Said.l1, hrd, succ64 (show j < 9223372036854775807 by omega)]
  rw [if_pos (by omega), if_pos (by omega)]
theorem spec_attrs (ha : as_.length ≤ 1048576) (hs : ∀ a ∈ as_, a.f0.size ≤ 1048576 ∧ a.f1.size ≤ 1048576) (hn : nm.size ≤ 1048576) (hl : ks.length ≤ 1048576) (hk : ∀ y ∈ ks, (sd m y sp).size ≤ 70368744177664 → Ev (fun k => spec_l17Said.f k y.f0 y.f1 y.f2 y.f3 y.f4 y.f5 sp) (sd m y sp)) :
  ∀ (d j : Nat) (acc : ByteArray), as_.length - j = d → j ≤ as_.length → acc.size + (cat ((as_.drop j).map atx)).size + (tailT m sp nm ks).size ≤ 70368744177664 →
  Ev (fun k => spec_l17Said.l0 k acc j k0 sp nm as_ tx ks) (acc ++ (cat ((as_.drop j).map atx) ++ tailT m sp nm ks)) := by
 intro d
 induction d with
 | zero =>
  intro j acc hd hj hb
  obtain rfl : j = as_.length := by omega
  rw [List.drop_length] at hb ⊢
  have e : cat (([] : List S62).map atx) ++ tailT m sp nm ks = tailT m sp nm ks := by show ByteArray.empty ++ _ = _; simp
  rw [e]
  have h0 : (cat (([] : List S62).map atx)).size = 0 := rfl
  by_cases hz : ks.length = 0
  ·have et : tailT m sp nm ks = (⟨#[47, 62]⟩ : ByteArray) := by unfold tailT; rw [if_pos hz]
   rw [et] at hb ⊢
   have h2 : (⟨#[47, 62]⟩ : ByteArray).size = 2 := rfl
   refine Ev.here fun k => ?_
   simp only [spec_l17Said.l0]
   rw [if_neg (by omega), if_pos (by omega), if_pos (by omega)]
  ·have et : tailT m sp nm ks = (⟨#[62]⟩ : ByteArray) ++ (cat (ks.map fun y => sd m y sp) ++ close nm) := by unfold tailT; rw [if_neg hz]
   rw [et] at hb ⊢
   have h2 : ((⟨#[62]⟩ : ByteArray) ++ (cat (ks.map fun y => sd m y sp) ++ close nm)).size = 1 + ((cat (ks.map fun y => sd m y sp)).size + (close nm).size) := by rw [ByteArray.size_append, ByteArray.size_append]; rfl
   have h3 : (acc ++ (⟨#[62]⟩ : ByteArray)).size = acc.size + 1 := by rw [ByteArray.size_append]; rfl
   have h := spec_kids m k0 sp nm tx as_ ks hn hl hk ks.length 0 (acc ++ (⟨#[62]⟩ : ByteArray)) (by omega) (by omega) (by rw [List.drop_zero]; omega)
   rw [List.drop_zero] at h
   refine Ev.cast (Ev.step (fun k => ?_) h) (by simp only [ByteArray.append_assoc])
   simp only [spec_l17Said.l0]
   rw [if_neg (by omega), if_neg (by omega), if_pos (by omega)]
   rfl
 | succ d ih =>
  intro j acc hd hj hb
  have hjl : j < as_.length := by omega
  have hrd : rd_T62 as_ (j : Int) = as_[j] := rdT as_ _ j hjl
  obtain ⟨q0, q1⟩ := hs as_[j] (List.getElem_mem hjl)
  obtain ⟨s1, s2, s3, s4⟩ := atx_sizes as_[j]
  have hE := esc_size as_[j].f1 true
  have hEs : Ev (fun k => spec_Escape.f k as_[j].f1 true) (esc as_[j].f1 true) := spec_tells as_[j].f1 true q1
  rw [List.drop_eq_getElem_cons hjl, List.map_cons] at hb ⊢
  have hc : (cat (atx as_[j] :: (as_.drop (j + 1)).map atx)).size = (atx as_[j]).size + (cat ((as_.drop (j + 1)).map atx)).size := by show (_ ++ _ : ByteArray).size = _; rw [ByteArray.size_append]
  have a1 : (acc ++ (⟨#[32]⟩ : ByteArray)).size = acc.size + 1 := by rw [ByteArray.size_append]; rfl
  have a2 : ((acc ++ (⟨#[32]⟩ : ByteArray)) ++ as_[j].f0).size = acc.size + 1 + as_[j].f0.size := by rw [ByteArray.size_append, a1]
  have a3 : (((acc ++ (⟨#[32]⟩ : ByteArray)) ++ as_[j].f0) ++ (⟨#[61, 34]⟩ : ByteArray)).size = acc.size + 1 + as_[j].f0.size + 2 := by rw [ByteArray.size_append, a2]; rfl
  have a4 : ((((acc ++ (⟨#[32]⟩ : ByteArray)) ++ as_[j].f0) ++ (⟨#[61, 34]⟩ : ByteArray)) ++ esc as_[j].f1 true).size = acc.size + 1 + as_[j].f0.size + 2 + (esc as_[j].f1 true).size := by rw [ByteArray.size_append, a3]
  have ea : ((((acc ++ (⟨#[32]⟩ : ByteArray)) ++ as_[j].f0) ++ (⟨#[61, 34]⟩ : ByteArray)) ++ esc as_[j].f1 true) ++ (⟨#[34]⟩ : ByteArray) = acc ++ atx as_[j] := by unfold atx; simp only [ByteArray.append_assoc]
  have h2 := ih (j + 1) (acc ++ atx as_[j]) (by omega) (by omega) (by rw [ByteArray.size_append]; omega)
  have h3 : Ev (fun k => spec_l17Said.l0 k (((((acc ++ (⟨#[32]⟩ : ByteArray)) ++ as_[j].f0) ++ (⟨#[61, 34]⟩ : ByteArray)) ++ esc as_[j].f1 true) ++ (⟨#[34]⟩ : ByteArray)) ((j + 1 : Nat) : Int) k0 sp nm as_ tx ks) (acc ++ (cat (atx as_[j] :: (as_.drop (j + 1)).map atx) ++ tailT m sp nm ks)) := by
   rw [ea]
   exact Ev.cast h2 (by show _ = acc ++ ((atx as_[j] ++ cat _) ++ _); simp only [ByteArray.append_assoc])
  have c4 : (((acc ++ (⟨#[32]⟩ : ByteArray)) ++ as_[j].f0) ++ (⟨#[61, 34]⟩ : ByteArray)).size + (esc as_[j].f1 true).size ≤ 9223372036854775807 := by omega
  have c5 : ((((acc ++ (⟨#[32]⟩ : ByteArray)) ++ as_[j].f0) ++ (⟨#[61, 34]⟩ : ByteArray)) ++ esc as_[j].f1 true).size + 1 ≤ 9223372036854775807 := by omega
  refine Ev.step (f := fun k => (spec_Escape.f k as_[j].f1 true).bind fun t => if (((acc ++ (⟨#[32]⟩ : ByteArray)) ++ as_[j].f0) ++ (⟨#[61, 34]⟩ : ByteArray)).size + t.size ≤ 9223372036854775807 then (if ((((acc ++ (⟨#[32]⟩ : ByteArray)) ++ as_[j].f0) ++ (⟨#[61, 34]⟩ : ByteArray)) ++ t).size + 1 ≤ 9223372036854775807 then spec_l17Said.l0 k (((((acc ++ (⟨#[32]⟩ : ByteArray)) ++ as_[j].f0) ++ (⟨#[61, 34]⟩ : ByteArray)) ++ t) ++ (⟨#[34]⟩ : ByteArray)) ((j + 1 : Nat) : Int) k0 sp nm as_ tx ks else none) else none) (fun k => ?_) (Ev.bind hEs (Ev.ite_pos c4 (Ev.ite_pos c5 h3)))
  simp only [spec_l17Said.l0, hrd, succ64 (show j < 9223372036854775807 by omega)]
  rw [if_pos (by omega), if_pos (by omega), if_pos (by omega), if_pos (by omega), if_pos (by omega)]
end
/-! ### the element -/
theorem sd_said (m : Nat) (x : S31) (ab : Int) (c2 : ¬ x.f0 = 2) (c3 : ¬ x.f0 = 3) : sd (m + 1) x ab = (((⟨#[60]⟩ : ByteArray) ++ x.f2) ++ (if x.f1 = ab then ByteArray.empty else nsx x.f1)) ++ (cat (x.f3.map atx) ++ tailT m x.f1 x.f2 x.f5) := by
 show (if x.f0 = 2 then _ else if x.f0 = 3 then _ else _) = _
 rw [if_neg c2, if_neg c3]
 rfl
theorem nsx_sizes (n : Int) : ((⟨#[32, 120, 109, 108, 110, 115, 61, 34]⟩ : ByteArray) ++ spn n).size = 8 + (spn n).size ∧ (nsx n).size = 8 + (spn n).size + 1 := by
 have s1 : ((⟨#[32, 120, 109, 108, 110, 115, 61, 34]⟩ : ByteArray) ++ spn n).size = 8 + (spn n).size := by rw [ByteArray.size_append]; rfl
 exact ⟨s1, by unfold nsx; rw [ByteArray.size_append, s1]; rfl⟩
theorem impl_said : ∀ (m : Nat) (x : S31), G31 1048576 m x → ∀ (ab : Int) (acc : ByteArray), acc.size + (sd m x ab).size ≤ 70368744177664 → Ev (fun k => impl_sayEl.f k acc x.f0 x.f1 x.f2 x.f3 x.f4 x.f5 ab) (acc ++ sd m x ab) := by
 intro m
 induction m with
 | zero => intro x hx; exact hx.elim
 | succ m ih =>
  intro x hx ab acc hb
  obtain ⟨_, _, h2, ⟨h3, h3'⟩, h4, h5, h5'⟩ := hx
  by_cases c2 : x.f0 = 2
  ·have e : sd (m + 1) x ab = esc x.f4 false := by show (if x.f0 = 2 then _ else _) = _; rw [if_pos c2]
   rw [e] at hb ⊢
   have hEi : impl_Escape.f x.f4 false = some (esc x.f4 false) := Escape_tells x.f4 false h4
   refine Ev.here fun k => ?_
   simp only [impl_sayEl.f, hEi, Option.bind_some]
   rw [if_pos c2, if_pos (by omega)]
  by_cases c3 : x.f0 = 3
  ·have e : sd (m + 1) x ab = ((⟨#[60, 33, 45, 45]⟩ : ByteArray) ++ x.f4) ++ (⟨#[45, 45, 62]⟩ : ByteArray) := by show (if x.f0 = 2 then _ else if x.f0 = 3 then _ else _) = _; rw [if_neg c2, if_pos c3]
   rw [e] at hb ⊢
   have s1 : ((⟨#[60, 33, 45, 45]⟩ : ByteArray) ++ x.f4).size = 4 + x.f4.size := by rw [ByteArray.size_append]; rfl
   refine Ev.here fun k => ?_
   simp only [impl_sayEl.f, Option.bind_some]
   rw [if_neg c2, if_pos c3, if_pos (by omega), if_pos (by omega), if_pos (by omega)]
  rw [sd_said m x ab c2 c3] at hb ⊢
  have s1 : ((⟨#[60]⟩ : ByteArray) ++ x.f2).size = 1 + x.f2.size := by rw [ByteArray.size_append]; rfl
  obtain ⟨n1, n2⟩ := nsx_sizes x.f1
  have n3 := spn_size x.f1
  have kids : ∀ y ∈ x.f5, ∀ acc : ByteArray, acc.size + (sd m y x.f1).size ≤ 70368744177664 → Ev (fun k => impl_sayEl.f k acc y.f0 y.f1 y.f2 y.f3 y.f4 y.f5 x.f1) (acc ++ sd m y x.f1) := fun y hy acc hb => ih y (h5' y hy) x.f1 acc hb
  have go : ∀ acc : ByteArray, acc.size + (cat (x.f3.map atx)).size + (tailT m x.f1 x.f2 x.f5).size ≤ 70368744177664 → Ev (fun k => impl_sayEl.j0 k acc x.f0 x.f1 x.f2 x.f3 x.f4 x.f5) (acc ++ (cat (x.f3.map atx) ++ tailT m x.f1 x.f2 x.f5)) := fun acc hb => by
   have h := impl_attrs m x.f0 x.f1 x.f2 x.f4 x.f3 x.f5 h3 (fun a ha => h3' a ha) h2 h5 kids x.f3.length 0 acc (by omega) (by omega) (by rw [List.drop_zero]; exact hb)
   rw [List.drop_zero] at h
   refine Ev.step (fun k => ?_) h
   simp only [impl_sayEl.j0]
   rfl
  have hT : (cat (x.f3.map atx) ++ tailT m x.f1 x.f2 x.f5).size = (cat (x.f3.map atx)).size + (tailT m x.f1 x.f2 x.f5).size := ByteArray.size_append
  rw [ByteArray.size_append, ByteArray.size_append] at hb
  by_cases ca : x.f1 = ab
  ·rw [if_pos ca] at hb ⊢
   have h := go (acc ++ ((⟨#[60]⟩ : ByteArray) ++ x.f2)) (by rw [ByteArray.size_append]; omega)
   refine Ev.cast (Ev.step (fun k => ?_) h) (by rw [app_empty, ByteArray.append_assoc])
   simp only [impl_sayEl.f, Option.bind_some]
   rw [if_neg c2, if_neg c3, if_pos (by omega), if_pos (by omega), if_pos ca]
  ·rw [if_neg ca] at hb ⊢
   have s2 : (acc ++ ((⟨#[60]⟩ : ByteArray) ++ x.f2)).size = acc.size + (1 + x.f2.size) := by rw [ByteArray.size_append, s1]
   have h := go ((acc ++ ((⟨#[60]⟩ : ByteArray) ++ x.f2)) ++ nsx x.f1) (by rw [ByteArray.size_append, s2]; omega)
   refine Ev.cast (Ev.step (fun k => ?_) h) (by simp only [ByteArray.append_assoc])
   simp only [impl_sayEl.f, Option.bind_some, spn_impl]
   rw [if_neg c2, if_neg c3, if_pos (by omega), if_pos (by omega), if_neg ca, if_pos (by omega), if_pos (by omega), if_pos (by rw [s2]; show _ + (nsx x.f1).size ≤ _; omega)]
   rfl
theorem spec_said : ∀ (m : Nat) (x : S31), G31 1048576 m x → ∀ (ab : Int), (sd m x ab).size ≤ 70368744177664 → Ev (fun k => spec_l17Said.f k x.f0 x.f1 x.f2 x.f3 x.f4 x.f5 ab) (sd m x ab) := by
 intro m
 induction m with
 | zero => intro x hx; exact hx.elim
 | succ m ih =>
  intro x hx ab hb
  obtain ⟨_, _, h2, ⟨h3, h3'⟩, h4, h5, h5'⟩ := hx
  by_cases c2 : x.f0 = 2
  ·have e : sd (m + 1) x ab = esc x.f4 false := by show (if x.f0 = 2 then _ else _) = _; rw [if_pos c2]
   rw [e]
   refine Ev.step (f := fun k => (spec_Escape.f k x.f4 false).bind fun t => some t) (fun k => ?_) (Ev.bind (spec_tells x.f4 false h4) (Ev.now _))
   simp only [spec_l17Said.f]
   rw [if_pos c2]
  by_cases c3 : x.f0 = 3
  ·have e : sd (m + 1) x ab = ((⟨#[60, 33, 45, 45]⟩ : ByteArray) ++ x.f4) ++ (⟨#[45, 45, 62]⟩ : ByteArray) := by show (if x.f0 = 2 then _ else if x.f0 = 3 then _ else _) = _; rw [if_neg c2, if_pos c3]
   rw [e] at hb ⊢
   have s1 : ((⟨#[60, 33, 45, 45]⟩ : ByteArray) ++ x.f4).size = 4 + x.f4.size := by rw [ByteArray.size_append]; rfl
   refine Ev.here fun k => ?_
   simp only [spec_l17Said.f]
   rw [if_neg c2, if_pos c3, if_pos (by omega), if_pos (by omega)]
  rw [sd_said m x ab c2 c3] at hb ⊢
  have s1 : ((⟨#[60]⟩ : ByteArray) ++ x.f2).size = 1 + x.f2.size := by rw [ByteArray.size_append]; rfl
  obtain ⟨n1, n2⟩ := nsx_sizes x.f1
  have n3 := spn_size x.f1
  have kids : ∀ y ∈ x.f5, (sd m y x.f1).size ≤ 70368744177664 → Ev (fun k => spec_l17Said.f k y.f0 y.f1 y.f2 y.f3 y.f4 y.f5 x.f1) (sd m y x.f1) := fun y hy hb => ih y (h5' y hy) x.f1 hb
  have go : ∀ acc : ByteArray, acc.size + (cat (x.f3.map atx)).size + (tailT m x.f1 x.f2 x.f5).size ≤ 70368744177664 → Ev (fun k => spec_l17Said.j0 k acc x.f0 x.f1 x.f2 x.f3 x.f4 x.f5) (acc ++ (cat (x.f3.map atx) ++ tailT m x.f1 x.f2 x.f5)) := fun acc hb => by
   have h := spec_attrs m x.f0 x.f1 x.f2 x.f4 x.f3 x.f5 h3 (fun a ha => h3' a ha) h2 h5 kids x.f3.length 0 acc (by omega) (by omega) (by rw [List.drop_zero]; exact hb)
   rw [List.drop_zero] at h
   refine Ev.step (fun k => ?_) h
   simp only [spec_l17Said.j0]
   rfl
  have hT : (cat (x.f3.map atx) ++ tailT m x.f1 x.f2 x.f5).size = (cat (x.f3.map atx)).size + (tailT m x.f1 x.f2 x.f5).size := ByteArray.size_append
  rw [ByteArray.size_append, ByteArray.size_append] at hb
  by_cases ca : x.f1 = ab
  ·rw [if_pos ca] at hb ⊢
   have h := go ((⟨#[60]⟩ : ByteArray) ++ x.f2) (by omega)
   refine Ev.cast (Ev.step (fun k => ?_) h) (by rw [app_empty])
   simp only [spec_l17Said.f]
   rw [if_neg c2, if_neg c3, if_pos (by omega), if_pos ca]
  ·rw [if_neg ca] at hb ⊢
   have s3 : (((⟨#[60]⟩ : ByteArray) ++ x.f2) ++ (⟨#[32, 120, 109, 108, 110, 115, 61, 34]⟩ : ByteArray)).size = 1 + x.f2.size + 8 := by rw [ByteArray.size_append, s1]; rfl
   have s4 : ((((⟨#[60]⟩ : ByteArray) ++ x.f2) ++ (⟨#[32, 120, 109, 108, 110, 115, 61, 34]⟩ : ByteArray)) ++ spn x.f1).size = 1 + x.f2.size + 8 + (spn x.f1).size := by rw [ByteArray.size_append, s3]
   have ea : ((((⟨#[60]⟩ : ByteArray) ++ x.f2) ++ (⟨#[32, 120, 109, 108, 110, 115, 61, 34]⟩ : ByteArray)) ++ spn x.f1) ++ (⟨#[34]⟩ : ByteArray) = ((⟨#[60]⟩ : ByteArray) ++ x.f2) ++ nsx x.f1 := by unfold nsx; simp only [ByteArray.append_assoc]
   have h := go (((⟨#[60]⟩ : ByteArray) ++ x.f2) ++ nsx x.f1) (by rw [ByteArray.size_append]; omega)
   refine Ev.step (fun k => ?_) h
   simp only [spec_l17Said.f, Option.bind_some, spn_spec]
   rw [if_neg c2, if_neg c3, if_pos (by omega), if_neg ca, if_pos (by omega), if_pos (by omega), if_pos (by omega), ea]
end Go.Proofs.YthpdpnpojgegiaaGreatDoor.Sd
namespace Go.Proofs.YthpdpnpojgegiaaGreatDoor.Sd
open Go.RowKit Go.Proofs.YthpdpnpojgegiaaGreatDoor.P Go.Proofs.YthpdpnpojgegiaaGreatDoor.Evs Go.Proofs.YthpdpnpojgegiaaGreatDoor.Esc Go.Proofs.YthpdpnpojgegiaaGreatDoorW.PrintWords Go.Proofs.YthpdpnpojgegiaaGreatDoorW.PrintLast

def wa (l : List S62) : Nat := (l.map fun a => a.f0.size + a.f1.size + 1).sum
def wt : Nat → S31 → Nat
 | 0, _ => 0
 | m + 1, x => x.f2.size + x.f4.size + wa x.f3 + x.f5.length + (x.f5.map (wt m)).sum
theorem cat_attrs (l : List S62) : (cat (l.map atx)).size ≤ 6 * wa l := by
 induction l with
 | nil => exact Nat.zero_le _
 | cons a l ih =>
  have h4 := (atx_sizes a).2.2.2
  have hE := esc_size a.f1 true
  show (atx a ++ cat (l.map atx)).size ≤ 6 * ((a.f0.size + a.f1.size + 1) + wa l)
  rw [ByteArray.size_append]
  omega
theorem cat_kids (m : Nat) (sp : Int) (h : ∀ y : S31, (sd m y sp).size ≤ 200 * wt m y + 200) (l : List S31) : (cat (l.map fun y => sd m y sp)).size ≤ 200 * (l.length + (l.map (wt m)).sum) := by
 induction l with
 | nil => exact Nat.zero_le _
 | cons y l ih =>
  have hy := h y
  show (sd m y sp ++ cat (l.map fun y => sd m y sp)).size ≤ 200 * ((l.length + 1) + (wt m y + (l.map (wt m)).sum))
  rw [ByteArray.size_append]
  omega
theorem tail_size (m : Nat) (sp : Int) (nm : ByteArray) (ks : List S31) : (tailT m sp nm ks).size ≤ 4 + nm.size + (cat (ks.map fun y => sd m y sp)).size := by
 unfold tailT
 by_cases hz : ks.length = 0
 ·rw [if_pos hz]
  show 2 ≤ _
  omega
 ·rw [if_neg hz, ByteArray.size_append, ByteArray.size_append]
  have hc : (close nm).size = 2 + nm.size + 1 := by unfold close; rw [ByteArray.size_append, ByteArray.size_append]; rfl
  show 1 + _ ≤ _
  omega
theorem sd_size : ∀ (m : Nat) (x : S31) (ab : Int), (sd m x ab).size ≤ 200 * wt m x + 200 := by
 intro m
 induction m with
 | zero => intro x ab; exact Nat.zero_le _
 | succ m ih =>
  intro x ab
  have hw : wt (m + 1) x = x.f2.size + x.f4.size + wa x.f3 + x.f5.length + (x.f5.map (wt m)).sum := rfl
  by_cases c2 : x.f0 = 2
  ·have e : sd (m + 1) x ab = esc x.f4 false := by show (if x.f0 = 2 then _ else _) = _; rw [if_pos c2]
   have hE := esc_size x.f4 false
   rw [e]
   omega
  by_cases c3 : x.f0 = 3
  ·have e : sd (m + 1) x ab = ((⟨#[60, 33, 45, 45]⟩ : ByteArray) ++ x.f4) ++ (⟨#[45, 45, 62]⟩ : ByteArray) := by show (if x.f0 = 2 then _ else if x.f0 = 3 then _ else _) = _; rw [if_neg c2, if_pos c3]
   have s1 : (((⟨#[60, 33, 45, 45]⟩ : ByteArray) ++ x.f4) ++ (⟨#[45, 45, 62]⟩ : ByteArray)).size = 4 + x.f4.size + 3 := by rw [ByteArray.size_append, ByteArray.size_append]; rfl
   rw [e, s1]
   omega
  have hT : (cat (x.f3.map atx) ++ tailT m x.f1 x.f2 x.f5).size = (cat (x.f3.map atx)).size + (tailT m x.f1 x.f2 x.f5).size := ByteArray.size_append
  have s1 : ((⟨#[60]⟩ : ByteArray) ++ x.f2).size = 1 + x.f2.size := by rw [ByteArray.size_append]; rfl
  have n2 := (nsx_sizes x.f1).2
  have n3 := spn_size x.f1
  have k1 := cat_attrs x.f3
  have k2 := cat_kids m x.f1 (fun y => ih y x.f1) x.f5
  have k3 := tail_size m x.f1 x.f2 x.f5
  have k4 : (if x.f1 = ab then ByteArray.empty else nsx x.f1).size ≤ 49 := by
   by_cases ca : x.f1 = ab
   ·rw [if_pos ca]; exact Nat.zero_le _
   ·rw [if_neg ca]; omega
  rw [sd_said m x ab c2 c3, ByteArray.size_append, ByteArray.size_append, hT, s1]
  omega
end Go.Proofs.YthpdpnpojgegiaaGreatDoor.Sd
namespace Go.Proofs.YthpdpnpojgegiaaGreatDoor.Sd
open Go.RowKit Go.Proofs.YthpdpnpojgegiaaGreatDoor.P Go.Proofs.YthpdpnpojgegiaaGreatDoor.Evs Go.Proofs.YthpdpnpojgegiaaGreatDoor.It Go.Proofs.YthpdpnpojgegiaaGreatDoorW.PrintWords Go.Proofs.YthpdpnpojgegiaaGreatDoorW.PrintLast

def wb (l : List S58) : Nat := (l.map fun a => a.f0.size + a.f1.size).sum
def wl : Nat → S25 → Nat
 | 0, _ => 0
 | m + 1, x => x.f2.size + x.f4.size + (wb x.f3 + x.f3.length) + x.f5.length + (x.f5.map (wl m)).sum
theorem szAttr_w (n v : ByteArray) (left : Int) (hn : n.size ≤ maxLen) (hv : v.size ≤ maxLen) (h0 : 0 ≤ left) (h1 : left ≤ 1048576) :
  ∃ t, laws_szAttr.f n v left = some t ∧ -1 ≤ t ∧ t ≤ left ∧ (0 ≤ t → n.size + v.size ≤ (left - t).toNat) := by
 unfold maxLen at hn hv
 unfold laws_szAttr.f
 rw [w64 (i := left - (n.size : Int)) (by omega) (by omega)]
 by_cases c : left - (n.size : Int) < 0
 ·rw [if_pos c]; exact ⟨-1, rfl, by omega, by omega, by omega⟩
 ·rw [if_neg c, w64 (i := left - (n.size : Int) - (v.size : Int)) (by omega) (by omega)]
  by_cases c2 : left - (n.size : Int) - (v.size : Int) < 0
  ·rw [if_pos c2]; exact ⟨-1, rfl, by omega, by omega, by omega⟩
  ·rw [if_neg c2]; exact ⟨_, rfl, by omega, by omega, by omega⟩
theorem szAttrS_wl (xs : List S58) (m : Nat) (hlen : xs.length ≤ 1048576) (hx : ∀ y ∈ xs, G58 maxLen m y) : ∀ (d i : Nat) (left : Int), xs.length - i = d → i ≤ xs.length → 0 ≤ left → left ≤ 1048576 →
  ∃ t, Ev (fun k => laws_szAttrS.l0 k xs left i) t ∧ -1 ≤ t ∧ t ≤ left ∧ (0 ≤ t → wb (xs.drop i) ≤ (left - t).toNat) := by
 intro d
 induction d with
 | zero =>
  intro i left hd hi h0 h1
  obtain rfl : i = xs.length := by omega
  refine ⟨left, Ev.here fun k => ?_, by omega, by omega, fun _ => by rw [List.drop_length]; exact Nat.zero_le _⟩
  simp only [laws_szAttrS.l0]; rw [if_neg (by omega)]
 | succ d ih =>
  intro i left hd hi h0 h1
  have hil : i < xs.length := by omega
  obtain ⟨hn, hv⟩ := hx xs[i] (List.getElem_mem hil)
  obtain ⟨t, e, t0, t1, tq⟩ := szAttr_w xs[i].f0 xs[i].f1 left hn hv h0 h1
  have hrd : rd_T58 xs (i : Int) = xs[i] := rdT xs _ i hil
  by_cases c : t < 0
  ·refine ⟨-1, Ev.here fun k => ?_, by omega, by omega, by omega⟩
   simp only [laws_szAttrS.l0]; rw [if_pos (by omega), if_pos (by omega), hrd, e]; simp only [Option.bind_some]; rw [if_pos c]
  ·obtain ⟨u, ev, u0, u1, uq⟩ := ih (i + 1) t (by omega) (by omega) (by omega) (by omega)
   refine ⟨u, Ev.step (f := fun k => laws_szAttrS.l0 k xs t ((i + 1 : Nat) : Int)) (fun k => ?_) ev, by omega, by omega, fun hu => ?_⟩
   ·simp only [laws_szAttrS.l0]; rw [if_pos (by omega), if_pos (by omega), hrd, e]; simp only [Option.bind_some]; rw [if_neg c, w64 (i := (i : Int) + 1) (by omega) (by omega)]; rfl
   ·have q1 := uq hu
    have q2 := tq (by omega)
    rw [List.drop_eq_getElem_cons hil]
    show (xs[i].f0.size + xs[i].f1.size) + wb (xs.drop (i + 1)) ≤ _
    omega
theorem szAttrS_w (xs : List S58) (m : Nat) (left : Int) (hlen : xs.length ≤ maxLen) (hx : ∀ y ∈ xs, G58 maxLen m y) (h0 : 0 ≤ left) (h1 : left ≤ 1048576) :
  ∃ t, Ev (fun k => laws_szAttrS.f k xs left) t ∧ -1 ≤ t ∧ t ≤ left ∧ (0 ≤ t → wb xs + xs.length ≤ (left - t).toNat) := by
 unfold maxLen at hlen
 unfold laws_szAttrS.f
 rw [w64 (i := left - (xs.length : Int)) (by omega) (by omega)]
 by_cases c : left - (xs.length : Int) < 0
 ·exact ⟨-1, Ev.ite_pos c (Ev.const fun _ => rfl), by omega, by omega, by omega⟩
 ·obtain ⟨t, ev, t0, t1, tq⟩ := szAttrS_wl xs m (by omega) hx xs.length 0 (left - (xs.length : Int)) (by omega) (by omega) (by omega) (by omega)
  refine ⟨t, Ev.ite_neg c ev, by omega, by omega, fun ht => ?_⟩
  have q := tq ht
  rw [List.drop_zero] at q
  omega
theorem szElS_wl (xs : List S25) (hlen : xs.length ≤ 1048576)
  (hx : ∀ y ∈ xs, ∀ left : Int, 0 ≤ left → left ≤ 1048576 → ∃ t, Ev (fun k => laws_szEl.f k y.f0 y.f1 y.f2 y.f3 y.f4 y.f5 left) t ∧ -1 ≤ t ∧ t ≤ left ∧ (0 ≤ t → ∀ M, wl M y ≤ (left - t).toNat)) :
  ∀ (d i : Nat) (left : Int), xs.length - i = d → i ≤ xs.length → 0 ≤ left → left ≤ 1048576 →
  ∃ t, Ev (fun k => laws_szElS.l0 k xs left i) t ∧ -1 ≤ t ∧ t ≤ left ∧ (0 ≤ t → ∀ M, ((xs.drop i).map (wl M)).sum ≤ (left - t).toNat) := by
 intro d
 induction d with
 | zero =>
  intro i left hd hi h0 h1
  obtain rfl : i = xs.length := by omega
  refine ⟨left, Ev.here fun k => ?_, by omega, by omega, fun _ M => by rw [List.drop_length]; exact Nat.zero_le _⟩
  simp only [laws_szElS.l0]; rw [if_neg (by omega)]
 | succ d ih =>
  intro i left hd hi h0 h1
  have hil : i < xs.length := by omega
  obtain ⟨t, e, t0, t1, tq⟩ := hx xs[i] (List.getElem_mem hil) left h0 h1
  have hrd : rd_T25 xs (i : Int) = xs[i] := rdT xs _ i hil
  by_cases c : t < 0
  ·refine ⟨-1, Ev.step (f := fun k => (laws_szEl.f k xs[i].f0 xs[i].f1 xs[i].f2 xs[i].f3 xs[i].f4 xs[i].f5 left).bind fun t115 => (if t115 < 0 then (some (-1)) else (laws_szElS.l0 k xs t115 (wrap64 ((i : Int) + 1))))) (fun k => ?_) (Ev.bind e (Ev.ite_pos c (Ev.const fun _ => rfl))), by omega, by omega, by omega⟩
   simp only [laws_szElS.l0]; rw [if_pos (by omega), if_pos (by omega), hrd]
  ·obtain ⟨u, ev, u0, u1, uq⟩ := ih (i + 1) t (by omega) (by omega) (by omega) (by omega)
   refine ⟨u, Ev.step (f := fun k => (laws_szEl.f k xs[i].f0 xs[i].f1 xs[i].f2 xs[i].f3 xs[i].f4 xs[i].f5 left).bind fun t115 => (if t115 < 0 then (some (-1)) else (laws_szElS.l0 k xs t115 (wrap64 ((i : Int) + 1))))) (fun k => ?_) (Ev.bind e (Ev.ite_neg c ?_)), by omega, by omega, fun hu M => ?_⟩
   ·simp only [laws_szElS.l0]; rw [if_pos (by omega), if_pos (by omega), hrd]
   ·rw [w64 (i := (i : Int) + 1) (by omega) (by omega)]; exact ev
   ·have q1 := uq hu M
    have q2 := tq (by omega) M
    rw [List.drop_eq_getElem_cons hil, List.map_cons, List.sum_cons]
    omega
theorem szEl_w : ∀ (m : Nat) (y : S25), G25 maxLen m y → ∀ left : Int, 0 ≤ left → left ≤ 1048576 →
  ∃ t, Ev (fun k => laws_szEl.f k y.f0 y.f1 y.f2 y.f3 y.f4 y.f5 left) t ∧ -1 ≤ t ∧ t ≤ left ∧ (0 ≤ t → ∀ M, wl M y ≤ (left - t).toNat) := by
 intro m
 induction m with
 | zero => intro y hy; exact hy.elim
 | succ m ih =>
  intro y hy left h0 h1
  obtain ⟨w0, w1, hs2, ⟨hl3, hg3⟩, hs4, hl5, hg5⟩ := hy
  unfold maxLen at hs2 hs4 hl5
  have e0 : wrap64 (left - (y.f2.size : Int)) = left - (y.f2.size : Int) := w64 (by omega) (by omega)
  by_cases c0 : left - (y.f2.size : Int) < 0
  ·refine ⟨-1, Ev.here fun k => ?_, by omega, by omega, by omega⟩
   simp only [laws_szEl.f]; rw [e0, if_pos c0]
  obtain ⟨t, et, t0, t1, tq⟩ := szAttrS_w y.f3 m (left - (y.f2.size : Int)) hl3 hg3 (by omega) (by omega)
  have step : ∀ k, laws_szEl.f (k + 1) y.f0 y.f1 y.f2 y.f3 y.f4 y.f5 left = (laws_szAttrS.f k y.f3 (left - (y.f2.size : Int))).bind fun t117 => (if t117 < 0 then (some (-1)) else (if (wrap64 (t117 - (y.f4.size : Int))) < 0 then (some (-1)) else ((laws_szElS.f k y.f5 (wrap64 (t117 - (y.f4.size : Int)))).bind fun t118 => (if t118 < 0 then (some (-1)) else (some t118))))) := by
   intro k; simp only [laws_szEl.f]; rw [e0, if_neg c0]
  by_cases c1 : t < 0
  ·exact ⟨-1, Ev.step step (Ev.bind et (Ev.ite_pos c1 (Ev.const fun _ => rfl))), by omega, by omega, by omega⟩
  have e1 : wrap64 (t - (y.f4.size : Int)) = t - (y.f4.size : Int) := w64 (by omega) (by omega)
  by_cases c2 : t - (y.f4.size : Int) < 0
  ·exact ⟨-1, Ev.step step (Ev.bind et (Ev.ite_neg c1 (Ev.ite_pos (by rw [e1]; exact c2) (Ev.const fun _ => rfl)))), by omega, by omega, by omega⟩
  have e2 : wrap64 (t - (y.f4.size : Int) - (y.f5.length : Int)) = t - (y.f4.size : Int) - (y.f5.length : Int) := w64 (by omega) (by omega)
  by_cases c3 : t - (y.f4.size : Int) - (y.f5.length : Int) < 0
  ·refine ⟨-1, Ev.step step (Ev.bind et (Ev.ite_neg c1 (Ev.ite_neg (by rw [e1]; exact c2) (Ev.bind (a := -1) (Ev.here fun k => ?_) (Ev.ite_pos (by omega) (Ev.const fun _ => rfl)))))), by omega, by omega, by omega⟩
   rw [e1]; simp only [laws_szElS.f]; rw [e2, if_pos c3]
  obtain ⟨u, eu, u0, u1, uq⟩ := szElS_wl y.f5 (by omega) (fun z hz l hl0 hl1 => ih z (hg5 z hz) l hl0 hl1) y.f5.length 0 (t - (y.f4.size : Int) - (y.f5.length : Int)) (by omega) (by omega) (by omega) (by omega)
  have eu' : Ev (fun k => laws_szElS.f k y.f5 (wrap64 (t - (y.f4.size : Int)))) u := by
   refine Ev.step (f := fun k => laws_szElS.l0 k y.f5 (t - (y.f4.size : Int) - (y.f5.length : Int)) 0) (fun k => ?_) eu
   rw [e1]; simp only [laws_szElS.f]; rw [e2, if_neg c3]
  by_cases c4 : u < 0
  ·exact ⟨-1, Ev.step step (Ev.bind et (Ev.ite_neg c1 (Ev.ite_neg (by rw [e1]; exact c2) (Ev.bind eu' (Ev.ite_pos c4 (Ev.const fun _ => rfl)))))), by omega, by omega, by omega⟩
  ·refine ⟨u, Ev.step step (Ev.bind et (Ev.ite_neg c1 (Ev.ite_neg (by rw [e1]; exact c2) (Ev.bind eu' (Ev.ite_neg c4 (Ev.const fun _ => rfl)))))), by omega, by omega, fun hu M => ?_⟩
   cases M with
   | zero => exact Nat.zero_le _
   | succ M =>
    have q1 := uq hu M
    have q2 := tq (by omega)
    rw [List.drop_zero] at q1
    show y.f2.size + y.f4.size + (wb y.f3 + y.f3.length) + y.f5.length + (y.f5.map (wl M)).sum ≤ _
    omega
theorem wa_map (l : List S58) : wa (l.map toA) = wb l + l.length := by
 induction l with
 | nil => rfl
 | cons a l ih =>
  show (a.f0.size + a.f1.size + 1) + wa (l.map toA) = ((a.f0.size + a.f1.size) + wb l) + (l.length + 1)
  omega
theorem toElS_wl (xs : List S25) (hlen : xs.length ≤ 1048576)
  (hx : ∀ y ∈ xs, ∃ z : S31, Ev (fun k => laws_toEl.f k y.f0 y.f1 y.f2 y.f3 y.f4 y.f5) (z.f0, z.f1, z.f2, z.f3, z.f4, z.f5) ∧ ∀ M, wt M z = wl M y) :
  ∀ (d i : Nat) (out : List S31), xs.length - i = d → i ≤ xs.length → out.length = xs.length → (∀ j, j < i → ∀ M, (out.map (wt M))[j]? = (xs.map (wl M))[j]?) →
  ∃ r : List S31, Ev (fun k => laws_toElS.l0 k xs out i) r ∧ ∀ M, r.map (wt M) = xs.map (wl M) := by
 intro d
 induction d with
 | zero =>
  intro i out hd hi ho hj
  obtain rfl : i = xs.length := by omega
  refine ⟨out, Ev.here fun k => ?_, fun M => List.ext_getElem? fun j => ?_⟩
  ·simp only [laws_toElS.l0]; rw [if_neg (by omega)]
  ·by_cases h : j < xs.length
   ·exact hj j h M
   ·rw [List.getElem?_eq_none (by rw [List.length_map]; omega), List.getElem?_eq_none (by rw [List.length_map]; omega)]
 | succ d ih =>
  intro i out hd hi ho hj
  have hil : i < xs.length := by omega
  obtain ⟨⟨z0, z1, z2, z3, z4, z5⟩, ez, gz⟩ := hx xs[i] (List.getElem_mem hil)
  have hrd : rd_T25 xs (i : Int) = xs[i] := rdT xs _ i hil
  obtain ⟨r, er, hr⟩ := ih (i + 1) (out.set i ⟨z0, z1, z2, z3, z4, z5⟩) (by omega) (by omega) (by simpa using ho) (fun j hji M => by
   rw [List.map_set]
   by_cases e : i = j
   ·subst e
    rw [List.getElem?_set_self (by rw [List.length_map]; omega), gz M, List.getElem?_map, List.getElem?_eq_getElem hil]
    rfl
   ·rw [List.getElem?_set_ne e]; exact hj j (by omega) M)
  refine ⟨r, Ev.step (f := fun k => (laws_toEl.f k xs[i].f0 xs[i].f1 xs[i].f2 xs[i].f3 xs[i].f4 xs[i].f5).bind fun bt160 => (if (i : Int) < (out.length : Int) then (laws_toElS.l0 k xs (out.set ((i : Int) : Int).toNat (⟨bt160.1, bt160.2.1, bt160.2.2.1, bt160.2.2.2.1, bt160.2.2.2.2.1, bt160.2.2.2.2.2⟩ : S31)) (wrap64 ((i : Int) + 1))) else (none))) (fun k => ?_) (Ev.bind ez (Ev.ite_pos (by omega) ?_)), hr⟩
  ·simp only [laws_toElS.l0]; rw [if_pos (by omega), if_pos (by omega), hrd]
  ·rw [w64 (i := (i : Int) + 1) (by omega) (by omega), Int.toNat_natCast, show ((i : Int) + 1) = ((i + 1 : Nat) : Int) from rfl]; exact er
theorem toEl_w : ∀ (m : Nat) (y : S25), G25 1048576 m y → ∃ z : S31, Ev (fun k => laws_toEl.f k y.f0 y.f1 y.f2 y.f3 y.f4 y.f5) (z.f0, z.f1, z.f2, z.f3, z.f4, z.f5) ∧ ∀ M, wt M z = wl M y := by
 intro m
 induction m with
 | zero => intro y hy; exact hy.elim
 | succ m ih =>
  intro y hy
  obtain ⟨w0, w1, hs2, ⟨hl3, hg3⟩, hs4, hl5, hg5⟩ := hy
  obtain ⟨r, er, hr⟩ := toElS_wl y.f5 hl5 (fun z hz => ih z (hg5 z hz)) y.f5.length 0 (List.replicate y.f5.length z31) (by omega) (by omega) (by simp) (fun j hj => by omega)
  have er' : Ev (fun k => laws_toElS.f k y.f5) r := by
   refine Ev.step (f := fun k => laws_toElS.l0 k y.f5 (List.replicate y.f5.length z31) 0) (fun k => ?_) er
   simp only [laws_toElS.f]; rw [if_pos (by omega), if_pos (by omega), Int.toNat_natCast]
  refine ⟨⟨y.f0, y.f1, y.f2, y.f3.map toA, y.f4, r⟩, Ev.step (f := fun k => (laws_toAttrS.f k y.f3).bind fun t174 => ((laws_toElS.f k y.f5).bind fun t177 => (some (y.f0, y.f1, y.f2, t174, y.f4, t177)))) (fun k => ?_) (Ev.bind (toAttrS_tells y.f3 hl3) (Ev.bind er' (Ev.const fun _ => rfl))), fun M => ?_⟩
  ·simp only [laws_toEl.f]
  ·cases M with
   | zero => rfl
   | succ M =>
    have hlen : r.length = y.f5.length := by have h := congrArg List.length (hr 0); rw [List.length_map, List.length_map] at h; exact h
    show y.f2.size + y.f4.size + wa (y.f3.map toA) + r.length + (r.map (wt M)).sum = y.f2.size + y.f4.size + (wb y.f3 + y.f3.length) + y.f5.length + (y.f5.map (wl M)).sum
    rw [wa_map, hr M, hlen]
end Go.Proofs.YthpdpnpojgegiaaGreatDoor.Sd
namespace Go.Proofs.YthpdpnpojgegiaaGreatDoor.Le
open Go.RowKit Go.Proofs.YthpdpnpojgegiaaGreatDoor.P Go.Proofs.YthpdpnpojgegiaaGreatDoor.Evs Go.Proofs.YthpdpnpojgegiaaGreatDoorW.PrintWords Go.Proofs.YthpdpnpojgegiaaGreatDoorW.PrintLast

theorem ElSize_loop (y : S31) (hlen : y.f5.length ≤ 1048576)
  (hx : ∀ z ∈ y.f5, ∃ r, Ev (fun k => spec_ElSize.f k z.f0 z.f1 z.f2 z.f3 z.f4 z.f5) r ∧ Ev (fun k => impl_ElSize.f k z.f0 z.f1 z.f2 z.f3 z.f4 z.f5) r) :
  ∀ (d i : Nat) (acc : Int), y.f5.length - i = d → i ≤ y.f5.length →
  ∃ r, Ev (fun k => spec_ElSize.l0 k acc i y.f0 y.f1 y.f2 y.f3 y.f4 y.f5) r ∧ Ev (fun k => impl_ElSize.l0 k acc y.f5 y.f5.length i) r := by
 intro d
 induction d with
 | zero =>
  intro i acc hd hi
  refine ⟨acc, Ev.here fun k => ?_, Ev.here fun k => ?_⟩
  ·simp only [spec_ElSize.l0]; rw [if_neg (by omega)]
  ·simp only [impl_ElSize.l0]; rw [if_neg (by omega)]
 | succ d ih =>
  intro i acc hd hi
  have hil : i < y.f5.length := by omega
  obtain ⟨t, e1, e2⟩ := hx y.f5[i] (List.getElem_mem hil)
  have hrd : rd_T31 y.f5 (i : Int) = y.f5[i] := rdT y.f5 _ i hil
  obtain ⟨r, er1, er2⟩ := ih (i + 1) (wrap64 (acc + t)) (by omega) (by omega)
  have e1' := w64 (i := (i : Int) + 1) (by omega) (by omega)
  refine ⟨r, ?_, ?_⟩
  ·refine Ev.step (f := fun k => (spec_ElSize.f k y.f5[i].f0 y.f5[i].f1 y.f5[i].f2 y.f5[i].f3 y.f5[i].f4 y.f5[i].f5).bind fun t121 => (spec_ElSize.l0 k (wrap64 (acc + t121)) (wrap64 ((i : Int) + 1)) y.f0 y.f1 y.f2 y.f3 y.f4 y.f5)) (fun k => ?_) (Ev.bind e1 ?_)
   ·simp only [spec_ElSize.l0]; rw [if_pos (by omega), if_pos (by omega), hrd]
   ·rw [e1', show ((i : Int) + 1) = ((i + 1 : Nat) : Int) from rfl]; exact er1
  ·refine Ev.step (f := fun k => (impl_ElSize.f k y.f5[i].f0 y.f5[i].f1 y.f5[i].f2 y.f5[i].f3 y.f5[i].f4 y.f5[i].f5).bind fun t183 => (impl_ElSize.l0 k (wrap64 (acc + t183)) y.f5 (y.f5.length : Int) (wrap64 ((i : Int) + 1)))) (fun k => ?_) (Ev.bind e2 ?_)
   ·simp only [impl_ElSize.l0]; rw [if_pos (by omega), if_pos (by omega), if_pos (by omega), hrd]
   ·rw [e1', show ((i : Int) + 1) = ((i + 1 : Nat) : Int) from rfl]; exact er2

theorem ElSize_same : ∀ (m : Nat) (y : S31), G31 1048576 m y → ∃ r, Ev (fun k => spec_ElSize.f k y.f0 y.f1 y.f2 y.f3 y.f4 y.f5) r ∧ Ev (fun k => impl_ElSize.f k y.f0 y.f1 y.f2 y.f3 y.f4 y.f5) r := by
 intro m
 induction m with
 | zero => intro y hy; exact hy.elim
 | succ m ih =>
  intro y hy
  obtain ⟨_, _, _, _, _, hl5, hg5⟩ := hy
  obtain ⟨r, e1, e2⟩ := ElSize_loop y hl5 (fun z hz => ih z (hg5 z hz)) y.f5.length 0 1 (by omega) (by omega)
  exact ⟨r, Ev.step (fun k => by simp only [spec_ElSize.f]; rfl) e1, Ev.step (fun k => by simp only [impl_ElSize.f]; rfl) e2⟩

end Go.Proofs.YthpdpnpojgegiaaGreatDoor.Le
namespace Go.Proofs.YthpdpnpojgegiaaGreatDoor.Pure
open Go.RowKit Go.Proofs.YthpdpnpojgegiaaGreatDoor.P Go.Proofs.YthpdpnpojgegiaaGreatDoor.Evs Go.Proofs.YthpdpnpojgegiaaGreatDoor.Le Go.Proofs.YthpdpnpojgegiaaGreatDoorW.PrintWords Go.Proofs.YthpdpnpojgegiaaGreatDoorW.PrintLast

theorem DocOk_loop (m : Nat) (hm : m ≤ 1048577) (xs : List S31) (hlen : xs.length ≤ 1048576) (hx : ∀ y ∈ xs, G31 1048576 m y) : ∀ (d i a : Nat) (b : Int), xs.length - i = d → i ≤ xs.length → a ≤ i →
  ∃ v : Bool, Ev (fun k => spec_DocOk.l0 k xs a b i) v ∧ Ev (fun k => impl_DocOk.l0 k a b xs xs.length i) v := by
 intro d
 induction d with
 | zero =>
  intro i a b hd hi ha
  by_cases c : (a : Int) = 1
  ·exact ⟨decide (b ≤ 3000), Ev.here fun k => by simp only [spec_DocOk.l0]; rw [if_neg (by omega), if_pos c], Ev.here fun k => by simp only [impl_DocOk.l0]; rw [if_neg (by omega), if_pos c]⟩
  ·exact ⟨false, Ev.here fun k => by simp only [spec_DocOk.l0]; rw [if_neg (by omega), if_neg c], Ev.here fun k => by simp only [impl_DocOk.l0]; rw [if_neg (by omega), if_neg c]⟩
 | succ d ih =>
  intro i a b hd hi ha
  have hil : i < xs.length := by omega
  have hrd : rd_T31 xs (i : Int) = xs[i] := rdT xs _ i hil
  obtain ⟨o, eo1, eo2⟩ := ElOk_same m xs[i] (hx _ (List.getElem_mem hil)) hm
  obtain ⟨s, es1, es2⟩ := ElSize_same m xs[i] (hx _ (List.getElem_mem hil))
  have sS : ∀ k, spec_DocOk.l0 (k + 1) xs a b i = (spec_ElOk.f k xs[i].f0 xs[i].f1 xs[i].f2 xs[i].f3 xs[i].f4 xs[i].f5).bind fun t432 => (if t432 = true then (spec_DocOk.j1 k xs a b i (xs[i].f0 == 2)) else (spec_DocOk.j1 k xs a b i true)) := fun k => by
   simp only [spec_DocOk.l0, hrd]; rw [if_pos (by omega), if_pos (by omega)]
  have sI : ∀ k, impl_DocOk.l0 (k + 1) a b xs xs.length i = (impl_ElOk.f k xs[i].f0 xs[i].f1 xs[i].f2 xs[i].f3 xs[i].f4 xs[i].f5).bind fun t444 => (if t444 = true then (impl_DocOk.j1 k a b xs xs.length i (xs[i].f0 == 2) xs[i].f0 xs[i].f1 xs[i].f2 xs[i].f3 xs[i].f4 xs[i].f5) else (impl_DocOk.j1 k a b xs xs.length i true xs[i].f0 xs[i].f1 xs[i].f2 xs[i].f3 xs[i].f4 xs[i].f5)) := fun k => by
   simp only [impl_DocOk.l0, hrd]; rw [if_pos (by omega), if_pos (by omega), if_pos (by omega)]
  have no1 : Ev (fun k => spec_DocOk.j1 k xs a b i true) false := Ev.here fun k => by simp only [spec_DocOk.j1]; rw [if_pos True.intro]
  have no2 : Ev (fun k => impl_DocOk.j1 k a b xs xs.length i true xs[i].f0 xs[i].f1 xs[i].f2 xs[i].f3 xs[i].f4 xs[i].f5) false := Ev.here fun k => by simp only [impl_DocOk.j1]; rw [if_pos True.intro]
  cases o with
  | false => exact ⟨false, Ev.step sS (Ev.bind eo1 (Ev.ite_neg Bool.false_ne_true no1)), Ev.step sI (Ev.bind eo2 (Ev.ite_neg Bool.false_ne_true no2))⟩
  | true =>
   by_cases c2 : xs[i].f0 = 2
   ·have e : (xs[i].f0 == 2) = true := beq_iff_eq.mpr c2
    rw [e] at sS sI
    exact ⟨false, Ev.step sS (Ev.bind eo1 (Ev.ite_pos rfl no1)), Ev.step sI (Ev.bind eo2 (Ev.ite_pos rfl no2))⟩
   ·have e : (xs[i].f0 == 2) = false := beq_eq_false_iff_ne.mpr c2
    rw [e] at sS sI
    have hw := succ64 (show i < 9223372036854775807 by omega)
    by_cases c1 : xs[i].f0 = 1
    ·obtain ⟨v, v1, v2⟩ := ih (i + 1) (a + 1) (wrap64 (b + s)) (by omega) (by omega) (by omega)
     have ha1 : wrap64 ((a : Int) + 1) = ((a + 1 : Nat) : Int) := succ64 (by omega)
     refine ⟨v, Ev.step sS (Ev.bind eo1 (Ev.ite_pos rfl ?_)), Ev.step sI (Ev.bind eo2 (Ev.ite_pos rfl ?_))⟩
     ·refine Ev.step (f := fun k => (spec_ElSize.f k xs[i].f0 xs[i].f1 xs[i].f2 xs[i].f3 xs[i].f4 xs[i].f5).bind fun t437 => (spec_DocOk.l0 k xs ((a + 1 : Nat) : Int) (wrap64 (b + t437)) ((i + 1 : Nat) : Int))) (fun k => ?_) (Ev.bind es1 v1)
      simp only [spec_DocOk.j1, hrd, hw, spec_l1Bit.f]
      rw [if_neg Bool.false_ne_true, if_pos (by omega), if_pos (by omega), if_pos (beq_iff_eq.mpr c1)]
      simp only [Option.bind_some, ha1]
     ·refine Ev.step (f := fun k => (impl_ElSize.f k xs[i].f0 xs[i].f1 xs[i].f2 xs[i].f3 xs[i].f4 xs[i].f5).bind fun t445 => (impl_DocOk.l0 k ((a + 1 : Nat) : Int) (wrap64 (b + t445)) xs xs.length ((i + 1 : Nat) : Int))) (fun k => ?_) (Ev.bind es2 v2)
      simp only [impl_DocOk.j1, hw, ha1]
      rw [if_neg Bool.false_ne_true, if_pos c1]
    ·obtain ⟨v, v1, v2⟩ := ih (i + 1) a (wrap64 (b + s)) (by omega) (by omega) (by omega)
     have ha1 : wrap64 ((a : Int) + 0) = (a : Int) := by rw [w64 (by omega) (by omega), Int.add_zero]
     refine ⟨v, Ev.step sS (Ev.bind eo1 (Ev.ite_pos rfl ?_)), Ev.step sI (Ev.bind eo2 (Ev.ite_pos rfl ?_))⟩
     ·refine Ev.step (f := fun k => (spec_ElSize.f k xs[i].f0 xs[i].f1 xs[i].f2 xs[i].f3 xs[i].f4 xs[i].f5).bind fun t437 => (spec_DocOk.l0 k xs (a : Int) (wrap64 (b + t437)) ((i + 1 : Nat) : Int))) (fun k => ?_) (Ev.bind es1 v1)
      simp only [spec_DocOk.j1, hrd, hw, spec_l1Bit.f]
      rw [if_neg Bool.false_ne_true, if_pos (by omega), if_pos (by omega), if_neg (by rw [beq_iff_eq]; exact c1)]
      simp only [Option.bind_some, ha1]
     ·refine Ev.step (f := fun k => (impl_ElSize.f k xs[i].f0 xs[i].f1 xs[i].f2 xs[i].f3 xs[i].f4 xs[i].f5).bind fun t445 => (impl_DocOk.l0 k (a : Int) (wrap64 (b + t445)) xs xs.length ((i + 1 : Nat) : Int))) (fun k => ?_) (Ev.bind es2 v2)
      simp only [impl_DocOk.j1, hw]
      rw [if_neg Bool.false_ne_true, if_neg c1]
theorem eqElS_self (m : Nat) (xs : List S31) (hlen : xs.length ≤ 1048576) (hx : ∀ y ∈ xs, G31 1048576 m y) : Ev (fun k => laws_eqElS.f k xs xs) true := by
 refine Ev.step (f := fun k => laws_eqElS.l0 k xs xs 0) (fun k => ?_) (eqElS_loop xs hlen (fun z hz => eqEl_self m z (hx z hz)) xs.length 0 (by omega) (by omega))
 simp only [laws_eqElS.f, if_true]
end Go.Proofs.YthpdpnpojgegiaaGreatDoor.Pure
namespace Go.Proofs.YthpdpnpojgegiaaGreatDoor.Pure
open Go.RowKit Go.Proofs.YthpdpnpojgegiaaGreatDoor.P Go.Proofs.YthpdpnpojgegiaaGreatDoor.Evs Go.Proofs.YthpdpnpojgegiaaGreatDoor.Le Go.Proofs.YthpdpnpojgegiaaGreatDoor.Sd Go.Proofs.YthpdpnpojgegiaaGreatDoorW.PrintWords Go.Proofs.YthpdpnpojgegiaaGreatDoorW.PrintLast

/-- An element of a document, said, and its end of line. -/
def ln (m : Nat) (y : S31) : ByteArray := sd m y (-1) ++ (⟨#[10]⟩ : ByteArray)
theorem ln_size (m : Nat) (y : S31) : (ln m y).size = (sd m y (-1)).size + 1 := by unfold ln; rw [ByteArray.size_append]; rfl
theorem cat_lines (m : Nat) (l : List S31) : (cat (l.map (ln m))).size ≤ 201 * (l.length + (l.map (wt m)).sum) := by
 induction l with
 | nil => exact Nat.zero_le _
 | cons y l ih =>
  have h1 := sd_size m y (-1)
  have h2 : (cat ((y :: l).map (ln m))).size = (sd m y (-1)).size + 1 + (cat (l.map (ln m))).size := by
   show (ln m y ++ cat (l.map (ln m))).size = _
   rw [ByteArray.size_append, ln_size]
  rw [h2, List.length_cons, List.map_cons, List.sum_cons]
  generalize (sd m y (-1)).size = p at *
  generalize (cat (l.map (ln m))).size = q at *
  omega
theorem lines (m : Nat) (xs : List S31) (hlen : xs.length ≤ 1048576) (hx : ∀ y ∈ xs, G31 1048576 m y) : ∀ (d i : Nat) (acc : ByteArray), xs.length - i = d → i ≤ xs.length → acc.size + (cat ((xs.drop i).map (ln m))).size ≤ 70368744177664 →
  Ev (fun k => spec_Write.l0 k xs acc i) (acc ++ cat ((xs.drop i).map (ln m))) ∧ Ev (fun k => impl_Write.l0 k acc xs xs.length i) (acc ++ cat ((xs.drop i).map (ln m))) := by
 intro d
 induction d with
 | zero =>
  intro i acc hd hi _
  obtain rfl : i = xs.length := by omega
  have e : acc ++ cat ((xs.drop xs.length).map (ln m)) = acc := by rw [List.drop_length]; show acc ++ ByteArray.empty = acc; simp
  rw [e]
  exact ⟨Ev.here fun k => by simp only [spec_Write.l0]; rw [if_neg (by omega)], Ev.here fun k => by simp only [impl_Write.l0]; rw [if_neg (by omega)]⟩
 | succ d ih =>
  intro i acc hd hi hs
  have hil : i < xs.length := by omega
  have hrd : rd_T31 xs (i : Int) = xs[i] := rdT xs _ i hil
  have hw := succ64 (show i < 9223372036854775807 by omega)
  have hdr : cat ((xs.drop i).map (ln m)) = ln m xs[i] ++ cat ((xs.drop (i + 1)).map (ln m)) := by rw [List.drop_eq_getElem_cons hil]; rfl
  rw [hdr] at hs ⊢
  rw [ByteArray.size_append, ln_size] at hs
  have g := hx _ (List.getElem_mem hil)
  have s1 : (acc ++ sd m xs[i] (-1)).size = acc.size + (sd m xs[i] (-1)).size := ByteArray.size_append
  have s2 : ((acc ++ sd m xs[i] (-1)) ++ (⟨#[10]⟩ : ByteArray)).size = acc.size + (sd m xs[i] (-1)).size + 1 := by rw [ByteArray.size_append, s1]; rfl
  have i1 := impl_said m xs[i] g (-1) acc (by omega)
  have p1 := spec_said m xs[i] g (-1) (by omega)
  obtain ⟨v1, v2⟩ := ih (i + 1) ((acc ++ sd m xs[i] (-1)) ++ (⟨#[10]⟩ : ByteArray)) (by omega) (by omega) (by rw [s2]; omega)
  have e : ((acc ++ sd m xs[i] (-1)) ++ (⟨#[10]⟩ : ByteArray)) ++ cat ((xs.drop (i + 1)).map (ln m)) = acc ++ (ln m xs[i] ++ cat ((xs.drop (i + 1)).map (ln m))) := by
   unfold ln; simp only [ByteArray.append_assoc]
  rw [e] at v1 v2
  refine ⟨Ev.step (f := fun k => (spec_l17Said.f k xs[i].f0 xs[i].f1 xs[i].f2 xs[i].f3 xs[i].f4 xs[i].f5 (-1)).bind fun t => (if acc.size + t.size ≤ 9223372036854775807 then (if (acc ++ t).size + 1 ≤ 9223372036854775807 then (spec_Write.l0 k xs ((acc ++ t) ++ (⟨#[10]⟩ : ByteArray)) ((i + 1 : Nat) : Int)) else none) else none)) (fun k => ?_) (Ev.bind p1 (Ev.ite_pos (by omega) (Ev.ite_pos (by rw [s1]; omega) v1))),
   Ev.step (f := fun k => (impl_sayEl.f k acc xs[i].f0 xs[i].f1 xs[i].f2 xs[i].f3 xs[i].f4 xs[i].f5 (-1)).bind fun t => (if t.size + 1 ≤ 140737488355328 then (impl_Write.l0 k (t ++ (⟨#[10]⟩ : ByteArray)) xs xs.length ((i + 1 : Nat) : Int)) else none)) (fun k => ?_) (Ev.bind i1 (Ev.ite_pos (by rw [s1]; omega) v2))⟩
  ·simp only [spec_Write.l0, hrd, hw]; rw [if_pos (by omega), if_pos (by omega)]
  ·simp only [impl_Write.l0, hrd, hw]; rw [if_pos (by omega), if_pos (by omega), if_pos (by omega)]
theorem Write_same (m : Nat) (hm : m ≤ 1048577) (xs : List S31) (hlen : xs.length ≤ 1048576) (hx : ∀ y ∈ xs, G31 1048576 m y) (hw : (xs.map (wt m)).sum ≤ 1048576) : ∃ r : ByteArray, Ev (fun k => spec_Write.f k xs) r ∧ Ev (fun k => impl_Write.f k xs) r := by
 obtain ⟨v, v1, v2⟩ := DocOk_loop m hm xs hlen hx xs.length 0 0 0 (by omega) (by omega) (by omega)
 have e1 : Ev (fun k => spec_DocOk.f k xs) v := v1
 have e2 : Ev (fun k => impl_DocOk.f k xs) v := v2
 unfold spec_Write.f impl_Write.f
 cases v with
 | false => exact ⟨⟨#[]⟩, Ev.bind e1 (Ev.ite_neg Bool.false_ne_true (Ev.const fun _ => rfl)), Ev.bind e2 (Ev.ite_neg Bool.false_ne_true (Ev.const fun _ => rfl))⟩
 | true =>
  have e : (⟨#[]⟩ : ByteArray) ++ (⟨#[60, 63, 120, 109, 108, 32, 118, 101, 114, 115, 105, 111, 110, 61, 34, 49, 46, 48, 34, 63, 62, 10]⟩ : ByteArray) = (⟨#[60, 63, 120, 109, 108, 32, 118, 101, 114, 115, 105, 111, 110, 61, 34, 49, 46, 48, 34, 63, 62, 10]⟩ : ByteArray) := by show ByteArray.empty ++ _ = _; simp
  rw [e]
  have hc := cat_lines m xs
  obtain ⟨w1, w2⟩ := lines m xs hlen hx xs.length 0 (⟨#[60, 63, 120, 109, 108, 32, 118, 101, 114, 115, 105, 111, 110, 61, 34, 49, 46, 48, 34, 63, 62, 10]⟩ : ByteArray) (by omega) (by omega) (by
   rw [List.drop_zero]
   show 22 + _ ≤ _
   generalize (cat (xs.map (ln m))).size = q at *
   omega)
  exact ⟨_, Ev.bind e1 (Ev.ite_pos rfl w1), Ev.bind e2 (Ev.ite_pos rfl w2)⟩
theorem szElS_w (m : Nat) (xs : List S25) (left : Int) (hlen : xs.length ≤ maxLen) (hx : ∀ y ∈ xs, G25 maxLen m y) (h0 : 0 ≤ left) (h1 : left ≤ 1048576) :
  ∃ t, Ev (fun k => laws_szElS.f k xs left) t ∧ (0 ≤ t → ∀ M, (xs.map (wl M)).sum ≤ left.toNat) := by
 unfold maxLen at hlen
 have e2 : wrap64 (left - (xs.length : Int)) = left - (xs.length : Int) := w64 (by omega) (by omega)
 by_cases c : left - (xs.length : Int) < 0
 ·exact ⟨-1, Ev.here fun k => by simp only [laws_szElS.f, e2]; rw [if_pos c], by omega⟩
 ·obtain ⟨t, ev, t0, t1, tq⟩ := szElS_wl xs (by omega) (fun y hy left h0 h1 => szEl_w m y (hx y hy) left h0 h1) xs.length 0 (left - (xs.length : Int)) (by omega) (by omega) (by omega) (by omega)
  refine ⟨t, Ev.step (f := fun k => laws_szElS.l0 k xs (left - (xs.length : Int)) 0) (fun k => by simp only [laws_szElS.f, e2]; rw [if_neg c]) ev, fun ht M => ?_⟩
  have q := tq ht M
  rw [List.drop_zero] at q
  omega
theorem toElS_w (m : Nat) (xs : List S25) (hlen : xs.length ≤ 1048576) (hx : ∀ y ∈ xs, G25 1048576 m y) : ∃ r : List S31, Ev (fun k => laws_toElS.f k xs) r ∧ ∀ M, r.map (wt M) = xs.map (wl M) := by
 obtain ⟨r, er, wr⟩ := toElS_wl xs hlen (fun z hz => toEl_w m z (hx z hz)) xs.length 0 (List.replicate xs.length z31) (by omega) (by omega) (by simp) (fun j hj => by omega)
 refine ⟨r, Ev.step (f := fun k => laws_toElS.l0 k xs (List.replicate xs.length z31) 0) (fun k => ?_) er, wr⟩
 simp only [laws_toElS.f]; rw [if_pos (by omega), if_pos (by omega), Int.toNat_natCast]
theorem FnExactWrite : laws_FnExactWrite.Pure := by
 intro n l ⟨h1, h2⟩
 suffices h : Ev (fun k => laws_FnExactWrite.f k l) true from h.rounds
 unfold laws_FnExactWrite.f
 obtain ⟨t, et, _, _, tq⟩ := szElS_tells n l 1048576 h1 h2 (by omega) (by omega)
 by_cases c : t < 0
 ·exact Ev.bind et (Ev.ite_pos c (Ev.now _))
 obtain ⟨q1, q2⟩ := tq (by omega)
 obtain ⟨r, er, hr, gr⟩ := toElS_tells _ l q1 q2
 have hlr : l.length ≤ 1048576 := by omega
 obtain ⟨t', et', tw⟩ := szElS_w n l 1048576 h1 h2 (by omega) (by omega)
 obtain rfl := Ev.uniq et et'
 obtain ⟨r', er', wr⟩ := toElS_w _ l q1 q2
 obtain rfl := Ev.uniq er er'
 obtain ⟨s, e1, e2⟩ := Write_same _ (by omega) r (by omega) gr (by rw [wr]; exact tw (by omega) _)
 exact Ev.bind et (Ev.ite_neg c (Ev.bind er (Ev.bind e1 (Ev.bind er (Ev.bind e2 (Ev.ite_pos rfl (Ev.bind er (Ev.bind (eqElS_self _ r (by omega) gr) (Ev.ite_pos rfl (Ev.now _))))))))))
end Go.Proofs.YthpdpnpojgegiaaGreatDoor.Pure
