/- Texts and values as they stand in a page: the program's strings.ReplaceAll one behind the other, and the reference's one pass. No conditions but the size. -/
import Derived.Test.YtgljgbkbjlondaaDoorEvBase
import Derived.Lib.ReplaceLaws
import Derived.Lib.IndexBytes
import Derived.Lib.LazyBuf
import Derived.Test.YtgljgbkbjlondaaDoorPp22
import Derived.Test.YtgljgbkbjlondaaDoorPp23
import Derived.Test.YtgljgbkbjlondaaDoorPp4
set_option linter.unusedVariables false
set_option linter.unusedSimpArgs false
namespace Go.Proofs.YtgljgbkbjlondaaDoor.Esc
open Go Go.RowKit Go.Proofs.YtgljgbkbjlondaaDoor.P Go.Proofs.YtgljgbkbjlondaaDoor.Evs Go.Proofs.YtgljgbkbjlondaaDoorW.PrintWords Go.Proofs.YtgljgbkbjlondaaDoorW.PrintLast

/-! ### strings.ReplaceAll of one byte -/
def one (c : UInt8) (new : List UInt8) (b : UInt8) : List UInt8 := if b = c then new else [b]
theorem skipK (c : UInt8) (new : List UInt8) (b : UInt8) (hb : b ≠ c) (l : List UInt8) : ∀ k, Lib.replaceK [c] new k (b :: l) = b :: Lib.replaceK [c] new k l := by
 intro k
 cases k with
 | zero => rfl
 | succ k =>
  have hi : Lib.index (b :: l) [c] = if Lib.index l [c] == -1 then -1 else Lib.index l [c] + 1 := by
   rw [Lib.index_one, Lib.index_one]
   rw [show Lib.indexByte (b :: l) c = (if (b == c) = true then 0 else if (Lib.indexByte l c == -1) = true then -1 else Lib.indexByte l c + 1) from rfl, if_neg (by simpa using hb)]
  rcases Lib.index_spec l [c] with ⟨h, _⟩ | ⟨i, h, _⟩
  ·have h2 : Lib.index (b :: l) [c] = -1 := by rw [hi, h]; rfl
   simp only [Lib.replaceK, h, h2]
   rfl
  ·have h2 : Lib.index (b :: l) [c] = ((i + 1 : Nat) : Int) := by
    rw [hi, h, if_neg (by rw [beq_iff_eq]; omega)]; rfl
   rw [Lib.replaceK_hit [c] new k (b :: l) (i + 1) h2, Lib.replaceK_hit [c] new k l i h]
   rfl
theorem replaceK_one (c : UInt8) (new : List UInt8) : ∀ l : List UInt8, Lib.replaceK [c] new (Lib.count l [c]) l = l.flatMap (one c new) := by
 intro l
 induction l with
 | nil => rfl
 | cons b l ih =>
  by_cases h : b = c
  ·subst h
   rw [Lib.count_cons_eq, Nat.add_comm 1, Lib.replaceK_hit [b] new _ (b :: l) 0 (by rw [Lib.index_one]; simp [Lib.indexByte])]
   show [] ++ new ++ Lib.replaceK [b] new (Lib.count l [b]) l = _
   rw [ih, List.flatMap_cons]
   simp [one]
  ·rw [Lib.count_cons_ne b c l h, skipK c new b h, ih, List.flatMap_cons]
   simp [one, h]
theorem one_self (c : UInt8) (l : List UInt8) : l.flatMap (one c [c]) = l := by
 induction l with
 | nil => rfl
 | cons b l ih =>
  rw [List.flatMap_cons, ih]
  unfold one
  by_cases h : b = c
  ·rw [if_pos h, h]; rfl
  ·rw [if_neg h]; rfl
theorem replaceAll_one (c : UInt8) (new l : List UInt8) : Lib.replaceAll l [c] new = l.flatMap (one c new) := by
 unfold Lib.replaceAll Lib.replace
 by_cases h : [c] = new
 ·rw [if_pos (by simpa using h), ← h, one_self]
 ·rw [if_neg (by simpa using h)]
  have e : Lib.replaceNum l [c] (-1) = Lib.count l [c] := by
   unfold Lib.replaceNum
   rw [if_pos (Or.inl (by decide))]
  rw [e, replaceK_one]
theorem flat_length (g : UInt8 → List UInt8) (hg : ∀ b, (g b).length ≤ 6) : ∀ l : List UInt8, (l.flatMap g).length ≤ 6 * l.length
 | [] => Nat.le_refl _
 | b :: l => by
  have h1 := flat_length g hg l
  have h2 := hg b
  rw [List.flatMap_cons, List.length_append, List.length_cons]; omega
theorem repl_step (l : List UInt8) (hl : l.length ≤ 1048576) (g : UInt8 → List UInt8) (hg : ∀ b, (g b).length ≤ 6) (c : UInt8) (new : ByteArray) :
  repl ⟨(l.flatMap g).toArray⟩ ⟨#[c]⟩ new = some ⟨(l.flatMap fun b => (g b).flatMap (one c new.data.toList)).toArray⟩ := by
 unfold repl replB
 have hs : (⟨(l.flatMap g).toArray⟩ : ByteArray).size = (l.flatMap g).length := rfl
 have := flat_length g hg l
 rw [if_pos (by rw [hs]; omega)]
 show some (⟨(Lib.replaceAll (l.flatMap g) [c] new.data.toList).toArray⟩ : ByteArray) = _
 rw [replaceAll_one, List.flatMap_assoc]
theorem all_bytes {p : UInt8 → Prop} (h : ∀ n : Nat, n < 256 → p (UInt8.ofNat n)) (b : UInt8) : p b := by
 have := h b.toNat b.toNat_lt
 rwa [UInt8.ofNat_toNat] at this

/-! ### the seven swaps -/
def amp : ByteArray := ⟨#[38, 97, 109, 112, 59]⟩
def lts : ByteArray := ⟨#[38, 108, 116, 59]⟩
def gts : ByteArray := ⟨#[38, 103, 116, 59]⟩
def ret : ByteArray := ⟨#[38, 35, 49, 51, 59]⟩
def quo : ByteArray := ⟨#[38, 113, 117, 111, 116, 59]⟩
def g0 (b : UInt8) : List UInt8 := [b]
def g1 (b : UInt8) : List UInt8 := (g0 b).flatMap (one 38 amp.data.toList)
def g2 (b : UInt8) : List UInt8 := (g1 b).flatMap (one 60 lts.data.toList)
def g3 (b : UInt8) : List UInt8 := (g2 b).flatMap (one 62 gts.data.toList)
def g4 (b : UInt8) : List UInt8 := (g3 b).flatMap (one 13 ret.data.toList)
theorem l0 : ∀ b, (g0 b).length ≤ 6 := fun b => by show [b].length ≤ 6; simp
theorem l1 : ∀ b, (g1 b).length ≤ 6 := all_bytes (by decide +kernel)
theorem l2 : ∀ b, (g2 b).length ≤ 6 := all_bytes (by decide +kernel)
theorem l3 : ∀ b, (g3 b).length ≤ 6 := all_bytes (by decide +kernel)
theorem l4 : ∀ b, (g4 b).length ≤ 6 := all_bytes (by decide +kernel)
theorem flat_id (s : ByteArray) : s = ⟨(s.data.toList.flatMap g0).toArray⟩ := by
 have : s.data.toList.flatMap g0 = s.data.toList := by
  show s.data.toList.flatMap (fun b => [b]) = _
  rw [List.flatMap_singleton']
 rw [this]
theorem textSaid_tells (s : ByteArray) (hs : s.size ≤ 1048576) : impl_textSaid.f s = some ⟨(s.data.toList.flatMap g4).toArray⟩ := by
 have hl : s.data.toList.length ≤ 1048576 := hs
 have e : impl_escaped.f s = some ⟨(s.data.toList.flatMap g3).toArray⟩ := by
  unfold impl_escaped.f
  have e1 : repl s ⟨#[38]⟩ amp = some ⟨(s.data.toList.flatMap g1).toArray⟩ := by
   rw [show repl s ⟨#[38]⟩ amp = repl ⟨(s.data.toList.flatMap g0).toArray⟩ ⟨#[38]⟩ amp from congrArg (fun z => repl z _ _) (flat_id s)]
   exact repl_step _ hl g0 l0 38 amp
  have e2 : repl ⟨(s.data.toList.flatMap g1).toArray⟩ ⟨#[60]⟩ lts = some ⟨(s.data.toList.flatMap g2).toArray⟩ := repl_step _ hl g1 l1 60 lts
  have e3 : repl ⟨(s.data.toList.flatMap g2).toArray⟩ ⟨#[62]⟩ gts = some ⟨(s.data.toList.flatMap g3).toArray⟩ := repl_step _ hl g2 l2 62 gts
  show ((repl s ⟨#[38]⟩ amp).bind fun a => (repl a ⟨#[60]⟩ lts).bind fun b => repl b ⟨#[62]⟩ gts) = _
  rw [e1, Option.bind_some, e2, Option.bind_some, e3]
 unfold impl_textSaid.f
 rw [e, Option.bind_some]
 exact repl_step _ hl g3 l3 13 ret
/-! ### the reference's one pass -/
def fidx : List UInt8 → Nat → UInt8 → Int
 | [], _, _ => -1
 | x :: xs, j, b => if x = b then (j : Int) else fidx xs (j + 1) b
theorem bt_list (s : ByteArray) (j : Nat) (h : j < s.data.toList.length) : bt s (j : Int) = ((s.data.toList[j]).toNat : Int) := by
 have h' : j < s.size := h
 unfold bt
 rw [Int.toNat_natCast, dif_pos h']
 rfl
theorem Find_loop (w : ByteArray) (b : UInt8) (hw : w.size ≤ 1048576) : ∀ (d j : Nat), w.size - j = d → j ≤ w.size →
  Ev (fun k => spec_l4Find.l0 k w j (b.toNat : Int)) (fidx (w.data.toList.drop j) j b) := by
 intro d
 have hsz : w.data.toList.length = w.size := rfl
 induction d with
 | zero =>
  intro j hd hj
  rw [List.drop_eq_nil_of_le (by omega)]
  refine Ev.here fun k => ?_
  simp only [spec_l4Find.l0]; rw [if_neg (by omega)]; rfl
 | succ d ih =>
  intro j hd hj
  have hjl : j < w.data.toList.length := by omega
  rw [List.drop_eq_getElem_cons hjl]
  have hstep : ∀ k, spec_l4Find.l0 (k + 1) w j (b.toNat : Int) = if (w.data.toList[j]) = b then some (j : Int) else spec_l4Find.l0 k w ((j + 1 : Nat) : Int) (b.toNat : Int) := by
   intro k
   simp only [spec_l4Find.l0]
   rw [if_pos (by omega), if_pos (by omega), bt_list w j hjl, w64 (i := (j : Int) + 1) (by omega) (by omega)]
   by_cases c : w.data.toList[j] = b
   ·rw [if_pos c, if_pos (by rw [c])]
   ·rw [if_neg c, if_neg (fun e => c (UInt8.toNat_inj.mp (Int.ofNat_inj.mp e)))]; rfl
  unfold fidx
  by_cases c : w.data.toList[j] = b
  ·rw [if_pos c]; exact Ev.here fun k => by rw [hstep, if_pos c]
  ·rw [if_neg c]; exact Ev.step (fun k => by rw [hstep, if_neg c]) (ih (j + 1) (by omega) (by omega))
def swF (which : ByteArray) (wi : List ByteArray) (b : UInt8) : List UInt8 := if fidx which.data.toList 0 b < 0 then [b] else (rdOf ByteArray.empty wi (fidx which.data.toList 0 b)).data.toList
def ints (l : List UInt8) : List Int := l.map fun b => (b.toNat : Int)
set_option maxHeartbeats 2000000 in
theorem Swap_loop (s which : ByteArray) (wi : List ByteArray) (hs : s.size ≤ 1048576) (hw : which.size ≤ 1048576) (h1 : ∀ b, fidx which.data.toList 0 b < wi.length) (h2 : ∀ b, (swF which wi b).length ≤ 6) :
  ∀ (d j : Nat) (x : List Int), s.size - j = d → j ≤ s.size → x.length ≤ 6 * j →
  Ev (fun k => spec_l5Swap.l0 k s which wi x j) (strOfNums (x ++ ints ((s.data.toList.drop j).flatMap (swF which wi)))) := by
 intro d
 have hsz : s.data.toList.length = s.size := rfl
 induction d with
 | zero =>
  intro j x hd hj hx
  rw [List.drop_eq_nil_of_le (by omega)]
  refine Ev.here fun k => ?_
  simp only [spec_l5Swap.l0]; rw [if_neg (by omega)]; simp [ints]
 | succ d ih =>
  intro j x hd hj hx
  have hjl : j < s.data.toList.length := by omega
  have hA : (j : Int) < (s.size : Int) := Int.ofNat_lt.mpr hjl
  have hB : (0 : Int) ≤ (j : Int) := Int.natCast_nonneg j
  have hf := Find_loop which (s.data.toList[j]) hw which.size 0 (by omega) (by omega)
  rw [List.drop_zero] at hf
  replace hf : Ev (fun k => spec_l4Find.f k which 0 ((s.data.toList[j]).toNat : Int)) (fidx which.data.toList 0 (s.data.toList[j])) := hf
  have hb2 := h2 (s.data.toList[j])
  have hb1 := h1 (s.data.toList[j])
  have hih := ih (j + 1) (x ++ ints (swF which wi (s.data.toList[j]))) (by omega) (by omega) (by rw [List.length_append]; unfold ints; rw [List.length_map]; omega)
  have he : x ++ ints ((s.data.toList.drop j).flatMap (swF which wi)) = x ++ ints (swF which wi (s.data.toList[j])) ++ ints ((s.data.toList.drop (j + 1)).flatMap (swF which wi)) := by
   rw [List.drop_eq_getElem_cons hjl, List.flatMap_cons]
   simp [ints]
  rw [he]
  have hw1 : wrap64 ((j : Int) + 1) = ((j + 1 : Nat) : Int) := by rw [w64 (by omega) (by omega)]; rfl
  have hstep : ∀ k, spec_l5Swap.l0 (k + 1) s which wi x j = (spec_l4Find.f k which 0 ((s.data.toList[j]).toNat : Int)).bind fun t => if t < 0 then (if x.length < 140737488355328 then (spec_l5Swap.l0 k s which wi (x ++ [((s.data.toList[j]).toNat : Int)]) ((j + 1 : Nat) : Int)) else none) else (if 0 ≤ t then (if t < (wi.length : Int) then (if x.length + (bytesOf (rdOf ByteArray.empty wi t)).length < 140737488355328 then (spec_l5Swap.l0 k s which wi (x ++ (bytesOf (rdOf ByteArray.empty wi t))) ((j + 1 : Nat) : Int)) else none) else none) else none) := fun k => by
   have hbt := bt_list s j hjl
   generalize s.data.toList[j] = b at hbt
   simp only [spec_l5Swap.l0, hbt, hw1]
   rw [if_pos hA, if_pos hB]
  clear hw1
  refine Ev.step hstep (Ev.bind hf ?_)
  by_cases c : fidx which.data.toList 0 (s.data.toList[j]) < 0
  ·have e : ints (swF which wi (s.data.toList[j])) = [((s.data.toList[j]).toNat : Int)] := by unfold swF; rw [if_pos c]; rfl
   rw [e] at hih ⊢
   have hlen : x.length < 140737488355328 := by omega
   exact Ev.ite_pos c (Ev.ite_pos hlen hih)
  ·have e : ints (swF which wi (s.data.toList[j])) = bytesOf (rdOf ByteArray.empty wi (fidx which.data.toList 0 (s.data.toList[j]))) := by unfold swF; rw [if_neg c]; rfl
   have hl6 : (bytesOf (rdOf ByteArray.empty wi (fidx which.data.toList 0 (s.data.toList[j])))).length ≤ 6 := by rw [← e]; unfold ints; rw [List.length_map]; exact hb2
   rw [e] at hih ⊢
   have hge : 0 ≤ fidx which.data.toList 0 (s.data.toList[j]) := by omega
   have hlen : x.length + (bytesOf (rdOf ByteArray.empty wi (fidx which.data.toList 0 (s.data.toList[j])))).length < 140737488355328 := by omega
   exact Ev.ite_neg c (Ev.ite_pos hge (Ev.ite_pos hb1 (Ev.ite_pos hlen hih)))
theorem Swap_tells (s which : ByteArray) (wi : List ByteArray) (hs : s.size ≤ 1048576) (hw : which.size ≤ 1048576) (h1 : ∀ b, fidx which.data.toList 0 b < wi.length) (h2 : ∀ b, (swF which wi b).length ≤ 6) :
  Ev (fun k => spec_l5Swap.f k s which wi) ⟨(s.data.toList.flatMap (swF which wi)).toArray⟩ := by
 have h := Swap_loop s which wi hs hw h1 h2 s.size 0 [] (by omega) (by omega) (by simp)
 rw [List.drop_zero, List.nil_append] at h
 unfold ints at h
 rw [Lib.Lz.strOfNums_map] at h
 exact h
def whichF : ByteArray := ⟨#[38, 60, 62, 13]⟩
theorem sw4 : ∀ b, swF whichF [amp, lts, gts, ret] b = g4 b := all_bytes (by decide +kernel)
theorem f4 : ∀ b, fidx whichF.data.toList 0 b < (4 : Int) := all_bytes (by decide +kernel)
theorem text_spec (s : ByteArray) (hs : s.size ≤ 1048576) : Ev (fun k => spec_l5Swap.f k s whichF [amp, lts, gts, ret]) ⟨(s.data.toList.flatMap g4).toArray⟩ := by
 have h := Swap_tells s whichF [amp, lts, gts, ret] hs (by decide) f4 (fun b => by rw [sw4]; exact l4 b)
 rwa [show swF whichF [amp, lts, gts, ret] = g4 from funext sw4] at h

/-! ### values -/
def v2 (b : UInt8) : List UInt8 := (g1 b).flatMap (one 34 quo.data.toList)
def v3 (b : UInt8) : List UInt8 := (v2 b).flatMap (one 13 ret.data.toList)
theorem lv2 : ∀ b, (v2 b).length ≤ 6 := all_bytes (by decide +kernel)
theorem lv3 : ∀ b, (v3 b).length ≤ 6 := all_bytes (by decide +kernel)
theorem all_f (a o n : ByteArray) (h1 : o.size = 1) (h2 : n.size ≤ 6) : strings_ReplaceAll.f a o n = repl a o n := by
 unfold strings_ReplaceAll.f; rw [if_pos h1, if_pos h2]
theorem valueSaid_tells (s : ByteArray) (hs : s.size ≤ 1048576) : impl_valueSaid.f s = some ⟨(s.data.toList.flatMap v3).toArray⟩ := by
 have hl : s.data.toList.length ≤ 1048576 := hs
 have e1 : strings_ReplaceAll.f s ⟨#[38]⟩ amp = some ⟨(s.data.toList.flatMap g1).toArray⟩ := by
  rw [all_f _ _ _ rfl (by decide), show repl s ⟨#[38]⟩ amp = repl ⟨(s.data.toList.flatMap g0).toArray⟩ ⟨#[38]⟩ amp from congrArg (fun z => repl z _ _) (flat_id s)]
  exact repl_step _ hl g0 l0 38 amp
 have e2 : strings_ReplaceAll.f ⟨(s.data.toList.flatMap g1).toArray⟩ ⟨#[34]⟩ quo = some ⟨(s.data.toList.flatMap v2).toArray⟩ := by
  rw [all_f _ _ _ rfl (by decide)]; exact repl_step _ hl g1 l1 34 quo
 have e3 : strings_ReplaceAll.f ⟨(s.data.toList.flatMap v2).toArray⟩ ⟨#[13]⟩ ret = some ⟨(s.data.toList.flatMap v3).toArray⟩ := by
  rw [all_f _ _ _ rfl (by decide)]; exact repl_step _ hl v2 lv2 13 ret
 have e : impl_valueSpelt.f s = some ⟨(s.data.toList.flatMap v2).toArray⟩ := by
  show ((strings_ReplaceAll.f s ⟨#[38]⟩ amp).bind fun a => (strings_ReplaceAll.f a ⟨#[34]⟩ quo).bind fun b => some b) = _
  rw [e1, Option.bind_some, e2, Option.bind_some]
 show ((impl_valueSpelt.f s).bind fun a => (strings_ReplaceAll.f a ⟨#[13]⟩ ret).bind fun b => some b) = _
 rw [e, Option.bind_some, e3, Option.bind_some]
def whichV : ByteArray := ⟨#[38, 34, 13]⟩
theorem swV : ∀ b, swF whichV [amp, quo, ret] b = v3 b := all_bytes (by decide +kernel)
theorem fV : ∀ b, fidx whichV.data.toList 0 b < (3 : Int) := all_bytes (by decide +kernel)
theorem value_spec (s : ByteArray) (hs : s.size ≤ 1048576) : Ev (fun k => spec_l5Swap.f k s whichV [amp, quo, ret]) ⟨(s.data.toList.flatMap v3).toArray⟩ := by
 have h := Swap_tells s whichV [amp, quo, ret] hs (by decide) fV (fun b => by rw [swV]; exact lv3 b)
 rwa [show swF whichV [amp, quo, ret] = v3 from funext swV] at h
def txtE (s : ByteArray) : ByteArray := ⟨(s.data.toList.flatMap g4).toArray⟩
def valE (s : ByteArray) : ByteArray := ⟨(s.data.toList.flatMap v3).toArray⟩
theorem txtE_size (s : ByteArray) : (txtE s).size ≤ 6 * s.size := by
 have h : (s.data.toList.flatMap g4).length ≤ 6 * s.data.toList.length := flat_length _ l4 _
 show (s.data.toList.flatMap g4).toArray.size ≤ _
 rw [List.size_toArray]; exact h
theorem valE_size (s : ByteArray) : (valE s).size ≤ 6 * s.size := by
 have h : (s.data.toList.flatMap v3).length ≤ 6 * s.data.toList.length := flat_length _ lv3 _
 show (s.data.toList.flatMap v3).toArray.size ≤ _
 rw [List.size_toArray]; exact h
end Go.Proofs.YtgljgbkbjlondaaDoor.Esc
