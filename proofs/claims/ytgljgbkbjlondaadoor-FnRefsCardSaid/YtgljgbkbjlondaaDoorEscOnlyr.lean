/- The program's Escape (one strings.ReplaceAll behind the other): what each byte becomes. No conditions but the size. -/
import Derived.Test.YtgljgbkbjlondaaDoorEvBaser
import Derived.Lib.ReplaceLaws
import Derived.Lib.IndexBytes
import Derived.Lib.LazyBuf
import Derived.Test.YtgljgbkbjlondaaDoorPr22
set_option linter.unusedVariables false
set_option linter.unusedSimpArgs false
namespace Go.Proofs.YtgljgbkbjlondaaDoor.Esc
open Go Go.RowKit Go.Proofs.YtgljgbkbjlondaaDoor.P Go.Proofs.YtgljgbkbjlondaaDoor.Evs Go.Proofs.YtgljgbkbjlondaaDoorW.PrintWords Go.Proofs.YtgljgbkbjlondaaDoorW.PrintLast

/-! ### strings.ReplaceAll of one byte -/
def one (c : UInt8) (new : List UInt8) (b : UInt8) : List UInt8 := if b = c then new else [b]
theorem skipK (c : UInt8) (new : List UInt8) (b : UInt8) (hb : b ≠ c) (l : List UInt8) : ∀ k, Lib.replaceK [c] new k (b :: l) = b :: Lib.replaceK [c] new k l := by
 intro k
 cases k with
 | zero => rfl
 | succ k =>
  have hi : Lib.index (b :: l) [c] = if Lib.index l [c] == -1 then -1 else Lib.index l [c] + 1 := by
   rw [Lib.index_one, Lib.index_one]
   rw [show Lib.indexByte (b :: l) c = (if (b == c) = true then 0 else if (Lib.indexByte l c == -1) = true then -1 else Lib.indexByte l c + 1) from rfl, if_neg (by simpa using hb)]
  rcases Lib.index_spec l [c] with ⟨h, _⟩ | ⟨i, h, _⟩
  ·have h2 : Lib.index (b :: l) [c] = -1 := by rw [hi, h]; rfl
   simp only [Lib.replaceK, h, h2]
   rfl
  ·have h2 : Lib.index (b :: l) [c] = ((i + 1 : Nat) : Int) := by
    rw [hi, h, if_neg (by rw [beq_iff_eq]; omega)]; rfl
   rw [Lib.replaceK_hit [c] new k (b :: l) (i + 1) h2, Lib.replaceK_hit [c] new k l i h]
   rfl
theorem replaceK_one (c : UInt8) (new : List UInt8) : ∀ l : List UInt8, Lib.replaceK [c] new (Lib.count l [c]) l = l.flatMap (one c new) := by
 intro l
 induction l with
 | nil => rfl
 | cons b l ih =>
  by_cases h : b = c
  ·subst h
   rw [Lib.count_cons_eq, Nat.add_comm 1, Lib.replaceK_hit [b] new _ (b :: l) 0 (by rw [Lib.index_one]; simp [Lib.indexByte])]
   show [] ++ new ++ Lib.replaceK [b] new (Lib.count l [b]) l = _
   rw [ih, List.flatMap_cons]
   simp [one]
  ·rw [Lib.count_cons_ne b c l h, skipK c new b h, ih, List.flatMap_cons]
   simp [one, h]
theorem one_self (c : UInt8) (l : List UInt8) : l.flatMap (one c [c]) = l := by
 induction l with
 | nil => rfl
 | cons b l ih =>
  rw [List.flatMap_cons, ih]
  unfold one
  by_cases h : b = c
  ·rw [if_pos h, h]; rfl
  ·rw [if_neg h]; rfl
theorem replaceAll_one (c : UInt8) (new l : List UInt8) : Lib.replaceAll l [c] new = l.flatMap (one c new) := by
 unfold Lib.replaceAll Lib.replace
 by_cases h : [c] = new
 ·rw [if_pos (by simpa using h), ← h, one_self]
 ·rw [if_neg (by simpa using h)]
  have e : Lib.replaceNum l [c] (-1) = Lib.count l [c] := by
   unfold Lib.replaceNum
   rw [if_pos (Or.inl (by decide))]
  rw [e, replaceK_one]
theorem flat_length (g : UInt8 → List UInt8) (hg : ∀ b, (g b).length ≤ 6) : ∀ l : List UInt8, (l.flatMap g).length ≤ 6 * l.length
 | [] => Nat.le_refl _
 | b :: l => by
  have h1 := flat_length g hg l
  have h2 := hg b
  rw [List.flatMap_cons, List.length_append, List.length_cons]; omega
theorem repl_step (l : List UInt8) (hl : l.length ≤ 1048576) (g : UInt8 → List UInt8) (hg : ∀ b, (g b).length ≤ 6) (c : UInt8) (new : ByteArray) :
  repl ⟨(l.flatMap g).toArray⟩ ⟨#[c]⟩ new = some ⟨(l.flatMap fun b => (g b).flatMap (one c new.data.toList)).toArray⟩ := by
 unfold repl replB
 have hs : (⟨(l.flatMap g).toArray⟩ : ByteArray).size = (l.flatMap g).length := rfl
 have := flat_length g hg l
 rw [if_pos (by rw [hs]; omega)]
 show some (⟨(Lib.replaceAll (l.flatMap g) [c] new.data.toList).toArray⟩ : ByteArray) = _
 rw [replaceAll_one, List.flatMap_assoc]
theorem all_bytes {p : UInt8 → Prop} (h : ∀ n : Nat, n < 256 → p (UInt8.ofNat n)) (b : UInt8) : p b := by
 have := h b.toNat b.toNat_lt
 rwa [UInt8.ofNat_toNat] at this

/-! ### the seven swaps -/
def amp : ByteArray := ⟨#[38, 97, 109, 112, 59]⟩
def lts : ByteArray := ⟨#[38, 108, 116, 59]⟩
def gts : ByteArray := ⟨#[38, 103, 116, 59]⟩
def ret : ByteArray := ⟨#[38, 35, 49, 51, 59]⟩
def quo : ByteArray := ⟨#[38, 113, 117, 111, 116, 59]⟩
def tab : ByteArray := ⟨#[38, 35, 57, 59]⟩
def lin : ByteArray := ⟨#[38, 35, 49, 48, 59]⟩
def g0 (b : UInt8) : List UInt8 := [b]
def g1 (b : UInt8) : List UInt8 := (g0 b).flatMap (one 38 amp.data.toList)
def g2 (b : UInt8) : List UInt8 := (g1 b).flatMap (one 60 lts.data.toList)
def g3 (b : UInt8) : List UInt8 := (g2 b).flatMap (one 62 gts.data.toList)
def g4 (b : UInt8) : List UInt8 := (g3 b).flatMap (one 13 ret.data.toList)
def g5 (b : UInt8) : List UInt8 := (g4 b).flatMap (one 34 quo.data.toList)
def g6 (b : UInt8) : List UInt8 := (g5 b).flatMap (one 9 tab.data.toList)
def g7 (b : UInt8) : List UInt8 := (g6 b).flatMap (one 10 lin.data.toList)
theorem l0 : ∀ b, (g0 b).length ≤ 6 := fun b => by show [b].length ≤ 6; simp
theorem l1 : ∀ b, (g1 b).length ≤ 6 := all_bytes (by decide +kernel)
theorem l2 : ∀ b, (g2 b).length ≤ 6 := all_bytes (by decide +kernel)
theorem l3 : ∀ b, (g3 b).length ≤ 6 := all_bytes (by decide +kernel)
theorem l4 : ∀ b, (g4 b).length ≤ 6 := all_bytes (by decide +kernel)
theorem l5 : ∀ b, (g5 b).length ≤ 6 := all_bytes (by decide +kernel)
theorem l6 : ∀ b, (g6 b).length ≤ 6 := all_bytes (by decide +kernel)
theorem flat_id (s : ByteArray) : s = ⟨(s.data.toList.flatMap g0).toArray⟩ := by
 have : s.data.toList.flatMap g0 = s.data.toList := by
  show s.data.toList.flatMap (fun b => [b]) = _
  rw [List.flatMap_singleton']
 rw [this]
theorem textSaid_tells (s : ByteArray) (hs : s.size ≤ 1048576) : impl_textSaid.f s = some ⟨(s.data.toList.flatMap g4).toArray⟩ := by
 have hl : s.data.toList.length ≤ 1048576 := hs
 have e : impl_escaped.f s = some ⟨(s.data.toList.flatMap g3).toArray⟩ := by
  unfold impl_escaped.f
  have e1 : repl s ⟨#[38]⟩ amp = some ⟨(s.data.toList.flatMap g1).toArray⟩ := by
   rw [show repl s ⟨#[38]⟩ amp = repl ⟨(s.data.toList.flatMap g0).toArray⟩ ⟨#[38]⟩ amp from congrArg (fun z => repl z _ _) (flat_id s)]
   exact repl_step _ hl g0 l0 38 amp
  have e2 : repl ⟨(s.data.toList.flatMap g1).toArray⟩ ⟨#[60]⟩ lts = some ⟨(s.data.toList.flatMap g2).toArray⟩ := repl_step _ hl g1 l1 60 lts
  have e3 : repl ⟨(s.data.toList.flatMap g2).toArray⟩ ⟨#[62]⟩ gts = some ⟨(s.data.toList.flatMap g3).toArray⟩ := repl_step _ hl g2 l2 62 gts
  show ((repl s ⟨#[38]⟩ amp).bind fun a => (repl a ⟨#[60]⟩ lts).bind fun b => repl b ⟨#[62]⟩ gts) = _
  rw [e1, Option.bind_some, e2, Option.bind_some, e3]
 unfold impl_textSaid.f
 rw [e, Option.bind_some]
 exact repl_step _ hl g3 l3 13 ret
theorem Escape_tells (s : ByteArray) (v : Bool) (hs : s.size ≤ 1048576) : impl_Escape.f s v = some ⟨(s.data.toList.flatMap (if v = true then g7 else g4)).toArray⟩ := by
 have hl : s.data.toList.length ≤ 1048576 := hs
 unfold impl_Escape.f
 rw [textSaid_tells s hs, Option.bind_some]
 cases v with
 | false => rfl
 | true =>
  have e1 : repl ⟨(s.data.toList.flatMap g4).toArray⟩ ⟨#[34]⟩ quo = some ⟨(s.data.toList.flatMap g5).toArray⟩ := repl_step _ hl g4 l4 34 quo
  have e2 : repl ⟨(s.data.toList.flatMap g5).toArray⟩ ⟨#[9]⟩ tab = some ⟨(s.data.toList.flatMap g6).toArray⟩ := repl_step _ hl g5 l5 9 tab
  have e3 : repl ⟨(s.data.toList.flatMap g6).toArray⟩ ⟨#[10]⟩ lin = some ⟨(s.data.toList.flatMap g7).toArray⟩ := repl_step _ hl g6 l6 10 lin
  show ((repl ⟨(s.data.toList.flatMap g4).toArray⟩ ⟨#[34]⟩ quo).bind fun b => (repl b ⟨#[9]⟩ tab).bind fun c => repl c ⟨#[10]⟩ lin) = _
  rw [e1, Option.bind_some, e2, Option.bind_some, e3]; rfl

theorem l7 : ∀ b, (g7 b).length ≤ 6 := all_bytes (by decide +kernel)
end Go.Proofs.YtgljgbkbjlondaaDoor.Esc
