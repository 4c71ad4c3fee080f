/- All signs of a text, and a text of signs: the program's and the reference's Signs, SignText tell the same. No conditions but the size. -/
import Derived.Test.YtaomfbbbdddlmaaSignBase
set_option linter.unusedVariables false
set_option linter.unusedSimpArgs false
namespace Go.Proofs.Ytaomfbbbdddlmaa.Sg
open Go Go.RowKit Go.Proofs.Ytaomfbbbdddlmaa.P Go.Proofs.Ytaomfbbbdddlmaa.Evs Go.Proofs.YtaomfbbbdddlmaaW.PrintWords Go.Proofs.YtaomfbbbdddlmaaW.PrintLast

theorem Signs_loop (s : ByteArray) (hs : s.size ≤ 1048576) : ∀ (d at_ : Nat) (acc : List Int), s.size - at_ ≤ d → at_ ≤ s.size → acc.length ≤ at_ →
  ∃ l, Ev (fun k => spec_Signs.l0 k s acc at_) l ∧ Ev (fun k => impl_Signs.l0 k s acc at_) l ∧ l.length ≤ s.size ∧ acc.length ≤ l.length ∧ (at_ < s.size → acc.length < l.length) := by
 intro d
 induction d with
 | zero =>
  intro at_ acc hd hat hacc
  refine ⟨acc, Ev.here fun k => ?_, Ev.here fun k => ?_, by omega, by omega, by omega⟩
  ·simp only [spec_Signs.l0]; rw [if_neg (by omega)]
  ·simp only [impl_Signs.l0]; rw [if_neg (by omega)]
 | succ d ih =>
  intro at_ acc hd hat hacc
  by_cases c : at_ < s.size
  ·obtain ⟨r, m, e1, e2, h1, h2, _⟩ := GetSign_same s at_ hs c
   obtain ⟨l, el1, el2, hl, hl2, _⟩ := ih (at_ + m) (acc ++ [r]) (by omega) h2 (by simp; omega)
   rw [List.length_append, List.length_singleton] at hl2
   have hw : wrap64 ((at_ : Int) + (m : Int)) = ((at_ + m : Nat) : Int) := by rw [w64 (by omega) (by omega)]; rfl
   have hacc2 : acc.length < 17592186044416 := by omega
   refine ⟨l, ?_, ?_, hl, by omega, fun _ => by omega⟩
   ·refine Ev.step (fun k => by simp only [spec_Signs.l0]; rw [if_pos (by omega)]) ?_
    refine Ev.bind e1 (Ev.ite_pos hacc2 ?_)
    simp only [hw]; exact el1
   ·refine Ev.step (fun k => by simp only [impl_Signs.l0]; rw [if_pos (by omega)]) ?_
    refine Ev.bind e2 (Ev.ite_pos hacc2 ?_)
    simp only [hw]; exact el2
  ·refine ⟨acc, Ev.here fun k => ?_, Ev.here fun k => ?_, by omega, by omega, by omega⟩
   ·simp only [spec_Signs.l0]; rw [if_neg (by omega)]
   ·simp only [impl_Signs.l0]; rw [if_neg (by omega)]
theorem Signs_same (s : ByteArray) (hs : s.size ≤ 1048576) : ∃ l, Ev (fun k => spec_Signs.f k s) l ∧ Ev (fun k => impl_Signs.f k s) l ∧ l.length ≤ s.size := by
 unfold spec_Signs.f impl_Signs.f
 obtain ⟨l, h1, h2, h3, _, _⟩ := Signs_loop s hs s.size 0 [] (by omega) (by omega) (by simp)
 exact ⟨l, h1, h2, h3⟩
theorem Signs_some (s : ByteArray) (hs : s.size ≤ 1048576) (h0 : 0 < s.size) : ∃ l, Ev (fun k => spec_Signs.f k s) l ∧ Ev (fun k => impl_Signs.f k s) l ∧ l.length ≤ s.size ∧ 0 < l.length := by
 unfold spec_Signs.f impl_Signs.f
 obtain ⟨l, h1, h2, h3, _, h5⟩ := Signs_loop s hs s.size 0 [] (by omega) (by omega) (by simp)
 exact ⟨l, h1, h2, h3, h5 h0⟩

/-! ### a text of signs -/
theorem nums_bytes (t : ByteArray) : strOfNums (bytesOf t) = t := by
 unfold strOfNums bytesOf
 rw [List.map_map, show ((fun n : Int => UInt8.ofNat n.toNat) ∘ fun b : UInt8 => (b.toNat : Int)) = id from funext fun b => by simp, List.map_id]
theorem nums_append (a b : List Int) : strOfNums (a ++ b) = strOfNums a ++ strOfNums b := by
 apply ByteArray.ext
 simp [strOfNums, ByteArray.data_append]
theorem rdI (xs : List Int) (i : Nat) (h : i < xs.length) : rd xs (i : Int) = xs[i] := rdT xs 0 i h
theorem SignText_loop (l : List Int) (hl : l.length ≤ 1048576) : ∀ (d j : Nat) (acc : List Int), l.length - j = d → j ≤ l.length → acc.length ≤ 4 * j →
  ∃ t : ByteArray, Ev (fun k => spec_SignText.l0 k l acc j) t ∧ Ev (fun k => impl_SignText.l0 k l (strOfNums acc) j) t ∧ t.size ≤ 4 * l.length := by
 intro d
 induction d with
 | zero =>
  intro j acc hd hj hacc
  refine ⟨strOfNums acc, Ev.here fun k => ?_, Ev.here fun k => ?_, by rw [strOfNums_size]; omega⟩
  ·simp only [spec_SignText.l0]; rw [if_neg (by omega)]
  ·simp only [impl_SignText.l0]; rw [if_neg (by omega)]
 | succ d ih =>
  intro j acc hd hj hacc
  have hjl : j < l.length := by omega
  obtain ⟨t, e1, e2, h1, h2⟩ := PutSign_same l[j]
  have hbl : (bytesOf t).length = t.size := bytesOf_length t
  obtain ⟨u, eu1, eu2, hu⟩ := ih (j + 1) (acc ++ bytesOf t) (by omega) (by omega) (by rw [List.length_append, hbl]; omega)
  have hw : wrap64 ((j : Int) + 1) = ((j + 1 : Nat) : Int) := by rw [w64 (by omega) (by omega)]; rfl
  refine ⟨u, ?_, ?_, hu⟩
  ·refine Ev.step (fun k => by simp only [spec_SignText.l0]; rw [if_pos (by omega), if_pos (by omega), rdI l j hjl]) ?_
   refine Ev.bind e1 (Ev.ite_pos (by omega) ?_)
   simp only [hw]; exact eu1
  ·refine Ev.step (fun k => by simp only [impl_SignText.l0]; rw [if_pos (by omega), if_pos (by omega), rdI l j hjl]) ?_
   refine Ev.bind e2 (Ev.ite_pos (by rw [strOfNums_size]; omega) ?_)
   simp only [hw, show strOfNums acc ++ t = strOfNums (acc ++ bytesOf t) by rw [nums_append, nums_bytes]]; exact eu2
theorem SignText_same (l : List Int) (hl : l.length ≤ 1048576) : ∃ t : ByteArray, Ev (fun k => spec_SignText.f k l) t ∧ Ev (fun k => impl_SignText.f k l) t ∧ t.size ≤ 4 * l.length := by
 unfold spec_SignText.f impl_SignText.f
 exact SignText_loop l hl l.length 0 [] (by omega) (by omega) (by simp)
end Go.Proofs.Ytaomfbbbdddlmaa.Sg
