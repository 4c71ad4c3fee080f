/- The draws' cursor: a byte, a number below another one, one of a list: each ends. No conditions but the size. -/
import Derived.Test.YtgljgbkbjlondaaDoorEvBaser
import Derived.Laws.BitsLemmas
import Derived.Test.YtgljgbkbjlondaaDoorPr1
import Derived.Test.YtgljgbkbjlondaaDoorPr13
set_option linter.unusedVariables false
set_option linter.unusedSimpArgs false
namespace Go.Proofs.YtgljgbkbjlondaaDoor.Dr
open Go Go.RowKit Go.Proofs.YtgljgbkbjlondaaDoor.P Go.Proofs.YtgljgbkbjlondaaDoor.Evs Go.Proofs.YtgljgbkbjlondaaDoorW.PrintWords Go.Proofs.YtgljgbkbjlondaaDoorW.PrintLast

theorem and255 (x : Int) : 0 ≤ bits .and .i64 x 255 ∧ bits .and .i64 x 255 ≤ 255 := by
 have h : ((BitVec.ofInt 64 x) &&& (BitVec.ofInt 64 255)).toNat ≤ 255 := by
  rw [BitVec.toNat_and]
  exact Nat.and_le_right
 have e : bits .and .i64 x 255 = IntKind.i64.wrap ((((BitVec.ofInt 64 x) &&& (BitVec.ofInt 64 255)).toNat : Nat) : Int) := rfl
 rw [e, IntKind.wrap_i64]
 omega
theorem Byte_tells (b : List Int) (i h : Int) (hb : b.length ≤ 1048576) (h0 : 0 ≤ i) (h1 : i ≤ b.length) : ∃ r i' h', spec_l1Byte.f b i h = some (r, i', h') ∧ 0 ≤ r ∧ r ≤ 255 ∧ 0 ≤ i' ∧ i' ≤ b.length := by
 unfold spec_l1Byte.f
 by_cases c : i < (b.length : Int)
 ·rw [if_pos c, if_pos h0]
  exact ⟨_, _, _, rfl, (and255 _).1, (and255 _).2, by rw [w64 (by omega) (by omega)]; omega, by rw [w64 (by omega) (by omega)]; omega⟩
 ·rw [if_neg c]
  exact ⟨_, _, _, rfl, (and255 _).1, (and255 _).2, h0, h1⟩
theorem Below_tells (b : List Int) (i h n : Int) (hb : b.length ≤ 1048576) (h0 : 0 ≤ i) (h1 : i ≤ b.length) (n0 : 1 ≤ n) (n1 : n ≤ 256) : ∃ r i' h', spec_l1Below.f b i h n = some (r, i', h') ∧ 0 ≤ r ∧ r < n ∧ 0 ≤ i' ∧ i' ≤ b.length := by
 obtain ⟨r, i', h', e, r0, r1, q0, q1⟩ := Byte_tells b i h hb h0 h1
 unfold spec_l1Below.f
 rw [if_neg (by omega), if_pos n1, e]
 simp only [Option.bind_some]
 rw [if_neg (by omega)]
 exact ⟨_, _, _, rfl, Int.tmod_nonneg _ r0, Int.tmod_lt_of_pos _ (by omega), q0, q1⟩
theorem Once_tells (b : List Int) (i h n : Int) (hb : b.length ≤ 1048576) (h0 : 0 ≤ i) (h1 : i ≤ b.length) (n0 : 1 ≤ n) (n1 : n ≤ 256) : ∃ r i' h', spec_l1Once.f b i h n = some (r, i', h') ∧ 0 ≤ i' ∧ i' ≤ b.length := by
 obtain ⟨r, i', h', e, _, _, q0, q1⟩ := Below_tells b i h n hb h0 h1 n0 n1
 unfold spec_l1Once.f
 rw [e]
 exact ⟨_, _, _, rfl, q0, q1⟩
theorem Pick_tells (b : List Int) (i h : Int) (l : List ByteArray) (hb : b.length ≤ 1048576) (h0 : 0 ≤ i) (h1 : i ≤ b.length) (n0 : 1 ≤ l.length) (n1 : l.length ≤ 256) : ∃ s i' h', spec_l1Pick.f b i h l = some (s, i', h') ∧ s ∈ l ∧ 0 ≤ i' ∧ i' ≤ b.length := by
 obtain ⟨r, i', h', e, r0, r1, q0, q1⟩ := Below_tells b i h (l.length : Int) hb h0 h1 (by omega) (by omega)
 unfold spec_l1Pick.f
 rw [e]
 simp only [Option.bind_some]
 rw [if_pos r0, if_pos r1]
 obtain ⟨j, rfl⟩ := Int.eq_ofNat_of_zero_le r0
 have hj : j < l.length := by omega
 refine ⟨_, _, _, rfl, ?_, q0, q1⟩
 unfold rdOf
 rw [Int.toNat_natCast, List.getD_eq_getElem?_getD, List.getElem?_eq_getElem hj]
 exact List.getElem_mem hj
theorem PickInt_tells (b : List Int) (i h : Int) (l : List Int) (hb : b.length ≤ 1048576) (h0 : 0 ≤ i) (h1 : i ≤ b.length) (n0 : 1 ≤ l.length) (n1 : l.length ≤ 256) : ∃ s i' h', spec_l1PickInt.f b i h l = some (s, i', h') ∧ s ∈ l ∧ 0 ≤ i' ∧ i' ≤ b.length := by
 obtain ⟨r, i', h', e, r0, r1, q0, q1⟩ := Below_tells b i h (l.length : Int) hb h0 h1 (by omega) (by omega)
 unfold spec_l1PickInt.f
 rw [e]
 simp only [Option.bind_some]
 rw [if_pos r0, if_pos r1]
 obtain ⟨j, rfl⟩ := Int.eq_ofNat_of_zero_le r0
 have hj : j < l.length := by omega
 refine ⟨_, _, _, rfl, ?_, q0, q1⟩
 unfold rd
 rw [Int.toNat_natCast, List.getD_eq_getElem?_getD, List.getElem?_eq_getElem hj]
 exact List.getElem_mem hj
end Go.Proofs.YtgljgbkbjlondaaDoor.Dr
