/- PutSign: the program's and the reference's tell the same. No conditions. -/
import Derived.Test.YtgljgbkbjlondaaDoorEvBaser
import Derived.Laws.BitsLemmas
import Derived.Test.YtgljgbkbjlondaaDoorPr13
import Derived.Test.YtgljgbkbjlondaaDoorPr3
set_option linter.unusedVariables false
set_option linter.unusedSimpArgs false
namespace Go.Proofs.YtgljgbkbjlondaaDoor.Sg
open Go Go.RowKit Go.Proofs.YtgljgbkbjlondaaDoor.P Go.Proofs.YtgljgbkbjlondaaDoor.Evs Go.Proofs.YtgljgbkbjlondaaDoorW.PrintWords Go.Proofs.YtgljgbkbjlondaaDoorW.PrintLast

/-! ### numbers -/
theorem inRange_eq (a l m : Int) : impl_inRange.f a l m = some (decide (l ≤ a ∧ a ≤ m)) := by
 unfold impl_inRange.f
 by_cases h : a ≥ l
 ·rw [if_pos h]; simp [h]
 ·rw [if_neg h]; simp; omega
theorem l1In_eq (a l m : Int) : spec_l1In.f a l m = some (decide (l ≤ a ∧ a ≤ m)) := inRange_eq a l m
theorem SignOk_same (a : Int) : spec_SignOk.f a = impl_SignOk.f a := rfl
theorem SignOk_tells (a : Int) : impl_SignOk.f a = some (decide ((0 ≤ a ∧ a ≤ 1114111) ∧ ¬ (55296 ≤ a ∧ a ≤ 57343))) := by
 unfold impl_SignOk.f
 rw [inRange_eq, inRange_eq]
 simp only [Option.bind_some]
 by_cases c : 0 ≤ a ∧ a ≤ 1114111
 ·rw [if_pos (decide_eq_true c)]
  by_cases d : 55296 ≤ a ∧ a ≤ 57343
  ·rw [decide_eq_true d, decide_eq_false (by omega)]; rfl
  ·rw [decide_eq_false d, decide_eq_true (by omega)]; rfl
 ·rw [if_neg (by rw [decide_eq_true_iff]; exact c), decide_eq_false (by omega)]
theorem wraps_i64 (n : Int) (h0 : 0 ≤ n) (h1 : n < 2 ^ 63) : IntKind.i64.wrap n = n := by rw [IntKind.wrap_i64]; omega
theorem and63 (x : Int) (h0 : 0 ≤ x) (h1 : x < 9223372036854775808) : bits .and .i64 x 63 = x % 64 := bits_mask .i64 63 (by decide) wraps_i64 6 (by decide) x h0 h1
theorem or128 (y : Int) (h0 : 0 ≤ y) (h1 : y < 64) : bits .or .i64 128 y = 128 + y := bits_join .i64 63 (by decide) wraps_i64 6 128 y (by decide) (by decide) (by decide) h0 h1 (by omega)
theorem or192 (y : Int) (h0 : 0 ≤ y) (h1 : y < 32) : bits .or .i64 192 y = 192 + y := bits_join .i64 63 (by decide) wraps_i64 5 192 y (by decide) (by decide) (by decide) h0 h1 (by omega)
theorem or224 (y : Int) (h0 : 0 ≤ y) (h1 : y < 16) : bits .or .i64 224 y = 224 + y := bits_join .i64 63 (by decide) wraps_i64 4 224 y (by decide) (by decide) (by decide) h0 h1 (by omega)
theorem or240 (y : Int) (h0 : 0 ≤ y) (h1 : y < 8) : bits .or .i64 240 y = 240 + y := bits_join .i64 63 (by decide) wraps_i64 3 240 y (by decide) (by decide) (by decide) h0 h1 (by omega)

/-! ### PutSign -/
theorem follow_eq (n : Int) (by_ : Int) (q : Int) (h0 : 0 ≤ q) (h1 : q < 9223372036854775808) (hb : 0 ≤ IntKind.u64.wrap by_) (hq : shr .i64 n (IntKind.u64.wrap by_) = q) : impl_follow.f n by_ = some (128 + q % 64) := by
 unfold impl_follow.f
 rw [if_pos hb, hq, and63 q h0 h1, or128 _ (by omega) (by omega)]
 congr 1; omega
theorem PutSign_j (n : Int) (h0 : 0 ≤ n) (h1 : n ≤ 1114111) : ∃ t : ByteArray, (∀ k, spec_PutSign.j0 (k + 1) n = some t) ∧ (∀ k, impl_PutSign.j0 (k + 1) n = some t) ∧ 1 ≤ t.size ∧ t.size ≤ 4 := by
 have f0 : impl_follow.f n 0 = some (128 + n % 64) := follow_eq n 0 n h0 (by omega) (by decide) (by show n / 2 ^ min _ _ = n; simp [IntKind.wrap, IntKind.bits, IntKind.signed])
 have f6 : impl_follow.f n 6 = some (128 + n / 64 % 64) := follow_eq n 6 (n / 64) (by omega) (by omega) (by decide) (by rfl)
 have f12 : impl_follow.f n 12 = some (128 + n / 4096 % 64) := follow_eq n 12 (n / 4096) (by omega) (by omega) (by decide) (by rfl)
 have s0 : wrap64 (128 + bits .and .i64 n 63) % 256 = 128 + n % 64 := by rw [and63 n h0 (by omega), w64 (by omega) (by omega)]; omega
 have s6 : wrap64 (128 + bits .and .i64 (n / 64) 63) % 256 = 128 + n / 64 % 64 := by rw [and63 _ (by omega) (by omega), w64 (by omega) (by omega)]; omega
 have s12 : wrap64 (128 + bits .and .i64 (n / 4096) 63) % 256 = 128 + n / 4096 % 64 := by rw [and63 _ (by omega) (by omega), w64 (by omega) (by omega)]; omega
 simp only [spec_PutSign.j0, impl_PutSign.j0, f0, f6, f12, s0, s6, s12, Option.bind_some]
 by_cases c1 : n < 128
 ·refine ⟨_, fun k => if_pos c1, fun k => if_pos c1, ?_⟩; rw [strOfNums_size]; exact ⟨by simp, by simp⟩
 simp only [if_neg c1]
 by_cases c2 : n < 2048
 ·refine ⟨_, fun k => if_pos c2, fun k => ?_, ?_⟩
  ·rw [if_pos c2, or192 _ (by omega) (by omega), w64 (by omega) (by omega)]
  ·rw [strOfNums_size]; exact ⟨by simp, by simp⟩
 simp only [if_neg c2]
 by_cases c3 : n < 65536
 ·refine ⟨_, fun k => if_pos c3, fun k => ?_, ?_⟩
  ·rw [if_pos c3, or224 _ (by omega) (by omega), w64 (by omega) (by omega)]
  ·rw [strOfNums_size]; exact ⟨by simp, by simp⟩
 simp only [if_neg c3]
 refine ⟨_, fun k => rfl, fun k => ?_, ?_⟩
 ·rw [or240 _ (by omega) (by omega), w64 (by omega) (by omega)]
 ·rw [strOfNums_size]; exact ⟨by simp, by simp⟩
theorem PutSign_same (n : Int) : ∃ t : ByteArray, Ev (fun k => spec_PutSign.f k n) t ∧ Ev (fun k => impl_PutSign.f k n) t ∧ 1 ≤ t.size ∧ t.size ≤ 4 := by
 unfold spec_PutSign.f impl_PutSign.f
 rw [SignOk_same, SignOk_tells]
 by_cases c : (0 ≤ n ∧ n ≤ 1114111) ∧ ¬ (55296 ≤ n ∧ n ≤ 57343)
 ·obtain ⟨t, h1, h2, h3, h4⟩ := PutSign_j n c.1.1 c.1.2
  exact ⟨t, Ev.opt rfl (Ev.ite_pos (decide_eq_true c) (Ev.here h1)), Ev.opt rfl (Ev.ite_pos (decide_eq_true c) (Ev.here h2)), h3, h4⟩
 ·obtain ⟨t, h1, h2, h3, h4⟩ := PutSign_j 65533 (by decide) (by decide)
  exact ⟨t, Ev.opt rfl (Ev.ite_neg (by rw [decide_eq_true_iff]; exact c) (Ev.here h1)), Ev.opt rfl (Ev.ite_neg (by rw [decide_eq_true_iff]; exact c) (Ev.here h2)), h3, h4⟩

end Go.Proofs.YtgljgbkbjlondaaDoor.Sg
