/- Signs and their bytes: the program's and the reference's tell the same at every place of every text: one sign (GetSign), all (Signs), back (PutSign, SignText), cleaned (Clean), of names (IsFirst, IsNext). No conditions but the size. -/
import Derived.Test.YtgljgbkbjlondaaDoorEvBase
import Derived.Laws.BitsLemmas
import Derived.Test.YtgljgbkbjlondaaDoorPt13
import Derived.Test.YtgljgbkbjlondaaDoorPt18
import Derived.Test.YtgljgbkbjlondaaDoorPt2
import Derived.Test.YtgljgbkbjlondaaDoorPt3
set_option linter.unusedVariables false
set_option linter.unusedSimpArgs false
namespace Go.Proofs.YtgljgbkbjlondaaDoor.Sg
open Go Go.RowKit Go.Proofs.YtgljgbkbjlondaaDoor.P Go.Proofs.YtgljgbkbjlondaaDoor.Evs Go.Proofs.YtgljgbkbjlondaaDoorW.PrintWords Go.Proofs.YtgljgbkbjlondaaDoorW.PrintLast

/-! ### numbers -/
theorem inRange_eq (a l m : Int) : impl_inRange.f a l m = some (decide (l ≤ a ∧ a ≤ m)) := by
  unfold impl_inRange.f
  by_cases h : a ≥ l
  · rw [if_pos h]; simp [h]
  · rw [if_neg h]; simp; omega
theorem l1In_eq (a l m : Int) : spec_l1In.f a l m = some (decide (l ≤ a ∧ a ≤ m)) := inRange_eq a l m
theorem SignOk_same (a : Int) : spec_SignOk.f a = impl_SignOk.f a := rfl
theorem SignOk_tells (a : Int) : impl_SignOk.f a = some (decide ((0 ≤ a ∧ a ≤ 1114111) ∧ ¬ (55296 ≤ a ∧ a ≤ 57343))) := by
  unfold impl_SignOk.f
  rw [inRange_eq, inRange_eq]
  simp only [Option.bind_some]
  by_cases c : 0 ≤ a ∧ a ≤ 1114111
  · rw [if_pos (decide_eq_true c)]
    by_cases d : 55296 ≤ a ∧ a ≤ 57343
    · rw [decide_eq_true d, decide_eq_false (by omega)]; rfl
    · rw [decide_eq_false d, decide_eq_true (by omega)]; rfl
  · rw [if_neg (by rw [decide_eq_true_iff]; exact c), decide_eq_false (by omega)]
theorem wraps_i64 (n : Int) (h0 : 0 ≤ n) (h1 : n < 2 ^ 63) : IntKind.i64.wrap n = n := by rw [IntKind.wrap_i64]; omega
theorem and63 (x : Int) (h0 : 0 ≤ x) (h1 : x < 9223372036854775808) : bits .and .i64 x 63 = x % 64 := bits_mask .i64 63 (by decide) wraps_i64 6 (by decide) x h0 h1
theorem or128 (y : Int) (h0 : 0 ≤ y) (h1 : y < 64) : bits .or .i64 128 y = 128 + y := bits_join .i64 63 (by decide) wraps_i64 6 128 y (by decide) (by decide) (by decide) h0 h1 (by omega)
theorem or192 (y : Int) (h0 : 0 ≤ y) (h1 : y < 32) : bits .or .i64 192 y = 192 + y := bits_join .i64 63 (by decide) wraps_i64 5 192 y (by decide) (by decide) (by decide) h0 h1 (by omega)
theorem or224 (y : Int) (h0 : 0 ≤ y) (h1 : y < 16) : bits .or .i64 224 y = 224 + y := bits_join .i64 63 (by decide) wraps_i64 4 224 y (by decide) (by decide) (by decide) h0 h1 (by omega)
theorem or240 (y : Int) (h0 : 0 ≤ y) (h1 : y < 8) : bits .or .i64 240 y = 240 + y := bits_join .i64 63 (by decide) wraps_i64 3 240 y (by decide) (by decide) (by decide) h0 h1 (by omega)

/-! ### PutSign -/
theorem follow_eq (n : Int) (by_ : Int) (q : Int) (h0 : 0 ≤ q) (h1 : q < 9223372036854775808) (hb : 0 ≤ IntKind.u64.wrap by_) (hq : shr .i64 n (IntKind.u64.wrap by_) = q) : impl_follow.f n by_ = some (128 + q % 64) := by
  unfold impl_follow.f
  rw [if_pos hb, hq, and63 q h0 h1, or128 _ (by omega) (by omega)]
  congr 1; omega
theorem PutSign_j (n : Int) (h0 : 0 ≤ n) (h1 : n ≤ 1114111) : ∃ t : ByteArray, (∀ k, spec_PutSign.j0 (k + 1) n = some t) ∧ (∀ k, impl_PutSign.j0 (k + 1) n = some t) ∧ 1 ≤ t.size ∧ t.size ≤ 4 := by
  have f0 : impl_follow.f n 0 = some (128 + n % 64) := follow_eq n 0 n h0 (by omega) (by decide) (by show n / 2 ^ min _ _ = n; simp [IntKind.wrap, IntKind.bits, IntKind.signed])
  have f6 : impl_follow.f n 6 = some (128 + n / 64 % 64) := follow_eq n 6 (n / 64) (by omega) (by omega) (by decide) (by rfl)
  have f12 : impl_follow.f n 12 = some (128 + n / 4096 % 64) := follow_eq n 12 (n / 4096) (by omega) (by omega) (by decide) (by rfl)
  have s0 : wrap64 (128 + bits .and .i64 n 63) % 256 = 128 + n % 64 := by rw [and63 n h0 (by omega), w64 (by omega) (by omega)]; omega
  have s6 : wrap64 (128 + bits .and .i64 (n / 64) 63) % 256 = 128 + n / 64 % 64 := by rw [and63 _ (by omega) (by omega), w64 (by omega) (by omega)]; omega
  have s12 : wrap64 (128 + bits .and .i64 (n / 4096) 63) % 256 = 128 + n / 4096 % 64 := by rw [and63 _ (by omega) (by omega), w64 (by omega) (by omega)]; omega
  simp only [spec_PutSign.j0, impl_PutSign.j0, f0, f6, f12, s0, s6, s12, Option.bind_some]
  by_cases c1 : n < 128
  · refine ⟨_, fun k => if_pos c1, fun k => if_pos c1, ?_⟩; rw [strOfNums_size]; exact ⟨by simp, by simp⟩
  simp only [if_neg c1]
  by_cases c2 : n < 2048
  · refine ⟨_, fun k => if_pos c2, fun k => ?_, ?_⟩
    · rw [if_pos c2, or192 _ (by omega) (by omega), w64 (by omega) (by omega)]
    · rw [strOfNums_size]; exact ⟨by simp, by simp⟩
  simp only [if_neg c2]
  by_cases c3 : n < 65536
  · refine ⟨_, fun k => if_pos c3, fun k => ?_, ?_⟩
    · rw [if_pos c3, or224 _ (by omega) (by omega), w64 (by omega) (by omega)]
    · rw [strOfNums_size]; exact ⟨by simp, by simp⟩
  simp only [if_neg c3]
  refine ⟨_, fun k => rfl, fun k => ?_, ?_⟩
  · rw [or240 _ (by omega) (by omega), w64 (by omega) (by omega)]
  · rw [strOfNums_size]; exact ⟨by simp, by simp⟩
theorem PutSign_same (n : Int) : ∃ t : ByteArray, Ev (fun k => spec_PutSign.f k n) t ∧ Ev (fun k => impl_PutSign.f k n) t ∧ 1 ≤ t.size ∧ t.size ≤ 4 := by
  unfold spec_PutSign.f impl_PutSign.f
  rw [SignOk_same, SignOk_tells]
  by_cases c : (0 ≤ n ∧ n ≤ 1114111) ∧ ¬ (55296 ≤ n ∧ n ≤ 57343)
  · obtain ⟨t, h1, h2, h3, h4⟩ := PutSign_j n c.1.1 c.1.2
    exact ⟨t, Ev.opt rfl (Ev.ite_pos (decide_eq_true c) (Ev.here h1)), Ev.opt rfl (Ev.ite_pos (decide_eq_true c) (Ev.here h2)), h3, h4⟩
  · obtain ⟨t, h1, h2, h3, h4⟩ := PutSign_j 65533 (by decide) (by decide)
    exact ⟨t, Ev.opt rfl (Ev.ite_neg (by rw [decide_eq_true_iff]; exact c) (Ev.here h1)), Ev.opt rfl (Ev.ite_neg (by rw [decide_eq_true_iff]; exact c) (Ev.here h2)), h3, h4⟩

/-! ### GetSign -/
theorem or64 (x y : Int) (hx : 0 ≤ x) (hx1 : x < 1125899906842624) (h0 : 0 ≤ y) (h1 : y < 64) : bits .or .i64 (wrap64 (x * 64)) y = wrap64 (wrap64 (x * 64) + y) := by
  rw [w64 (i := x * 64) (by omega) (by omega), w64 (by omega) (by omega)]
  exact bits_join .i64 63 (by decide) wraps_i64 6 (x * 64) y (by omega) (by omega) (by omega) h0 h1 (by omega)
def lo (b : Int) : Int := if b = 224 then 160 else if b = 240 then 144 else 128
def hi (b : Int) : Int := if b = 237 then 159 else if b = 244 then 143 else 191
theorem Second_tells (b c : Int) : spec_l1Second.f b c = some (decide (lo b ≤ c ∧ c ≤ hi b)) := by
  unfold spec_l1Second.f lo hi
  simp only [l1In_eq, Option.bind_some]
  by_cases h1 : b = 224
  · subst h1; rfl
  by_cases h2 : b = 237
  · subst h2; rfl
  by_cases h3 : b = 240
  · subst h3; rfl
  by_cases h4 : b = 244
  · subst h4; rfl
  simp only [if_neg h1, if_neg h2, if_neg h3, if_neg h4]
def begins (b : Nat) : Prop :=
  (impl_beginning.f 1 (b : Int) = some (0, (b : Int), 0, 0) ∧ spec_l1Many.f (b : Int) = some 1) ∨ (impl_beginning.f 1 (b : Int) = some (-1, 0, 0, 0) ∧ spec_l1Many.f (b : Int) = some 0) ∨
  (∃ more : Nat, more < 4 ∧ 1 ≤ more ∧ spec_l1Many.f (b : Int) = some ((more : Int) + 1) ∧ impl_beginning.f 1 (b : Int) = some ((more : Int), bits .and .i64 (b : Int) (shr .i64 127 ((more : Int) + 1)), lo b, hi b) ∧ 0 ≤ bits .and .i64 (b : Int) (shr .i64 127 ((more : Int) + 1)) ∧ bits .and .i64 (b : Int) (shr .i64 127 ((more : Int) + 1)) < 64)
instance (b : Nat) : Decidable (begins b) := by unfold begins; infer_instance
theorem begins_all : ∀ b, b < 256 → begins b := by decide +kernel
theorem beginning_k (k : Nat) (b : Int) : impl_beginning.f (k + 1) b = impl_beginning.f 1 b := rfl
theorem pow_bound : ∀ i : Nat, i ≤ 4 → (64 : Int) ^ i ≤ 16777216 := by decide
set_option maxHeartbeats 1000000 in
theorem GetSign_loop (s : ByteArray) (at_ more : Nat) (a : Int) (hs : s.size ≤ 1048576) (hm : more ≤ 3) (hat : at_ < s.size) :
    ∀ (d i : Nat) (n low high : Int), more + 1 - i = d → 1 ≤ i → i ≤ more + 1 → at_ + i ≤ s.size → 0 ≤ n → n < 64 ^ i →
    (i = 1 → low = lo a ∧ high = hi a) → (2 ≤ i → low = 128 ∧ high = 191) →
    ∃ (r : Int) (m : Nat), Ev (fun k => spec_GetSign.l0 k s at_ a (more + 1) n i) (r, (m : Int)) ∧ Ev (fun k => impl_getSign.l0 k s at_ more n low high i) (r, (m : Int)) ∧ 1 ≤ m ∧ at_ + m ≤ s.size ∧ 0 ≤ r := by
  intro d
  induction d with
  | zero =>
    intro i n low high hd h1 h2 h3 h4 h5 h6 h7
    refine ⟨n, more + 1, Ev.here fun k => ?_, Ev.here fun k => ?_, by omega, by omega, h4⟩
    · simp only [spec_GetSign.l0]; rw [if_neg (by omega)]; rfl
    · simp only [impl_getSign.l0]; rw [if_neg (by omega), w64 (by omega) (by omega)]; rfl
  | succ d ih =>
    intro i n low high hd h1 h2 h3 h4 h5 h6 h7
    have hw : wrap64 ((at_ : Int) + (i : Int)) = ((at_ + i : Nat) : Int) := by rw [w64 (by omega) (by omega)]; rfl
    have hw1 : wrap64 ((i : Int) + 1) = ((i + 1 : Nat) : Int) := by rw [w64 (by omega) (by omega)]; rfl
    by_cases c : at_ + i ≥ s.size
    · refine ⟨65533, i, Ev.here fun k => ?_, Ev.here fun k => ?_, h1, h3, by decide⟩
      · simp only [spec_GetSign.l0, hw]; rw [if_pos (by omega), if_pos (by omega)]
      · simp only [impl_getSign.l0, hw]; rw [if_pos (by omega), if_pos (by omega)]
    have hA : ¬ ((at_ + i : Nat) : Int) ≥ (s.size : Int) := by clear ih h5; omega
    have hB : (0 : Int) ≤ ((at_ + i : Nat) : Int) := Int.natCast_nonneg _
    have hC : ((at_ + i : Nat) : Int) < (s.size : Int) := by clear ih h5; omega
    have hD : (i : Int) < (more : Int) + 1 := by clear ih h5; omega
    obtain ⟨b0, b1⟩ := bt_range s ((at_ + i : Nat) : Int)
    generalize hbb : bt s ((at_ + i : Nat) : Int) = b at b0 b1
    have hwb : wrap64 b = b := w64 (by omega) (by omega)
    have hor : bits .or .i64 (wrap64 (n * 64)) (wrap64 (bits .and .u8 b 63)) = wrap64 (wrap64 (n * 64) + bits .and .i64 b 63) := by
      have hp := pow_bound i (by omega)
      rw [u8_and63 b b0 (by omega), and63 b b0 (by omega), w64 (i := b % 64) (by omega) (by omega), or64 n (b % 64) h4 (by omega) (by omega) (by omega)]
    have hn' : 0 ≤ wrap64 (wrap64 (n * 64) + bits .and .i64 b 63) ∧ wrap64 (wrap64 (n * 64) + bits .and .i64 b 63) < 64 ^ (i + 1) := by
      have hp := pow_bound i (by omega)
      rw [and63 b b0 (by omega), w64 (i := n * 64) (by omega) (by omega), w64 (by omega) (by omega), Int.pow_succ]
      generalize (64 : Int) ^ i = P at *
      omega
    obtain ⟨r, m, er1, er2, hm1, hm2, hm3⟩ := ih (i + 1) (wrap64 (wrap64 (n * 64) + bits .and .i64 b 63)) 128 191 (by omega) (by omega) (by omega) (by omega) hn'.1 hn'.2 (by omega) (fun _ => ⟨rfl, rfl⟩)
    have himpl : ∀ k, impl_getSign.l0 (k + 1) s at_ more n low high i = if b < low then some (65533, (i : Int)) else if b > high then some (65533, (i : Int)) else impl_getSign.l0 k s at_ more (wrap64 (wrap64 (n * 64) + bits .and .i64 b 63)) 128 191 ((i + 1 : Nat) : Int) := by
      intro k
      simp only [impl_getSign.l0, hw, hw1, hbb, hor]
      rw [if_pos (show (i : Int) ≤ (more : Int) from Int.lt_add_one_iff.mp hD), if_neg hA, if_pos hB, if_pos hC]
    have hrange : 128 ≤ low ∧ high ≤ 191 := by
      rcases Nat.lt_or_ge 1 i with hi | hi
      · have := h7 hi; omega
      · have := h6 (by omega); unfold lo Sg.hi at this; repeat' split at this
        all_goals omega
    have hspec : ∀ k, spec_GetSign.l0 (k + 1) s at_ a (more + 1) n i = if low ≤ b ∧ b ≤ high then spec_GetSign.l0 k s at_ a (more + 1) (wrap64 (wrap64 (n * 64) + bits .and .i64 b 63)) ((i + 1 : Nat) : Int) else some (65533, (i : Int)) := by
      intro k
      by_cases hi1 : i = 1
      · obtain ⟨hl, hh⟩ := h6 hi1
        subst hi1
        have hw2 : wrap64 ((at_ : Int) + 1) = ((at_ + 1 : Nat) : Int) := hw
        have hw3 : wrap64 ((1 : Int) + 1) = ((1 + 1 : Nat) : Int) := hw1
        have e1 : ((1 : Nat) : Int) = 1 := rfl
        rw [e1]
        simp only [spec_GetSign.l0, hw2, hw3, hbb, hwb, Second_tells, l1In_eq, Option.bind_some]
        rw [if_pos (show (1 : Int) < (more : Int) + 1 from hD), if_neg hA, if_pos True.intro, if_pos hB, if_pos hC, ← hl, ← hh]
        by_cases cc : low ≤ b ∧ b ≤ high
        · rw [if_pos (decide_eq_true cc), if_pos cc, if_pos hB, if_pos hC, if_pos (decide_eq_true (show 128 ≤ b ∧ b ≤ 191 from ⟨Int.le_trans hrange.1 cc.1, Int.le_trans cc.2 hrange.2⟩))]
        · rw [if_neg (by rw [decide_eq_true_iff]; exact cc), if_neg cc]
      · obtain ⟨hl, hh⟩ := h7 (by omega)
        subst hl; subst hh
        simp only [spec_GetSign.l0, hw, hw1, hbb, hwb, l1In_eq, Option.bind_some]
        rw [if_pos hD, if_neg hA, if_neg (show ¬ (i : Int) = 1 by clear ih h5 hn' er1 er2 himpl; omega), if_pos hB, if_pos hC]
        by_cases cc : 128 ≤ b ∧ b ≤ 191
        · rw [if_pos (decide_eq_true cc), if_pos cc]
        · rw [if_neg (by rw [decide_eq_true_iff]; exact cc), if_neg cc]
    by_cases cc : low ≤ b ∧ b ≤ high
    · refine ⟨r, m, Ev.step (f := fun k => spec_GetSign.l0 k s at_ a (more + 1) (wrap64 (wrap64 (n * 64) + bits .and .i64 b 63)) ((i + 1 : Nat) : Int)) (fun k => ?_) er1, Ev.step (f := fun k => impl_getSign.l0 k s at_ more (wrap64 (wrap64 (n * 64) + bits .and .i64 b 63)) 128 191 ((i + 1 : Nat) : Int)) (fun k => ?_) er2, hm1, hm2, hm3⟩
      · rw [hspec, if_pos cc]
      · rw [himpl, if_neg (by omega), if_neg (by omega)]
    · refine ⟨65533, i, Ev.here fun k => ?_, Ev.here fun k => ?_, h1, h3, by decide⟩
      · rw [hspec, if_neg cc]
      · rw [himpl]
        by_cases c1 : b < low
        · rw [if_pos c1]
        · rw [if_neg c1, if_pos (by omega)]
theorem GetSign_same (s : ByteArray) (at_ : Nat) (hs : s.size ≤ 1048576) (hat : at_ < s.size) :
    ∃ (r : Int) (m : Nat), Ev (fun k => spec_GetSign.f k s at_) (r, (m : Int)) ∧ Ev (fun k => impl_getSign.f k s at_) (r, (m : Int)) ∧ 1 ≤ m ∧ at_ + m ≤ s.size ∧ 0 ≤ r := by
  obtain ⟨b0, b1⟩ := bt_range s (at_ : Int)
  generalize hbb : bt s (at_ : Int) = b at b0 b1
  obtain ⟨bn, rfl⟩ := Int.eq_ofNat_of_zero_le b0
  have hwb : wrap64 (bn : Int) = bn := w64 (by omega) (by omega)
  have hi : ∀ k, impl_getSign.f (k + 1) s at_ = (impl_beginning.f 1 (bn : Int)).bind fun z => if z.1 < 0 then some (65533, 1) else impl_getSign.l0 (k + 1) s at_ z.1 z.2.1 z.2.2.1 z.2.2.2 1 := by
    intro k
    unfold impl_getSign.f
    rw [if_pos (by omega), if_pos (by omega), hbb, beginning_k]
  have hsp : ∀ k, spec_GetSign.f (k + 1) s at_ = (spec_l1Many.f (bn : Int)).bind fun t => if t < 2 then (if t = 1 then some ((bn : Int), 1) else some (65533, 1)) else if 0 ≤ t then spec_GetSign.l0 k s at_ bn t (bits .and .i64 bn (shr .i64 127 t)) 1 else none := by
    intro k
    unfold spec_GetSign.f
    rw [if_neg (by omega), decide_eq_false (by omega)]
    simp only [spec_GetSign.j0, hbb, hwb]
    rw [if_neg (by decide), if_pos (by omega), if_pos (by omega)]
  rcases begins_all bn (by omega) with ⟨e1, e2⟩ | ⟨e1, e2⟩ | ⟨more, hm1, hm2, e2, e1, hn0, hn1⟩
  · refine ⟨bn, 1, Ev.here fun k => ?_, Ev.step hi ?_, by omega, by omega, by omega⟩
    · rw [hsp, e2]; rfl
    · rw [e1]
      refine Ev.here fun k => ?_
      simp only [Option.bind_some]
      rw [if_neg (by decide)]
      simp only [impl_getSign.l0]
      rw [if_neg (by decide), w64 (by omega) (by omega)]; rfl
  · refine ⟨65533, 1, Ev.here fun k => ?_, Ev.here fun k => ?_, by omega, by omega, by decide⟩
    · rw [hsp, e2]; rfl
    · rw [hi, e1]; rfl
  · obtain ⟨r, m, er1, er2, h3, h4, h5⟩ := GetSign_loop s at_ more bn hs (by omega) hat more 1 (bits .and .i64 (bn : Int) (shr .i64 127 ((more : Int) + 1))) (lo bn) (Sg.hi bn) (by omega) (by omega) (by omega) (by omega) hn0 (by omega) (fun _ => ⟨rfl, rfl⟩) (by omega)
    refine ⟨r, m, Ev.step (f := fun k => spec_GetSign.l0 k s at_ bn (more + 1) (bits .and .i64 (bn : Int) (shr .i64 127 ((more : Int) + 1))) 1) (fun k => ?_) er1, ?_, h3, h4, h5⟩
    · rw [hsp, e2]
      simp only [Option.bind_some]
      rw [if_neg (by omega), if_pos (by omega)]
    · obtain ⟨K, hK⟩ := er2
      refine ⟨K + 1, fun k hk => ?_⟩
      obtain ⟨k, rfl⟩ : ∃ q, k = q + 1 := ⟨k - 1, by omega⟩
      show impl_getSign.f (k + 1) s at_ = _
      rw [hi, e1]
      simp only [Option.bind_some]
      rw [if_neg (by omega)]
      exact hK (k + 1) (by omega)
end Go.Proofs.YtgljgbkbjlondaaDoor.Sg
