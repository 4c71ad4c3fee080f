/- Signs and their bytes: the program's and the reference's tell the same at every place of every text: one sign (GetSign), all (Signs), back (PutSign, SignText), cleaned (Clean), of names (IsFirst, IsNext). No conditions but the size. All signs of a text, and a text of signs: the program's and the reference's Signs, SignText tell the same. No conditions but the size. The program's Clean, CleanOk and the reference's tell the same. No conditions but the size. Signs of names: the program's IsFirst, IsNext and the reference's tell the same. No conditions. A name made of any text: the program's NameOf and the reference's tell the same. No conditions but the size. -/
import Derived.Test.YtfjheckgigppiaaEvBase
import Derived.Laws.BitsLemmas
import Derived.Test.YtfjheckgigppiaaPf11
import Derived.Test.YtfjheckgigppiaaPf12
import Derived.Test.YtfjheckgigppiaaPf13
import Derived.Test.YtfjheckgigppiaaPf14
import Derived.Test.YtfjheckgigppiaaPf15
import Derived.Test.YtfjheckgigppiaaPf2
import Derived.Test.YtfjheckgigppiaaPf5
namespace Go.Proofs.Ytfjheckgigppiaa.Sg
open Go Go.RowKit Go.Proofs.Ytfjheckgigppiaa.P Go.Proofs.Ytfjheckgigppiaa.Evs Go.Proofs.YtfjheckgigppiaaW.PrintWords Go.Proofs.YtfjheckgigppiaaW.PrintLast

/-! ### numbers -/
theorem inRange_eq (a l m : Int) : impl_inRange.f a l m = some (decide (l ≤ a ∧ a ≤ m)) := by
  unfold impl_inRange.f
  by_cases h : a ≥ l
  · rw [if_pos h]; simp [h]
  · rw [if_neg h]; simp; omega
theorem l1In_eq (a l m : Int) : spec_l1In.f a l m = some (decide (l ≤ a ∧ a ≤ m)) := inRange_eq a l m
theorem SignOk_same (a : Int) : spec_SignOk.f a = impl_SignOk.f a := rfl
theorem SignOk_tells (a : Int) : impl_SignOk.f a = some (decide ((0 ≤ a ∧ a ≤ 1114111) ∧ ¬ (55296 ≤ a ∧ a ≤ 57343))) := by
  unfold impl_SignOk.f
  rw [inRange_eq, inRange_eq]
  simp only [Option.bind_some]
  by_cases c : 0 ≤ a ∧ a ≤ 1114111
  · rw [if_pos (decide_eq_true c)]
    by_cases d : 55296 ≤ a ∧ a ≤ 57343
    · rw [decide_eq_true d, decide_eq_false (by omega)]; rfl
    · rw [decide_eq_false d, decide_eq_true (by omega)]; rfl
  · rw [if_neg (by rw [decide_eq_true_iff]; exact c), decide_eq_false (by omega)]
theorem wraps_i64 (n : Int) (h0 : 0 ≤ n) (h1 : n < 2 ^ 63) : IntKind.i64.wrap n = n := by rw [IntKind.wrap_i64]; omega
theorem and63 (x : Int) (h0 : 0 ≤ x) (h1 : x < 9223372036854775808) : bits .and .i64 x 63 = x % 64 := bits_mask .i64 63 (by decide) wraps_i64 6 (by decide) x h0 h1
theorem or128 (y : Int) (h0 : 0 ≤ y) (h1 : y < 64) : bits .or .i64 128 y = 128 + y := bits_join .i64 63 (by decide) wraps_i64 6 128 y (by decide) (by decide) (by decide) h0 h1 (by omega)
theorem or192 (y : Int) (h0 : 0 ≤ y) (h1 : y < 32) : bits .or .i64 192 y = 192 + y := bits_join .i64 63 (by decide) wraps_i64 5 192 y (by decide) (by decide) (by decide) h0 h1 (by omega)
theorem or224 (y : Int) (h0 : 0 ≤ y) (h1 : y < 16) : bits .or .i64 224 y = 224 + y := bits_join .i64 63 (by decide) wraps_i64 4 224 y (by decide) (by decide) (by decide) h0 h1 (by omega)
theorem or240 (y : Int) (h0 : 0 ≤ y) (h1 : y < 8) : bits .or .i64 240 y = 240 + y := bits_join .i64 63 (by decide) wraps_i64 3 240 y (by decide) (by decide) (by decide) h0 h1 (by omega)

/-! ### PutSign -/
theorem follow_eq (n : Int) (by_ : Int) (q : Int) (h0 : 0 ≤ q) (h1 : q < 9223372036854775808) (hb : 0 ≤ IntKind.u64.wrap by_) (hq : shr .i64 n (IntKind.u64.wrap by_) = q) : impl_follow.f n by_ = some (128 + q % 64) := by
  unfold impl_follow.f
  rw [if_pos hb, hq, and63 q h0 h1, or128 _ (by omega) (by omega)]
  congr 1; omega
theorem PutSign_j (n : Int) (h0 : 0 ≤ n) (h1 : n ≤ 1114111) : ∃ t : ByteArray, (∀ k, spec_PutSign.j0 (k + 1) n = some t) ∧ (∀ k, impl_PutSign.j0 (k + 1) n = some t) ∧ 1 ≤ t.size ∧ t.size ≤ 4 := by
  have f0 : impl_follow.f n 0 = some (128 + n % 64) := follow_eq n 0 n h0 (by omega) (by decide) (by show n / 2 ^ min _ _ = n; simp [IntKind.wrap, IntKind.bits, IntKind.signed])
  have f6 : impl_follow.f n 6 = some (128 + n / 64 % 64) := follow_eq n 6 (n / 64) (by omega) (by omega) (by decide) (by rfl)
  have f12 : impl_follow.f n 12 = some (128 + n / 4096 % 64) := follow_eq n 12 (n / 4096) (by omega) (by omega) (by decide) (by rfl)
  have s0 : wrap64 (128 + bits .and .i64 n 63) % 256 = 128 + n % 64 := by rw [and63 n h0 (by omega), w64 (by omega) (by omega)]; omega
  have s6 : wrap64 (128 + bits .and .i64 (n / 64) 63) % 256 = 128 + n / 64 % 64 := by rw [and63 _ (by omega) (by omega), w64 (by omega) (by omega)]; omega
  have s12 : wrap64 (128 + bits .and .i64 (n / 4096) 63) % 256 = 128 + n / 4096 % 64 := by rw [and63 _ (by omega) (by omega), w64 (by omega) (by omega)]; omega
  simp only [spec_PutSign.j0, impl_PutSign.j0, f0, f6, f12, s0, s6, s12, Option.bind_some]
  by_cases c1 : n < 128
  · refine ⟨_, fun k => if_pos c1, fun k => if_pos c1, ?_⟩; rw [strOfNums_size]; exact ⟨by simp, by simp⟩
  simp only [if_neg c1]
  by_cases c2 : n < 2048
  · refine ⟨_, fun k => if_pos c2, fun k => ?_, ?_⟩
    · rw [if_pos c2, or192 _ (by omega) (by omega), w64 (by omega) (by omega)]
    · rw [strOfNums_size]; exact ⟨by simp, by simp⟩
  simp only [if_neg c2]
  by_cases c3 : n < 65536
  · refine ⟨_, fun k => if_pos c3, fun k => ?_, ?_⟩
    · rw [if_pos c3, or224 _ (by omega) (by omega), w64 (by omega) (by omega)]
    · rw [strOfNums_size]; exact ⟨by simp, by simp⟩
  simp only [if_neg c3]
  refine ⟨_, fun k => rfl, fun k => ?_, ?_⟩
  · rw [or240 _ (by omega) (by omega), w64 (by omega) (by omega)]
  · rw [strOfNums_size]; exact ⟨by simp, by simp⟩
theorem PutSign_same (n : Int) : ∃ t : ByteArray, Ev (fun k => spec_PutSign.f k n) t ∧ Ev (fun k => impl_PutSign.f k n) t ∧ 1 ≤ t.size ∧ t.size ≤ 4 := by
  unfold spec_PutSign.f impl_PutSign.f
  rw [SignOk_same, SignOk_tells]
  by_cases c : (0 ≤ n ∧ n ≤ 1114111) ∧ ¬ (55296 ≤ n ∧ n ≤ 57343)
  · obtain ⟨t, h1, h2, h3, h4⟩ := PutSign_j n c.1.1 c.1.2
    exact ⟨t, Ev.opt rfl (Ev.ite_pos (decide_eq_true c) (Ev.here h1)), Ev.opt rfl (Ev.ite_pos (decide_eq_true c) (Ev.here h2)), h3, h4⟩
  · obtain ⟨t, h1, h2, h3, h4⟩ := PutSign_j 65533 (by decide) (by decide)
    exact ⟨t, Ev.opt rfl (Ev.ite_neg (by rw [decide_eq_true_iff]; exact c) (Ev.here h1)), Ev.opt rfl (Ev.ite_neg (by rw [decide_eq_true_iff]; exact c) (Ev.here h2)), h3, h4⟩

/-! ### GetSign -/
theorem or64 (x y : Int) (hx : 0 ≤ x) (hx1 : x < 1125899906842624) (h0 : 0 ≤ y) (h1 : y < 64) : bits .or .i64 (wrap64 (x * 64)) y = wrap64 (wrap64 (x * 64) + y) := by
  rw [w64 (i := x * 64) (by omega) (by omega), w64 (by omega) (by omega)]
  exact bits_join .i64 63 (by decide) wraps_i64 6 (x * 64) y (by omega) (by omega) (by omega) h0 h1 (by omega)
def lo (b : Int) : Int := if b = 224 then 160 else if b = 240 then 144 else 128
def hi (b : Int) : Int := if b = 237 then 159 else if b = 244 then 143 else 191
theorem Second_tells (b c : Int) : spec_l1Second.f b c = some (decide (lo b ≤ c ∧ c ≤ hi b)) := by
  unfold spec_l1Second.f lo hi
  simp only [l1In_eq, Option.bind_some]
  by_cases h1 : b = 224
  · subst h1; rfl
  by_cases h2 : b = 237
  · subst h2; rfl
  by_cases h3 : b = 240
  · subst h3; rfl
  by_cases h4 : b = 244
  · subst h4; rfl
  simp only [if_neg h1, if_neg h2, if_neg h3, if_neg h4]
def begins (b : Nat) : Prop :=
  (impl_beginning.f 1 (b : Int) = some (0, (b : Int), 0, 0) ∧ spec_l1Many.f (b : Int) = some 1) ∨ (impl_beginning.f 1 (b : Int) = some (-1, 0, 0, 0) ∧ spec_l1Many.f (b : Int) = some 0) ∨
  (∃ more : Nat, more < 4 ∧ 1 ≤ more ∧ spec_l1Many.f (b : Int) = some ((more : Int) + 1) ∧ impl_beginning.f 1 (b : Int) = some ((more : Int), bits .and .i64 (b : Int) (shr .i64 127 ((more : Int) + 1)), lo b, hi b) ∧ 0 ≤ bits .and .i64 (b : Int) (shr .i64 127 ((more : Int) + 1)) ∧ bits .and .i64 (b : Int) (shr .i64 127 ((more : Int) + 1)) < 64)
instance (b : Nat) : Decidable (begins b) := by unfold begins; infer_instance
theorem begins_all : ∀ b, b < 256 → begins b := by decide +kernel
theorem beginning_k (k : Nat) (b : Int) : impl_beginning.f (k + 1) b = impl_beginning.f 1 b := rfl
theorem pow_bound : ∀ i : Nat, i ≤ 4 → (64 : Int) ^ i ≤ 16777216 := by decide
set_option maxHeartbeats 1000000 in
theorem GetSign_loop (s : ByteArray) (at_ more : Nat) (a : Int) (hs : s.size ≤ 1048576) (hm : more ≤ 3) (hat : at_ < s.size) :
    ∀ (d i : Nat) (n low high : Int), more + 1 - i = d → 1 ≤ i → i ≤ more + 1 → at_ + i ≤ s.size → 0 ≤ n → n < 64 ^ i →
    (i = 1 → low = lo a ∧ high = hi a) → (2 ≤ i → low = 128 ∧ high = 191) →
    ∃ (r : Int) (m : Nat), Ev (fun k => spec_GetSign.l0 k s at_ a (more + 1) n i) (r, (m : Int)) ∧ Ev (fun k => impl_getSign.l0 k s at_ more n low high i) (r, (m : Int)) ∧ 1 ≤ m ∧ at_ + m ≤ s.size ∧ 0 ≤ r := by
  intro d
  induction d with
  | zero =>
    intro i n low high hd h1 h2 h3 h4 h5 h6 h7
    refine ⟨n, more + 1, Ev.here fun k => ?_, Ev.here fun k => ?_, by omega, by omega, h4⟩
    · simp only [spec_GetSign.l0]; rw [if_neg (by omega)]; rfl
    · simp only [impl_getSign.l0]; rw [if_neg (by omega), w64 (by omega) (by omega)]; rfl
  | succ d ih =>
    intro i n low high hd h1 h2 h3 h4 h5 h6 h7
    have hw : wrap64 ((at_ : Int) + (i : Int)) = ((at_ + i : Nat) : Int) := by rw [w64 (by omega) (by omega)]; rfl
    have hw1 : wrap64 ((i : Int) + 1) = ((i + 1 : Nat) : Int) := by rw [w64 (by omega) (by omega)]; rfl
    by_cases c : at_ + i ≥ s.size
    · refine ⟨65533, i, Ev.here fun k => ?_, Ev.here fun k => ?_, h1, h3, by decide⟩
      · simp only [spec_GetSign.l0, hw]; rw [if_pos (by omega), if_pos (by omega)]
      · simp only [impl_getSign.l0, hw]; rw [if_pos (by omega), if_pos (by omega)]
    have hA : ¬ ((at_ + i : Nat) : Int) ≥ (s.size : Int) := by clear ih h5; omega
    have hB : (0 : Int) ≤ ((at_ + i : Nat) : Int) := Int.natCast_nonneg _
    have hC : ((at_ + i : Nat) : Int) < (s.size : Int) := by clear ih h5; omega
    have hD : (i : Int) < (more : Int) + 1 := by clear ih h5; omega
    obtain ⟨b0, b1⟩ := bt_range s ((at_ + i : Nat) : Int)
    generalize hbb : bt s ((at_ + i : Nat) : Int) = b at b0 b1
    have hwb : wrap64 b = b := w64 (by omega) (by omega)
    have hor : bits .or .i64 (wrap64 (n * 64)) (wrap64 (bits .and .u8 b 63)) = wrap64 (wrap64 (n * 64) + bits .and .i64 b 63) := by
      have hp := pow_bound i (by omega)
      rw [u8_and63 b b0 (by omega), and63 b b0 (by omega), w64 (i := b % 64) (by omega) (by omega), or64 n (b % 64) h4 (by omega) (by omega) (by omega)]
    have hn' : 0 ≤ wrap64 (wrap64 (n * 64) + bits .and .i64 b 63) ∧ wrap64 (wrap64 (n * 64) + bits .and .i64 b 63) < 64 ^ (i + 1) := by
      have hp := pow_bound i (by omega)
      rw [and63 b b0 (by omega), w64 (i := n * 64) (by omega) (by omega), w64 (by omega) (by omega), Int.pow_succ]
      generalize (64 : Int) ^ i = P at *
      omega
    obtain ⟨r, m, er1, er2, hm1, hm2, hm3⟩ := ih (i + 1) (wrap64 (wrap64 (n * 64) + bits .and .i64 b 63)) 128 191 (by omega) (by omega) (by omega) (by omega) hn'.1 hn'.2 (by omega) (fun _ => ⟨rfl, rfl⟩)
    have himpl : ∀ k, impl_getSign.l0 (k + 1) s at_ more n low high i = if b < low then some (65533, (i : Int)) else if b > high then some (65533, (i : Int)) else impl_getSign.l0 k s at_ more (wrap64 (wrap64 (n * 64) + bits .and .i64 b 63)) 128 191 ((i + 1 : Nat) : Int) := by
      intro k
      simp only [impl_getSign.l0, hw, hw1, hbb, hor]
      rw [if_pos (show (i : Int) ≤ (more : Int) from Int.lt_add_one_iff.mp hD), if_neg hA, if_pos hB, if_pos hC]
    have hrange : 128 ≤ low ∧ high ≤ 191 := by
      rcases Nat.lt_or_ge 1 i with hi | hi
      · have := h7 hi; omega
      · have := h6 (by omega); unfold lo Sg.hi at this; repeat' split at this
        all_goals omega
    have hspec : ∀ k, spec_GetSign.l0 (k + 1) s at_ a (more + 1) n i = if low ≤ b ∧ b ≤ high then spec_GetSign.l0 k s at_ a (more + 1) (wrap64 (wrap64 (n * 64) + bits .and .i64 b 63)) ((i + 1 : Nat) : Int) else some (65533, (i : Int)) := by
      intro k
      by_cases hi1 : i = 1
      · obtain ⟨hl, hh⟩ := h6 hi1
        subst hi1
        have hw2 : wrap64 ((at_ : Int) + 1) = ((at_ + 1 : Nat) : Int) := hw
        have hw3 : wrap64 ((1 : Int) + 1) = ((1 + 1 : Nat) : Int) := hw1
        have e1 : ((1 : Nat) : Int) = 1 := rfl
        rw [e1]
        simp only [spec_GetSign.l0, hw2, hw3, hbb, hwb, Second_tells, l1In_eq, Option.bind_some]
        rw [if_pos (show (1 : Int) < (more : Int) + 1 from hD), if_neg hA, if_pos True.intro, if_pos hB, if_pos hC, ← hl, ← hh]
        by_cases cc : low ≤ b ∧ b ≤ high
        · rw [if_pos (decide_eq_true cc), if_pos cc, if_pos hB, if_pos hC, if_pos (decide_eq_true (show 128 ≤ b ∧ b ≤ 191 from ⟨Int.le_trans hrange.1 cc.1, Int.le_trans cc.2 hrange.2⟩))]
        · rw [if_neg (by rw [decide_eq_true_iff]; exact cc), if_neg cc]
      · obtain ⟨hl, hh⟩ := h7 (by omega)
        subst hl; subst hh
        simp only [spec_GetSign.l0, hw, hw1, hbb, hwb, l1In_eq, Option.bind_some]
        rw [if_pos hD, if_neg hA, if_neg (show ¬ (i : Int) = 1 by clear ih h5 hn' er1 er2 himpl; omega), if_pos hB, if_pos hC]
        by_cases cc : 128 ≤ b ∧ b ≤ 191
        · rw [if_pos (decide_eq_true cc), if_pos cc]
        · rw [if_neg (by rw [decide_eq_true_iff]; exact cc), if_neg cc]
    by_cases cc : low ≤ b ∧ b ≤ high
    · refine ⟨r, m, Ev.step (f := fun k => spec_GetSign.l0 k s at_ a (more + 1) (wrap64 (wrap64 (n * 64) + bits .and .i64 b 63)) ((i + 1 : Nat) : Int)) (fun k => ?_) er1, Ev.step (f := fun k => impl_getSign.l0 k s at_ more (wrap64 (wrap64 (n * 64) + bits .and .i64 b 63)) 128 191 ((i + 1 : Nat) : Int)) (fun k => ?_) er2, hm1, hm2, hm3⟩
      · rw [hspec, if_pos cc]
      · rw [himpl, if_neg (by omega), if_neg (by omega)]
    · refine ⟨65533, i, Ev.here fun k => ?_, Ev.here fun k => ?_, h1, h3, by decide⟩
      · rw [hspec, if_neg cc]
      · rw [himpl]
        by_cases c1 : b < low
        · rw [if_pos c1]
        · rw [if_neg c1, if_pos (by omega)]
theorem GetSign_same (s : ByteArray) (at_ : Nat) (hs : s.size ≤ 1048576) (hat : at_ < s.size) :
    ∃ (r : Int) (m : Nat), Ev (fun k => spec_GetSign.f k s at_) (r, (m : Int)) ∧ Ev (fun k => impl_getSign.f k s at_) (r, (m : Int)) ∧ 1 ≤ m ∧ at_ + m ≤ s.size ∧ 0 ≤ r := by
  obtain ⟨b0, b1⟩ := bt_range s (at_ : Int)
  generalize hbb : bt s (at_ : Int) = b at b0 b1
  obtain ⟨bn, rfl⟩ := Int.eq_ofNat_of_zero_le b0
  have hwb : wrap64 (bn : Int) = bn := w64 (by omega) (by omega)
  have hi : ∀ k, impl_getSign.f (k + 1) s at_ = (impl_beginning.f 1 (bn : Int)).bind fun z => if z.1 < 0 then some (65533, 1) else impl_getSign.l0 (k + 1) s at_ z.1 z.2.1 z.2.2.1 z.2.2.2 1 := by
    intro k
    unfold impl_getSign.f
    rw [if_pos (by omega), if_pos (by omega), hbb, beginning_k]
  have hsp : ∀ k, spec_GetSign.f (k + 1) s at_ = (spec_l1Many.f (bn : Int)).bind fun t => if t < 2 then (if t = 1 then some ((bn : Int), 1) else some (65533, 1)) else if 0 ≤ t then spec_GetSign.l0 k s at_ bn t (bits .and .i64 bn (shr .i64 127 t)) 1 else none := by
    intro k
    unfold spec_GetSign.f
    rw [if_neg (by omega), decide_eq_false (by omega)]
    simp only [spec_GetSign.j0, hbb, hwb]
    rw [if_neg (by decide), if_pos (by omega), if_pos (by omega)]
  rcases begins_all bn (by omega) with ⟨e1, e2⟩ | ⟨e1, e2⟩ | ⟨more, hm1, hm2, e2, e1, hn0, hn1⟩
  · refine ⟨bn, 1, Ev.here fun k => ?_, Ev.step hi ?_, by omega, by omega, by omega⟩
    · rw [hsp, e2]; rfl
    · rw [e1]
      refine Ev.here fun k => ?_
      simp only [Option.bind_some]
      rw [if_neg (by decide)]
      simp only [impl_getSign.l0]
      rw [if_neg (by decide), w64 (by omega) (by omega)]; rfl
  · refine ⟨65533, 1, Ev.here fun k => ?_, Ev.here fun k => ?_, by omega, by omega, by decide⟩
    · rw [hsp, e2]; rfl
    · rw [hi, e1]; rfl
  · obtain ⟨r, m, er1, er2, h3, h4, h5⟩ := GetSign_loop s at_ more bn hs (by omega) hat more 1 (bits .and .i64 (bn : Int) (shr .i64 127 ((more : Int) + 1))) (lo bn) (Sg.hi bn) (by omega) (by omega) (by omega) (by omega) hn0 (by omega) (fun _ => ⟨rfl, rfl⟩) (by omega)
    refine ⟨r, m, Ev.step (f := fun k => spec_GetSign.l0 k s at_ bn (more + 1) (bits .and .i64 (bn : Int) (shr .i64 127 ((more : Int) + 1))) 1) (fun k => ?_) er1, ?_, h3, h4, h5⟩
    · rw [hsp, e2]
      simp only [Option.bind_some]
      rw [if_neg (by omega), if_pos (by omega)]
    · obtain ⟨K, hK⟩ := er2
      refine ⟨K + 1, fun k hk => ?_⟩
      obtain ⟨k, rfl⟩ : ∃ q, k = q + 1 := ⟨k - 1, by omega⟩
      show impl_getSign.f (k + 1) s at_ = _
      rw [hi, e1]
      simp only [Option.bind_some]
      rw [if_neg (by omega)]
      exact hK (k + 1) (by omega)
end Go.Proofs.Ytfjheckgigppiaa.Sg
namespace Go.Proofs.Ytfjheckgigppiaa.Sg
open Go Go.RowKit Go.Proofs.Ytfjheckgigppiaa.P Go.Proofs.Ytfjheckgigppiaa.Evs Go.Proofs.YtfjheckgigppiaaW.PrintWords Go.Proofs.YtfjheckgigppiaaW.PrintLast

theorem Signs_loop (s : ByteArray) (hs : s.size ≤ 1048576) : ∀ (d at_ : Nat) (acc : List Int), s.size - at_ ≤ d → at_ ≤ s.size → acc.length ≤ at_ →
    ∃ l, Ev (fun k => spec_Signs.l0 k s acc at_) l ∧ Ev (fun k => impl_Signs.l0 k s acc at_) l ∧ l.length ≤ s.size ∧ acc.length ≤ l.length ∧ (at_ < s.size → acc.length < l.length) := by
  intro d
  induction d with
  | zero =>
    intro at_ acc hd hat hacc
    refine ⟨acc, Ev.here fun k => ?_, Ev.here fun k => ?_, by omega, by omega, by omega⟩
    · simp only [spec_Signs.l0]; rw [if_neg (by omega)]
    · simp only [impl_Signs.l0]; rw [if_neg (by omega)]
  | succ d ih =>
    intro at_ acc hd hat hacc
    by_cases c : at_ < s.size
    · obtain ⟨r, m, e1, e2, h1, h2, _⟩ := GetSign_same s at_ hs c
      obtain ⟨l, el1, el2, hl, hl2, _⟩ := ih (at_ + m) (acc ++ [r]) (by omega) h2 (by simp; omega)
      rw [List.length_append, List.length_singleton] at hl2
      have hw : wrap64 ((at_ : Int) + (m : Int)) = ((at_ + m : Nat) : Int) := by rw [w64 (by omega) (by omega)]; rfl
      have hacc2 : acc.length < 17592186044416 := by omega
      refine ⟨l, ?_, ?_, hl, by omega, fun _ => by omega⟩
      · refine Ev.step (fun k => by simp only [spec_Signs.l0]; rw [if_pos (by omega)]) ?_
        refine Ev.bind e1 (Ev.ite_pos hacc2 ?_)
        simp only [hw]; exact el1
      · refine Ev.step (fun k => by simp only [impl_Signs.l0]; rw [if_pos (by omega)]) ?_
        refine Ev.bind e2 (Ev.ite_pos hacc2 ?_)
        simp only [hw]; exact el2
    · refine ⟨acc, Ev.here fun k => ?_, Ev.here fun k => ?_, by omega, by omega, by omega⟩
      · simp only [spec_Signs.l0]; rw [if_neg (by omega)]
      · simp only [impl_Signs.l0]; rw [if_neg (by omega)]
theorem Signs_same (s : ByteArray) (hs : s.size ≤ 1048576) : ∃ l, Ev (fun k => spec_Signs.f k s) l ∧ Ev (fun k => impl_Signs.f k s) l ∧ l.length ≤ s.size := by
  unfold spec_Signs.f impl_Signs.f
  obtain ⟨l, h1, h2, h3, _, _⟩ := Signs_loop s hs s.size 0 [] (by omega) (by omega) (by simp)
  exact ⟨l, h1, h2, h3⟩
theorem Signs_some (s : ByteArray) (hs : s.size ≤ 1048576) (h0 : 0 < s.size) : ∃ l, Ev (fun k => spec_Signs.f k s) l ∧ Ev (fun k => impl_Signs.f k s) l ∧ l.length ≤ s.size ∧ 0 < l.length := by
  unfold spec_Signs.f impl_Signs.f
  obtain ⟨l, h1, h2, h3, _, h5⟩ := Signs_loop s hs s.size 0 [] (by omega) (by omega) (by simp)
  exact ⟨l, h1, h2, h3, h5 h0⟩

/-! ### a text of signs -/
theorem nums_bytes (t : ByteArray) : strOfNums (bytesOf t) = t := by
  unfold strOfNums bytesOf
  rw [List.map_map, show ((fun n : Int => UInt8.ofNat n.toNat) ∘ fun b : UInt8 => (b.toNat : Int)) = id from funext fun b => by simp, List.map_id]
theorem nums_append (a b : List Int) : strOfNums (a ++ b) = strOfNums a ++ strOfNums b := by
  apply ByteArray.ext
  simp [strOfNums, ByteArray.data_append]
theorem rdI (xs : List Int) (i : Nat) (h : i < xs.length) : rd xs (i : Int) = xs[i] := rdT xs 0 i h
theorem SignText_loop (l : List Int) (hl : l.length ≤ 1048576) : ∀ (d j : Nat) (acc : List Int), l.length - j = d → j ≤ l.length → acc.length ≤ 4 * j →
    ∃ t : ByteArray, Ev (fun k => spec_SignText.l0 k l acc j) t ∧ Ev (fun k => impl_SignText.l0 k l (strOfNums acc) j) t ∧ t.size ≤ 4 * l.length := by
  intro d
  induction d with
  | zero =>
    intro j acc hd hj hacc
    refine ⟨strOfNums acc, Ev.here fun k => ?_, Ev.here fun k => ?_, by rw [strOfNums_size]; omega⟩
    · simp only [spec_SignText.l0]; rw [if_neg (by omega)]
    · simp only [impl_SignText.l0]; rw [if_neg (by omega)]
  | succ d ih =>
    intro j acc hd hj hacc
    have hjl : j < l.length := by omega
    obtain ⟨t, e1, e2, h1, h2⟩ := PutSign_same l[j]
    have hbl : (bytesOf t).length = t.size := bytesOf_length t
    obtain ⟨u, eu1, eu2, hu⟩ := ih (j + 1) (acc ++ bytesOf t) (by omega) (by omega) (by rw [List.length_append, hbl]; omega)
    have hw : wrap64 ((j : Int) + 1) = ((j + 1 : Nat) : Int) := by rw [w64 (by omega) (by omega)]; rfl
    refine ⟨u, ?_, ?_, hu⟩
    · refine Ev.step (fun k => by simp only [spec_SignText.l0]; rw [if_pos (by omega), if_pos (by omega), rdI l j hjl]) ?_
      refine Ev.bind e1 (Ev.ite_pos (by omega) ?_)
      simp only [hw]; exact eu1
    · refine Ev.step (fun k => by simp only [impl_SignText.l0]; rw [if_pos (by omega), if_pos (by omega), rdI l j hjl]) ?_
      refine Ev.bind e2 (Ev.ite_pos (by rw [strOfNums_size]; omega) ?_)
      simp only [hw, show strOfNums acc ++ t = strOfNums (acc ++ bytesOf t) by rw [nums_append, nums_bytes]]; exact eu2
theorem SignText_same (l : List Int) (hl : l.length ≤ 1048576) : ∃ t : ByteArray, Ev (fun k => spec_SignText.f k l) t ∧ Ev (fun k => impl_SignText.f k l) t ∧ t.size ≤ 4 * l.length := by
  unfold spec_SignText.f impl_SignText.f
  exact SignText_loop l hl l.length 0 [] (by omega) (by omega) (by simp)
end Go.Proofs.Ytfjheckgigppiaa.Sg
namespace Go.Proofs.Ytfjheckgigppiaa.Sg
open Go Go.RowKit Go.Proofs.Ytfjheckgigppiaa.P Go.Proofs.Ytfjheckgigppiaa.Evs Go.Proofs.YtfjheckgigppiaaW.PrintWords Go.Proofs.YtfjheckgigppiaaW.PrintLast

theorem Clean_same (s : ByteArray) (hs : s.size ≤ 1048576) : ∃ t : ByteArray, Ev (fun k => spec_Clean.f k s) t ∧ Ev (fun k => impl_Clean.f k s) t ∧ t.size ≤ 4 * s.size := by
  obtain ⟨l, e1, e2, hl⟩ := Signs_same s hs
  obtain ⟨t, f1, f2, ht⟩ := SignText_same l (by omega)
  exact ⟨t, Ev.bind e1 (Ev.bind f1 (Ev.now t)), Ev.bind e2 (Ev.bind f2 (Ev.now t)), by omega⟩
theorem CleanOk_same (s : ByteArray) (hs : s.size ≤ 1048576) : ∃ b : Bool, Ev (fun k => spec_CleanOk.f k s) b ∧ Ev (fun k => impl_CleanOk.f k s) b := by
  obtain ⟨t, e1, e2, _⟩ := Clean_same s hs
  exact ⟨_, Ev.bind e1 (Ev.now _), Ev.bind e2 (Ev.now _)⟩

end Go.Proofs.Ytfjheckgigppiaa.Sg
namespace Go.Proofs.Ytfjheckgigppiaa.Sg
open Go Go.RowKit Go.Proofs.Ytfjheckgigppiaa.P Go.Proofs.Ytfjheckgigppiaa.Evs Go.Proofs.YtfjheckgigppiaaW.PrintWords Go.Proofs.YtfjheckgigppiaaW.PrintLast

theorem IsLetter_same (a : Int) : spec_IsLetter.f a = impl_IsLetter.f a := rfl
theorem IsLetter_tells (a : Int) : ∃ b, impl_IsLetter.f a = some b := by
  unfold impl_IsLetter.f
  rw [inRange_eq, inRange_eq]
  simp only [Option.bind_some]
  split <;> exact ⟨_, rfl⟩
def flI : List (Int × Int) → List Int
  | [] => []
  | p :: ps => p.1 :: p.2 :: flI ps
theorem flI_length : ∀ sp, (flI sp).length = 2 * sp.length
  | [] => rfl
  | p :: ps => by simp only [flI, List.length_cons, flI_length ps]; omega
theorem flI_get : ∀ (sp : List (Int × Int)) (j : Nat) (h : j < sp.length), (flI sp)[2 * j]? = some sp[j].1 ∧ (flI sp)[2 * j + 1]? = some sp[j].2
  | [], _, h => absurd h (by simp)
  | _ :: _, 0, _ => ⟨rfl, rfl⟩
  | p :: ps, j + 1, h => by
    have ih := flI_get ps j (by simpa using h)
    rw [show 2 * (j + 1) = 2 * j + 1 + 1 from by omega]
    exact ⟨by simpa [flI] using ih.1, by simpa [flI] using ih.2⟩
theorem rd_some (xs : List Int) (i : Nat) (v : Int) (h : xs[i]? = some v) : rd xs (i : Int) = v := by
  unfold rd
  rw [Int.toNat_natCast, List.getD_eq_getElem?_getD, h]; rfl
theorem Within_loop (sp : List (Int × Int)) (a : Int) (hsp : sp.length ≤ 100) : ∀ (d j : Nat), sp.length - j = d → j ≤ sp.length →
    Ev (fun k => spec_l2Within.l0 k (flI sp) a ((2 * j : Nat) : Int)) (inSp a (sp.drop j)) := by
  intro d
  have hlen := flI_length sp
  induction d with
  | zero =>
    intro j hd hj
    rw [List.drop_eq_nil_of_le (by omega)]
    refine Ev.here fun k => ?_
    simp only [spec_l2Within.l0]
    rw [w64 (by omega) (by omega), if_neg (by omega)]; rfl
  | succ d ih =>
    intro j hd hj
    have hjl : j < sp.length := by omega
    obtain ⟨g1, g2⟩ := flI_get sp j hjl
    have ih' := ih (j + 1) (by omega) (by omega)
    have hw : wrap64 (((2 * j : Nat) : Int) + 1) = ((2 * j + 1 : Nat) : Int) := by rw [w64 (by omega) (by omega)]; rfl
    have hw2 : wrap64 (((2 * j : Nat) : Int) + 2) = ((2 * (j + 1) : Nat) : Int) := by rw [w64 (by omega) (by omega)]; omega
    have hstep : ∀ k, spec_l2Within.l0 (k + 1) (flI sp) a ((2 * j : Nat) : Int) = if sp[j].1 ≤ a ∧ a ≤ sp[j].2 then some true else spec_l2Within.l0 k (flI sp) a ((2 * (j + 1) : Nat) : Int) := by
      intro k
      simp only [spec_l2Within.l0, hw, hw2, rd_some _ _ _ g1, rd_some _ _ _ g2, l1In_eq, Option.bind_some]
      rw [if_pos (by omega), if_pos (by omega), if_pos (by omega), if_pos (by omega)]
      by_cases c : sp[j].1 ≤ a ∧ a ≤ sp[j].2
      · rw [if_pos (decide_eq_true c), if_pos c]
      · rw [if_neg (by rw [decide_eq_true_iff]; exact c), if_neg c]
    rw [inSp_drop a sp j hjl]
    by_cases c : sp[j].1 ≤ a ∧ a ≤ sp[j].2
    · rw [if_pos c]
      exact Ev.here fun k => by rw [hstep, if_pos c]
    · rw [if_neg c]
      exact Ev.step (fun k => by rw [hstep, if_neg c]) ih'
theorem Within_tells (sp : List (Int × Int)) (a : Int) (hsp : sp.length ≤ 100) : Ev (fun k => spec_l2Within.f k (flI sp) a) (inSp a sp) := by
  unfold spec_l2Within.f
  exact Within_loop sp a hsp sp.length 0 (by omega) (by omega)
theorem IsFirst_same (a : Int) : ∃ b, Ev (fun k => spec_IsFirst.f k a) b ∧ impl_IsFirst.f a = some b := by
  obtain ⟨t, ht⟩ := IsLetter_tells a
  unfold spec_IsFirst.f impl_IsFirst.f
  rw [IsLetter_same, ht]
  cases t with
  | true => exact ⟨true, Ev.opt rfl (Ev.ite_pos rfl (Ev.now _)), rfl⟩
  | false =>
    by_cases c : a = 95
    · subst c; exact ⟨true, Ev.opt rfl (Ev.ite_neg (by decide) (Ev.ite_pos rfl (Ev.now _))), rfl⟩
    · refine ⟨inSp a spansFirst, Ev.opt rfl (Ev.ite_neg (by decide) (Ev.ite_neg c (Ev.bind (Within_tells spansFirst a (by decide)) (Ev.now _)))), ?_⟩
      simp only [Option.bind_some]
      rw [if_neg (by decide), if_neg c]
theorem IsNext_same (a : Int) : ∃ b, Ev (fun k => spec_IsNext.f k a) b ∧ impl_IsNext.f a = some b := by
  obtain ⟨t, h1, h2⟩ := IsFirst_same a
  unfold spec_IsNext.f impl_IsNext.f
  rw [h2]
  cases t with
  | true => exact ⟨true, Ev.bind h1 (Ev.ite_pos rfl (Ev.now _)), rfl⟩
  | false =>
    simp only [Option.bind_some]
    rw [if_neg (by decide)]
    by_cases c1 : a = 45
    · subst c1; exact ⟨_, Ev.bind h1 (Ev.ite_neg (by decide) (Ev.ite_pos rfl (Ev.now _))), rfl⟩
    by_cases c2 : a = 46
    · subst c2; exact ⟨_, Ev.bind h1 (Ev.ite_neg (by decide) (Ev.ite_neg c1 (Ev.ite_pos rfl (Ev.now _)))), rfl⟩
    by_cases c3 : a = 183
    · subst c3; exact ⟨_, Ev.bind h1 (Ev.ite_neg (by decide) (Ev.ite_neg c1 (Ev.ite_neg c2 (Ev.ite_pos rfl (Ev.now _))))), rfl⟩
    refine ⟨inSp a [(48, 57), (768, 879), (8255, 8256)], Ev.bind h1 (Ev.ite_neg (by decide) (Ev.ite_neg c1 (Ev.ite_neg c2 (Ev.ite_neg c3 (Ev.bind (Within_tells [(48, 57), (768, 879), (8255, 8256)] a (by decide)) (Ev.now _)))))), ?_⟩
    congr 1
    simp only [spansNext, inSp]
    rw [if_neg (show ¬ ((45 : Int) ≤ a ∧ a ≤ 46) by omega)]
    by_cases c4 : (48 : Int) ≤ a ∧ a ≤ 57
    · rw [if_pos c4, if_pos c4]
    · rw [if_neg c4, if_neg c4, if_neg (show ¬ ((183 : Int) ≤ a ∧ a ≤ 183) by omega)]
end Go.Proofs.Ytfjheckgigppiaa.Sg
namespace Go.Proofs.Ytfjheckgigppiaa.Sg
open Go Go.RowKit Go.Proofs.Ytfjheckgigppiaa.P Go.Proofs.Ytfjheckgigppiaa.Evs Go.Proofs.YtfjheckgigppiaaW.PrintWords Go.Proofs.YtfjheckgigppiaaW.PrintLast

/-! ### six digits -/
def digs : ByteArray := ⟨#[48, 49, 50, 51, 52, 53, 54, 55, 56, 57, 65, 66, 67, 68, 69, 70]⟩
theorem and15_le (x : Int) : 0 ≤ bits .and .i64 x 15 ∧ bits .and .i64 x 15 ≤ 15 := by
  have h : ((BitVec.ofInt 64 x) &&& (BitVec.ofInt 64 15)).toNat ≤ 15 := by
    rw [BitVec.toNat_and]
    exact Nat.and_le_right
  have e : bits .and .i64 x 15 = IntKind.i64.wrap ((((BitVec.ofInt 64 x) &&& (BitVec.ofInt 64 15)).toNat : Nat) : Int) := rfl
  rw [e, wraps_i64 _ (by omega) (by omega)]
  omega
theorem dig_at : ∀ d : Nat, d < 16 → (strOfNums [bt digs (d : Int)]).data = (digs.extract d (d + 1)).data := by decide +kernel
theorem dig_cut (d : Nat) (h : d < 16) : strOfNums [bt digs (d : Int)] = digs.extract d (d + 1) := ByteArray.ext (dig_at d h)
theorem dig_size : ∀ d : Nat, d < 16 → (digs.extract d (d + 1)).size = 1 := by decide +kernel
theorem u64_small (x : Int) (h0 : 0 ≤ x) (h1 : x < 18446744073709551616) : IntKind.u64.wrap x = x := by
  simp [IntKind.wrap, IntKind.bits, IntKind.signed]; omega
theorem app_assoc (a b c : ByteArray) : a ++ b ++ c = a ++ (b ++ c) := by
  apply ByteArray.ext
  simp [ByteArray.data_append]
theorem Hex_loop (n : Int) : ∀ (j : Nat) (acc : ByteArray) (x : List Int), j ≤ 6 → acc.size + j ≤ 100 → strOfNums x = (⟨#[85]⟩ : ByteArray) ++ acc →
    ∃ t : ByteArray, Ev (fun k => spec_l13Hex.l0 k n digs acc ((j : Int) - 1)) t ∧ Ev (fun k => impl_spelt.l0 k n x (4 * (j : Int) - 4)) ((⟨#[85]⟩ : ByteArray) ++ t) ∧ t.size = acc.size + j := by
  intro j
  induction j with
  | zero =>
    intro acc x _ _ hx
    refine ⟨acc, Ev.here fun k => ?_, Ev.here fun k => ?_, by omega⟩
    · simp only [spec_l13Hex.l0]; rw [if_neg (by omega)]
    · simp only [impl_spelt.l0]; rw [if_neg (by omega), hx]
  | succ j ih =>
    intro acc x hj ha hx
    have hlen : x.length = acc.size + 1 := by
      rw [← strOfNums_size, hx, ByteArray.size_append]
      show 1 + acc.size = _; omega
    obtain ⟨d0, d1⟩ := and15_le (shr .i64 n (4 * (j : Int)))
    generalize hD : bits .and .i64 (shr .i64 n (4 * (j : Int))) 15 = D at d0 d1
    obtain ⟨d, rfl⟩ := Int.eq_ofNat_of_zero_le d0
    have hs := dig_size d (by omega)
    obtain ⟨t, e1, e2, ht⟩ := ih (acc ++ digs.extract d (d + 1)) (x ++ [bt digs (d : Int)]) (by omega) (by rw [ByteArray.size_append]; omega) (by rw [nums_append, dig_cut d (by omega), hx, app_assoc])
    have hw1 : wrap64 (4 * (((j + 1 : Nat) : Int) - 1)) = 4 * (j : Int) := by rw [w64 (by omega) (by omega)]; omega
    have hw2 : wrap64 ((d : Int) + 1) = ((d + 1 : Nat) : Int) := by rw [w64 (by omega) (by omega)]; rfl
    have hw3 : wrap64 (((j + 1 : Nat) : Int) - 1 - 1) = (j : Int) - 1 := by rw [w64 (by omega) (by omega)]; omega
    have hw4 : IntKind.u64.wrap (4 * ((j + 1 : Nat) : Int) - 4) = 4 * (j : Int) := by rw [u64_small _ (by omega) (by omega)]; omega
    have hw5 : wrap64 (4 * ((j + 1 : Nat) : Int) - 4 - 4) = 4 * (j : Int) - 4 := by rw [w64 (by omega) (by omega)]; omega
    refine ⟨t, Ev.step (fun k => ?_) e1, Ev.step (fun k => ?_) e2, by rw [ht, ByteArray.size_append]; omega⟩
    · simp only [spec_l13Hex.l0, hw1, hD, hw2, hw3, Int.toNat_natCast]
      rw [if_pos (by omega), if_pos (by omega), if_pos (by omega), if_pos (by omega), if_pos (show ((d + 1 : Nat) : Int) ≤ (digs.size : Int) by show _ ≤ (16 : Int); omega), if_pos (by omega)]
    · simp only [impl_spelt.l0, hw4, hD, hw5]
      rw [if_pos (by omega), if_pos (by omega), if_pos (by omega), if_pos (by omega), if_pos (by omega)]
      rfl
theorem Hex_same (n : Int) : ∃ t : ByteArray, Ev (fun k => spec_l13Hex.f k n) t ∧ Ev (fun k => impl_spelt.f k n) ((⟨#[85]⟩ : ByteArray) ++ t) ∧ t.size = 6 := by
  obtain ⟨t, e1, e2, ht⟩ := Hex_loop n 6 (⟨#[]⟩ : ByteArray) [85] (by omega) (by decide) (by decide +kernel)
  exact ⟨t, e1, e2, ht⟩

/-! ### one sign, all signs -/
theorem pick_same (i n : Int) (hi : 0 ≤ i) (l : List Int) (acc : ByteArray) (ha : acc.size ≤ 100000000) :
    ∃ u : ByteArray, Ev (fun k => impl_NameOf.pick k i n) u ∧ 1 ≤ u.size ∧ u.size ≤ 7 ∧
      ∀ t, Ev (fun k => spec_NameOf.l0 k l (acc ++ u) (wrap64 (i + 1))) t →
        Ev (fun k => if i = 0 then ((spec_IsFirst.f k n).bind fun b => if b = true then spec_NameOf.j1 k l acc i n true else if i > 0 then ((spec_IsNext.f k n).bind fun b => spec_NameOf.j1 k l acc i n b) else spec_NameOf.j1 k l acc i n false) else if i > 0 then ((spec_IsNext.f k n).bind fun b => spec_NameOf.j1 k l acc i n b) else spec_NameOf.j1 k l acc i n false) t := by
  obtain ⟨p, p1, p2, p3, p4⟩ := PutSign_same n
  obtain ⟨h, h1, h2, h3⟩ := Hex_same n
  obtain ⟨b1, f1, f2⟩ := IsFirst_same n
  obtain ⟨b2, g1, g2⟩ := IsNext_same n
  have hu : ((⟨#[85]⟩ : ByteArray) ++ h).size = 7 := by rw [ByteArray.size_append, h3]; rfl
  have hu1 : (acc ++ (⟨#[85]⟩ : ByteArray)).size = acc.size + 1 := by rw [ByteArray.size_append]; rfl
  have hT : acc.size + p.size ≤ 9223372036854775807 := by omega
  have hF : (acc ++ (⟨#[85]⟩ : ByteArray)).size + h.size ≤ 9223372036854775807 := by omega
  have hF1 : acc.size + 1 ≤ 9223372036854775807 := by omega
  have jT : ∀ t, Ev (fun k => spec_NameOf.l0 k l (acc ++ p) (wrap64 (i + 1))) t → Ev (fun k => spec_NameOf.j1 k l acc i n true) t := fun t ht =>
    Ev.step (fun k => by simp only [spec_NameOf.j1]; rw [if_pos True.intro]) (Ev.bind p1 (Ev.ite_pos hT ht))
  have jF : ∀ t, Ev (fun k => spec_NameOf.l0 k l (acc ++ ((⟨#[85]⟩ : ByteArray) ++ h)) (wrap64 (i + 1))) t → Ev (fun k => spec_NameOf.j1 k l acc i n false) t := fun t ht =>
    Ev.step (fun k => by simp only [spec_NameOf.j1]; rw [if_neg (by decide), if_pos hF1]) (Ev.bind h1 (Ev.ite_pos hF (by rw [← app_assoc] at ht; exact ht)))
  by_cases c : i = 0
  · cases b1 with
    | true => exact ⟨p, Ev.opt (by rw [if_pos c]; exact f2) (Ev.ite_pos rfl p2), p3, by omega, fun t ht => Ev.ite_pos c (Ev.bind f1 (Ev.ite_pos rfl (jT t ht)))⟩
    | false => exact ⟨_, Ev.opt (by rw [if_pos c]; exact f2) (Ev.ite_neg (by decide) h2), by omega, by omega, fun t ht => Ev.ite_pos c (Ev.bind f1 (Ev.ite_neg (by decide) (Ev.ite_neg (by omega) (jF t ht))))⟩
  · cases b2 with
    | true => exact ⟨p, Ev.opt (by rw [if_neg c]; exact g2) (Ev.ite_pos rfl p2), p3, by omega, fun t ht => Ev.ite_neg c (Ev.ite_pos (by omega) (Ev.bind g1 (jT t ht)))⟩
    | false => exact ⟨_, Ev.opt (by rw [if_neg c]; exact g2) (Ev.ite_neg (by decide) h2), by omega, by omega, fun t ht => Ev.ite_neg c (Ev.ite_pos (by omega) (Ev.bind g1 (jF t ht)))⟩
theorem size_nil (t : ByteArray) : t.toList = [] ↔ t.size = 0 := by
  rw [ByteArray.toList_eq, ← List.length_eq_zero_iff]
  rfl
theorem NameOf_loop (l : List Int) (hl : l.length ≤ 1048576) : ∀ (d j : Nat) (acc : ByteArray), l.length - j = d → j ≤ l.length → acc.size ≤ 7 * j →
    ∃ t : ByteArray, Ev (fun k => impl_NameOf.l0 k l acc j) t ∧ Ev (fun k => spec_NameOf.l0 k l acc j) (if t.toList = [] then (⟨#[85]⟩ : ByteArray) else t) ∧ acc.size + (l.length - j) ≤ t.size ∧ t.size ≤ 7 * l.length := by
  intro d
  induction d with
  | zero =>
    intro j acc hd hj ha
    refine ⟨acc, Ev.here fun k => ?_, Ev.here fun k => ?_, by omega, by omega⟩
    · simp only [impl_NameOf.l0]; rw [if_neg (by omega)]
    · simp only [spec_NameOf.l0]; rw [if_neg (by omega)]
      by_cases c : acc.toList = []
      · rw [if_pos c, if_pos c]
      · rw [if_neg c, if_neg c]
  | succ d ih =>
    intro j acc hd hj ha
    have hjl : j < l.length := by omega
    obtain ⟨u, hu, hu1, hu2, hu3⟩ := pick_same (j : Int) l[j] (by omega) l acc (by omega)
    have hs : (acc ++ u).size = acc.size + u.size := ByteArray.size_append
    obtain ⟨t, e1, e2, ht1, ht2⟩ := ih (j + 1) (acc ++ u) (by omega) (by omega) (by omega)
    have hw : wrap64 ((j : Int) + 1) = ((j + 1 : Nat) : Int) := by rw [w64 (by omega) (by omega)]; rfl
    have hU : acc.size + u.size ≤ 140737488355328 := by omega
    refine ⟨t, ?_, ?_, by omega, ht2⟩
    · refine Ev.step (fun k => by simp only [impl_NameOf.l0]; rw [if_pos (by omega), if_pos (by omega), rdI l j hjl]) (Ev.bind hu (Ev.ite_pos hU ?_))
      simp only [hw]; exact e1
    · refine Ev.step (fun k => ?_) (hu3 _ (by rw [hw]; exact e2))
      simp only [spec_NameOf.l0]; rw [if_pos (by omega), if_pos (by omega), rdI l j hjl]
theorem NameOf_same (s : ByteArray) (hs : s.size ≤ 1048576) : ∃ t : ByteArray, Ev (fun k => spec_NameOf.f k s) t ∧ Ev (fun k => impl_NameOf.f k s) t ∧ t.size ≤ 7 * s.size + 1 := by
  unfold spec_NameOf.f impl_NameOf.f
  by_cases c : s.size = 0
  · obtain ⟨l, e1, e2, hl⟩ := Signs_same s hs
    obtain rfl : l = [] := List.eq_nil_of_length_eq_zero (by omega)
    refine ⟨(⟨#[85]⟩ : ByteArray), Ev.bind e1 (Ev.here fun k => ?_), Ev.ite_pos ((size_nil s).mpr c) (Ev.now _), by show 1 ≤ _; omega⟩
    simp only [spec_NameOf.l0]; rw [if_neg (by decide), if_pos ((size_nil _).mpr rfl)]
  · obtain ⟨l, e1, e2, hl, hl0⟩ := Signs_some s hs (by omega)
    obtain ⟨t, h1, h2, h3, h4⟩ := NameOf_loop l (by omega) l.length 0 (⟨#[]⟩ : ByteArray) (by omega) (by omega) (by decide)
    have h0 : (⟨#[]⟩ : ByteArray).size = 0 := rfl
    rw [if_neg (by rw [size_nil]; omega)] at h2
    exact ⟨t, Ev.bind e1 h2, Ev.ite_neg (by rw [size_nil]; exact c) (Ev.bind e2 h1), by omega⟩
end Go.Proofs.Ytfjheckgigppiaa.Sg
