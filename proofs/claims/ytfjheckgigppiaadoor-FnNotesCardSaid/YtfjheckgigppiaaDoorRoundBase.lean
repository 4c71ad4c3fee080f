/- What PutSign writes, GetSign reads back: one sign at its place in a text. No conditions but the size. -/
import Derived.Test.YtfjheckgigppiaaDoorSignBase
set_option linter.unusedVariables false
set_option linter.unusedSimpArgs false
namespace Go.Proofs.YtfjheckgigppiaaDoor.Sg
open Go Go.RowKit Go.Proofs.YtfjheckgigppiaaDoor.P Go.Proofs.YtfjheckgigppiaaDoor.Evs Go.Proofs.YtfjheckgigppiaaDoorW.PrintWords Go.Proofs.YtfjheckgigppiaaDoorW.PrintLast

/-- The bytes of a sign. -/
def pb (n : Int) : List Int := if n < 128 then [n] else if n < 2048 then [192 + n / 64, 128 + n % 64] else if n < 65536 then [224 + n / 4096, 128 + n / 64 % 64, 128 + n % 64] else [240 + n / 262144, 128 + n / 4096 % 64, 128 + n / 64 % 64, 128 + n % 64]
def okS (n : Int) : Prop := (0 ≤ n ∧ n ≤ 1114111) ∧ ¬ (55296 ≤ n ∧ n ≤ 57343)
theorem PutSign_bytes (n : Int) (hn : okS n) : Ev (fun k => impl_PutSign.f k n) (strOfNums (pb n)) := by
 obtain ⟨⟨h0, h1⟩, h2⟩ := hn
 have f0 : impl_follow.f n 0 = some (128 + n % 64) := follow_eq n 0 n h0 (by omega) (by decide) (by show n / 2 ^ min _ _ = n; simp [IntKind.wrap, IntKind.bits, IntKind.signed])
 have f6 : impl_follow.f n 6 = some (128 + n / 64 % 64) := follow_eq n 6 (n / 64) (by omega) (by omega) (by decide) (by rfl)
 have f12 : impl_follow.f n 12 = some (128 + n / 4096 % 64) := follow_eq n 12 (n / 4096) (by omega) (by omega) (by decide) (by rfl)
 unfold impl_PutSign.f
 rw [SignOk_tells]
 refine Ev.opt rfl (Ev.ite_pos (decide_eq_true ⟨⟨h0, h1⟩, h2⟩) (Ev.here fun k => ?_))
 simp only [impl_PutSign.j0, f0, f6, f12, Option.bind_some]
 unfold pb
 by_cases c1 : n < 128
 ·rw [if_pos c1, if_pos c1, Int.emod_eq_of_lt h0 (by omega)]
 rw [if_neg c1, if_neg c1]
 by_cases c2 : n < 2048
 ·rw [if_pos c2, if_pos c2, or192 _ (by omega) (by omega), Int.emod_eq_of_lt (by omega) (by omega)]
 rw [if_neg c2, if_neg c2]
 by_cases c3 : n < 65536
 ·rw [if_pos c3, if_pos c3, or224 _ (by omega) (by omega), Int.emod_eq_of_lt (by omega) (by omega)]
 rw [if_neg c3, if_neg c3, or240 _ (by omega) (by omega), Int.emod_eq_of_lt (by omega) (by omega)]
/-- One byte more of a sign. -/
theorem more_step (s : ByteArray) (at_ : Nat) (hs : s.size ≤ 1048576) (more : Int) (v low high : Int) (i : Nat) (b : Int) (hv : 0 ≤ v) (hv1 : v < 1048576) (hi : (i : Int) ≤ more) (hb : bt s ((at_ + i : Nat) : Int) = b) (hlt : at_ + i < s.size) (h128 : 128 ≤ b) (h191 : b ≤ 191) (hl : low ≤ b) (hh : b ≤ high) :
  ∀ k, impl_getSign.l0 (k + 1) s at_ more v low high i = impl_getSign.l0 k s at_ more (v * 64 + (b - 128)) 128 191 ((i + 1 : Nat) : Int) := by
 intro k
 have hw : wrap64 ((at_ : Int) + (i : Int)) = ((at_ + i : Nat) : Int) := by rw [w64 (by omega) (by omega)]; rfl
 have hw1 : wrap64 ((i : Int) + 1) = ((i + 1 : Nat) : Int) := by rw [w64 (by omega) (by omega)]; rfl
 have hA : ¬ ((at_ + i : Nat) : Int) ≥ (s.size : Int) := by omega
 have hB : (0 : Int) ≤ ((at_ + i : Nat) : Int) := Int.natCast_nonneg _
 have hC : ((at_ + i : Nat) : Int) < (s.size : Int) := by omega
 have hor : bits .or .i64 (wrap64 (v * 64)) (wrap64 (bits .and .u8 b 63)) = v * 64 + (b - 128) := by
  rw [u8_and63 b (by omega) (by omega), w64 (i := b % 64) (by omega) (by omega), or64 v (b % 64) hv (by omega) (by omega) (by omega), w64 (i := v * 64) (by omega) (by omega), w64 (by omega) (by omega)]
  omega
 simp only [impl_getSign.l0, hw, hw1, hb, hor]
 rw [if_pos hi, if_neg hA, if_pos hB, if_pos hC, if_neg (by omega), if_neg (by omega)]
theorem more_end (s : ByteArray) (at_ : Nat) (more : Nat) (v low high : Int) (hm : more ≤ 3) : ∀ k, impl_getSign.l0 (k + 1) s at_ more v low high ((more + 1 : Nat) : Int) = some (v, ((more + 1 : Nat) : Int)) := by
 intro k
 simp only [impl_getSign.l0]
 rw [if_neg (by omega), w64 (by omega) (by omega)]; rfl
/-- The first byte: how many follow, and what it bears. -/
theorem begin_two (b : Int) (h0 : 194 ≤ b) (h1 : b < 224) : impl_beginning.f 1 b = some (1, b - 192, 128, 191) := by
 unfold impl_beginning.f
 rw [if_neg (by omega), if_neg (by omega), decide_eq_false (by omega)]
 simp only [impl_beginning.j0]
 rw [if_neg (by decide), if_pos h1, u8_and31 b (by omega) (by omega), w64 (by omega) (by omega), show b % 32 = b - 192 by omega]
theorem begin_three (b : Int) (h0 : 224 ≤ b) (h1 : b < 240) : impl_beginning.f 1 b = some (2, b - 224, (if b = 224 then 160 else 128), (if b = 237 then 159 else 191)) := by
 unfold impl_beginning.f
 rw [if_neg (by omega), if_neg (by omega), decide_eq_false (by omega)]
 simp only [impl_beginning.j0]
 rw [if_neg (by decide), if_neg (by omega)]
 by_cases c : b = 224
 ·subst c; rfl
 rw [if_neg c, if_neg c]
 by_cases c2 : b = 237
 ·subst c2; rfl
 rw [if_neg c2, if_neg c2, if_pos h1, u8_and15 b (by omega) (by omega), w64 (by omega) (by omega), show b % 16 = b - 224 by omega]
theorem begin_four (b : Int) (h0 : 240 ≤ b) (h1 : b ≤ 244) : impl_beginning.f 1 b = some (3, b - 240, (if b = 240 then 144 else 128), (if b = 244 then 143 else 191)) := by
 unfold impl_beginning.f
 rw [if_neg (by omega), if_neg (by omega), decide_eq_false (by omega)]
 simp only [impl_beginning.j0]
 rw [if_neg (by decide), if_neg (by omega), if_neg (by omega), if_neg (by omega), if_neg (by omega)]
 by_cases c : b = 240
 ·subst c; rfl
 rw [if_neg c, if_neg c]
 by_cases c2 : b = 244
 ·subst c2; rfl
 rw [if_neg c2, if_neg c2, u8_and7 b (by omega) (by omega), w64 (by omega) (by omega), show b % 8 = b - 240 by omega]
theorem get_step (s : ByteArray) (at_ : Nat) (b : Int) (hat : at_ < s.size) (hb : bt s (at_ : Int) = b) : ∀ k, impl_getSign.f (k + 1) s at_ = (impl_beginning.f 1 b).bind fun z => if z.1 < 0 then some (65533, 1) else impl_getSign.l0 (k + 1) s at_ z.1 z.2.1 z.2.2.1 z.2.2.2 1 := by
 intro k
 unfold impl_getSign.f
 rw [if_pos (by omega), if_pos (by omega), hb, beginning_k]
theorem Ev.succ {α : Type} {g f : Nat → Option α} {r : α} (h : ∀ k, g (k + 1) = f (k + 1)) (k : Ev f r) : Ev g r := by
 obtain ⟨K, hK⟩ := k
 refine ⟨K + 1, fun q hq => ?_⟩
 obtain ⟨q, rfl⟩ : ∃ m, q = m + 1 := ⟨q - 1, by omega⟩
 rw [h]; exact hK (q + 1) (by omega)
theorem get_from (s : ByteArray) (at_ : Nat) (b more v low high : Int) (hat : at_ < s.size) (hb : bt s (at_ : Int) = b) (hbg : impl_beginning.f 1 b = some (more, v, low, high)) (hm : ¬ more < 0) (r : Int × Int) (e : Ev (fun k => impl_getSign.l0 k s at_ more v low high 1) r) : Ev (fun k => impl_getSign.f k s at_) r := by
 refine Ev.succ (fun k => ?_) e
 rw [get_step s at_ b hat hb k, hbg]
 exact if_neg hm
/-- A sign's bytes, read back at their place. -/
theorem GetSign_back (s : ByteArray) (at_ : Nat) (n : Int) (hn : okS n) (hs : s.size ≤ 1048576)
  (hb : ∀ (i : Nat) (b : Int), (pb n)[i]? = some b → at_ + i < s.size ∧ bt s ((at_ + i : Nat) : Int) = b) : Ev (fun k => impl_getSign.f k s at_) (n, ((pb n).length : Int)) := by
 obtain ⟨⟨h0, h1⟩, h2⟩ := hn
 unfold pb at hb ⊢
 by_cases c1 : n < 128
 ·rw [if_pos c1] at hb ⊢
  obtain ⟨l0, e0⟩ := hb 0 n rfl
  have hbg : impl_beginning.f 1 n = some (0, n, 0, 0) := by
   unfold impl_beginning.f
   rw [if_pos c1, w64 (by omega) (by omega)]
  exact get_from s at_ n 0 n 0 0 l0 e0 hbg (by decide) _ (Ev.here fun k => more_end s at_ 0 n 0 0 (by omega) k)
 rw [if_neg c1] at hb ⊢
 by_cases c2 : n < 2048
 ·rw [if_pos c2] at hb ⊢
  obtain ⟨l0, e0⟩ := hb 0 (192 + n / 64) rfl
  obtain ⟨l1, e1⟩ := hb 1 (128 + n % 64) rfl
  refine get_from s at_ (192 + n / 64) _ _ _ _ l0 e0 (begin_two _ (by omega) (by omega)) (by decide) _ (Ev.step (fun k => more_step s at_ hs 1 (192 + n / 64 - 192) 128 191 1 (128 + n % 64) (by omega) (by omega) (by decide) e1 l1 (by omega) (by omega) (by omega) (by omega) k) ?_)
  rw [show (192 + n / 64 - 192) * 64 + (128 + n % 64 - 128) = n by omega]
  exact Ev.here fun k => more_end s at_ 1 n 128 191 (by omega) k
 rw [if_neg c2] at hb ⊢
 by_cases c3 : n < 65536
 ·rw [if_pos c3] at hb ⊢
  obtain ⟨l0, e0⟩ := hb 0 (224 + n / 4096) rfl
  obtain ⟨l1, e1⟩ := hb 1 (128 + n / 64 % 64) rfl
  obtain ⟨l2, e2⟩ := hb 2 (128 + n % 64) rfl
  have hlow : (if 224 + n / 4096 = 224 then (160 : Int) else 128) ≤ 128 + n / 64 % 64 := by split <;> omega
  have hhigh : 128 + n / 64 % 64 ≤ (if 224 + n / 4096 = 237 then (159 : Int) else 191) := by split <;> omega
  refine get_from s at_ (224 + n / 4096) _ _ _ _ l0 e0 (begin_three _ (by omega) (by omega)) (by decide) _ (Ev.step (fun k => more_step s at_ hs 2 (224 + n / 4096 - 224) _ _ 1 (128 + n / 64 % 64) (by omega) (by omega) (by decide) e1 l1 (by omega) (by omega) hlow hhigh k) ?_)
  refine Ev.step (more_step s at_ hs 2 ((224 + n / 4096 - 224) * 64 + (128 + n / 64 % 64 - 128)) 128 191 2 (128 + n % 64) (by omega) (by omega) (by decide) e2 l2 (by omega) (by omega) (by omega) (by omega)) ?_
  rw [show ((224 + n / 4096 - 224) * 64 + (128 + n / 64 % 64 - 128)) * 64 + (128 + n % 64 - 128) = n by omega]
  exact Ev.here fun k => more_end s at_ 2 n 128 191 (by omega) k
 ·rw [if_neg c3] at hb ⊢
  obtain ⟨l0, e0⟩ := hb 0 (240 + n / 262144) rfl
  obtain ⟨l1, e1⟩ := hb 1 (128 + n / 4096 % 64) rfl
  obtain ⟨l2, e2⟩ := hb 2 (128 + n / 64 % 64) rfl
  obtain ⟨l3, e3⟩ := hb 3 (128 + n % 64) rfl
  have hlow : (if 240 + n / 262144 = 240 then (144 : Int) else 128) ≤ 128 + n / 4096 % 64 := by split <;> omega
  have hhigh : 128 + n / 4096 % 64 ≤ (if 240 + n / 262144 = 244 then (143 : Int) else 191) := by split <;> omega
  refine get_from s at_ (240 + n / 262144) _ _ _ _ l0 e0 (begin_four _ (by omega) (by omega)) (by decide) _ (Ev.step (fun k => more_step s at_ hs 3 (240 + n / 262144 - 240) _ _ 1 (128 + n / 4096 % 64) (by omega) (by omega) (by decide) e1 l1 (by omega) (by omega) hlow hhigh k) ?_)
  refine Ev.step (more_step s at_ hs 3 ((240 + n / 262144 - 240) * 64 + (128 + n / 4096 % 64 - 128)) 128 191 2 (128 + n / 64 % 64) (by omega) (by omega) (by decide) e2 l2 (by omega) (by omega) (by omega) (by omega)) ?_
  refine Ev.step (more_step s at_ hs 3 (((240 + n / 262144 - 240) * 64 + (128 + n / 4096 % 64 - 128)) * 64 + (128 + n / 64 % 64 - 128)) 128 191 3 (128 + n % 64) (by omega) (by omega) (by decide) e3 l3 (by omega) (by omega) (by omega) (by omega)) ?_
  rw [show (((240 + n / 262144 - 240) * 64 + (128 + n / 4096 % 64 - 128)) * 64 + (128 + n / 64 % 64 - 128)) * 64 + (128 + n % 64 - 128) = n by omega]
  exact Ev.here fun k => more_end s at_ 3 n 128 191 (by omega) k
end Go.Proofs.YtfjheckgigppiaaDoor.Sg
