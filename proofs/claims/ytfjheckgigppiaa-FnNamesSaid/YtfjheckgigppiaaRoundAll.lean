/- What PutSign writes, GetSign reads back: one sign at its place in a text. No conditions but the size. A text of right signs, read back sign by sign. No conditions but the size. A text of right signs is clean: written anew it stays as it is. No conditions but the size. Signs of names are right signs; a sign that may begin a name may go on in one. No conditions. What NameOf makes is a text of signs of names; it is strict. No conditions but the size. A strict name stays as it is. No conditions but the size. The program's NameOk and the reference's tell the same. No conditions but the size. -/
import Derived.Test.YtfjheckgigppiaaSignAll
import Derived.Test.YtfjheckgigppiaaPf11
import Derived.Test.YtfjheckgigppiaaPf14
import Derived.Test.YtfjheckgigppiaaPf15
import Derived.Test.YtfjheckgigppiaaPf2
import Derived.Test.YtfjheckgigppiaaPf4
import Derived.Test.YtfjheckgigppiaaPf5
namespace Go.Proofs.Ytfjheckgigppiaa.Sg
open Go Go.RowKit Go.Proofs.Ytfjheckgigppiaa.P Go.Proofs.Ytfjheckgigppiaa.Evs Go.Proofs.YtfjheckgigppiaaW.PrintWords Go.Proofs.YtfjheckgigppiaaW.PrintLast

/-- The bytes of a sign. -/
def pb (n : Int) : List Int := if n < 128 then [n] else if n < 2048 then [192 + n / 64, 128 + n % 64] else if n < 65536 then [224 + n / 4096, 128 + n / 64 % 64, 128 + n % 64] else [240 + n / 262144, 128 + n / 4096 % 64, 128 + n / 64 % 64, 128 + n % 64]
def okS (n : Int) : Prop := (0 ≤ n ∧ n ≤ 1114111) ∧ ¬ (55296 ≤ n ∧ n ≤ 57343)
theorem PutSign_bytes (n : Int) (hn : okS n) : Ev (fun k => impl_PutSign.f k n) (strOfNums (pb n)) := by
  obtain ⟨⟨h0, h1⟩, h2⟩ := hn
  have f0 : impl_follow.f n 0 = some (128 + n % 64) := follow_eq n 0 n h0 (by omega) (by decide) (by show n / 2 ^ min _ _ = n; simp [IntKind.wrap, IntKind.bits, IntKind.signed])
  have f6 : impl_follow.f n 6 = some (128 + n / 64 % 64) := follow_eq n 6 (n / 64) (by omega) (by omega) (by decide) (by rfl)
  have f12 : impl_follow.f n 12 = some (128 + n / 4096 % 64) := follow_eq n 12 (n / 4096) (by omega) (by omega) (by decide) (by rfl)
  unfold impl_PutSign.f
  rw [SignOk_tells]
  refine Ev.opt rfl (Ev.ite_pos (decide_eq_true ⟨⟨h0, h1⟩, h2⟩) (Ev.here fun k => ?_))
  simp only [impl_PutSign.j0, f0, f6, f12, Option.bind_some]
  unfold pb
  by_cases c1 : n < 128
  · rw [if_pos c1, if_pos c1, Int.emod_eq_of_lt h0 (by omega)]
  rw [if_neg c1, if_neg c1]
  by_cases c2 : n < 2048
  · rw [if_pos c2, if_pos c2, or192 _ (by omega) (by omega), Int.emod_eq_of_lt (by omega) (by omega)]
  rw [if_neg c2, if_neg c2]
  by_cases c3 : n < 65536
  · rw [if_pos c3, if_pos c3, or224 _ (by omega) (by omega), Int.emod_eq_of_lt (by omega) (by omega)]
  rw [if_neg c3, if_neg c3, or240 _ (by omega) (by omega), Int.emod_eq_of_lt (by omega) (by omega)]
/-- One byte more of a sign. -/
theorem more_step (s : ByteArray) (at_ : Nat) (hs : s.size ≤ 1048576) (more : Int) (v low high : Int) (i : Nat) (b : Int) (hv : 0 ≤ v) (hv1 : v < 1048576) (hi : (i : Int) ≤ more) (hb : bt s ((at_ + i : Nat) : Int) = b) (hlt : at_ + i < s.size) (h128 : 128 ≤ b) (h191 : b ≤ 191) (hl : low ≤ b) (hh : b ≤ high) :
    ∀ k, impl_getSign.l0 (k + 1) s at_ more v low high i = impl_getSign.l0 k s at_ more (v * 64 + (b - 128)) 128 191 ((i + 1 : Nat) : Int) := by
  intro k
  have hw : wrap64 ((at_ : Int) + (i : Int)) = ((at_ + i : Nat) : Int) := by rw [w64 (by omega) (by omega)]; rfl
  have hw1 : wrap64 ((i : Int) + 1) = ((i + 1 : Nat) : Int) := by rw [w64 (by omega) (by omega)]; rfl
  have hA : ¬ ((at_ + i : Nat) : Int) ≥ (s.size : Int) := by omega
  have hB : (0 : Int) ≤ ((at_ + i : Nat) : Int) := Int.natCast_nonneg _
  have hC : ((at_ + i : Nat) : Int) < (s.size : Int) := by omega
  have hor : bits .or .i64 (wrap64 (v * 64)) (wrap64 (bits .and .u8 b 63)) = v * 64 + (b - 128) := by
    rw [u8_and63 b (by omega) (by omega), w64 (i := b % 64) (by omega) (by omega), or64 v (b % 64) hv (by omega) (by omega) (by omega), w64 (i := v * 64) (by omega) (by omega), w64 (by omega) (by omega)]
    omega
  simp only [impl_getSign.l0, hw, hw1, hb, hor]
  rw [if_pos hi, if_neg hA, if_pos hB, if_pos hC, if_neg (by omega), if_neg (by omega)]
theorem more_end (s : ByteArray) (at_ : Nat) (more : Nat) (v low high : Int) (hm : more ≤ 3) : ∀ k, impl_getSign.l0 (k + 1) s at_ more v low high ((more + 1 : Nat) : Int) = some (v, ((more + 1 : Nat) : Int)) := by
  intro k
  simp only [impl_getSign.l0]
  rw [if_neg (by omega), w64 (by omega) (by omega)]; rfl
/-- The first byte: how many follow, and what it bears. -/
theorem begin_two (b : Int) (h0 : 194 ≤ b) (h1 : b < 224) : impl_beginning.f 1 b = some (1, b - 192, 128, 191) := by
  unfold impl_beginning.f
  rw [if_neg (by omega), if_neg (by omega), decide_eq_false (by omega)]
  simp only [impl_beginning.j0]
  rw [if_neg (by decide), if_pos h1, u8_and31 b (by omega) (by omega), w64 (by omega) (by omega), show b % 32 = b - 192 by omega]
theorem begin_three (b : Int) (h0 : 224 ≤ b) (h1 : b < 240) : impl_beginning.f 1 b = some (2, b - 224, (if b = 224 then 160 else 128), (if b = 237 then 159 else 191)) := by
  unfold impl_beginning.f
  rw [if_neg (by omega), if_neg (by omega), decide_eq_false (by omega)]
  simp only [impl_beginning.j0]
  rw [if_neg (by decide), if_neg (by omega)]
  by_cases c : b = 224
  · subst c; rfl
  rw [if_neg c, if_neg c]
  by_cases c2 : b = 237
  · subst c2; rfl
  rw [if_neg c2, if_neg c2, if_pos h1, u8_and15 b (by omega) (by omega), w64 (by omega) (by omega), show b % 16 = b - 224 by omega]
theorem begin_four (b : Int) (h0 : 240 ≤ b) (h1 : b ≤ 244) : impl_beginning.f 1 b = some (3, b - 240, (if b = 240 then 144 else 128), (if b = 244 then 143 else 191)) := by
  unfold impl_beginning.f
  rw [if_neg (by omega), if_neg (by omega), decide_eq_false (by omega)]
  simp only [impl_beginning.j0]
  rw [if_neg (by decide), if_neg (by omega), if_neg (by omega), if_neg (by omega), if_neg (by omega)]
  by_cases c : b = 240
  · subst c; rfl
  rw [if_neg c, if_neg c]
  by_cases c2 : b = 244
  · subst c2; rfl
  rw [if_neg c2, if_neg c2, u8_and7 b (by omega) (by omega), w64 (by omega) (by omega), show b % 8 = b - 240 by omega]
theorem get_step (s : ByteArray) (at_ : Nat) (b : Int) (hat : at_ < s.size) (hb : bt s (at_ : Int) = b) : ∀ k, impl_getSign.f (k + 1) s at_ = (impl_beginning.f 1 b).bind fun z => if z.1 < 0 then some (65533, 1) else impl_getSign.l0 (k + 1) s at_ z.1 z.2.1 z.2.2.1 z.2.2.2 1 := by
  intro k
  unfold impl_getSign.f
  rw [if_pos (by omega), if_pos (by omega), hb, beginning_k]
theorem Ev.succ {α : Type} {g f : Nat → Option α} {r : α} (h : ∀ k, g (k + 1) = f (k + 1)) (k : Ev f r) : Ev g r := by
  obtain ⟨K, hK⟩ := k
  refine ⟨K + 1, fun q hq => ?_⟩
  obtain ⟨q, rfl⟩ : ∃ m, q = m + 1 := ⟨q - 1, by omega⟩
  rw [h]; exact hK (q + 1) (by omega)
theorem get_from (s : ByteArray) (at_ : Nat) (b more v low high : Int) (hat : at_ < s.size) (hb : bt s (at_ : Int) = b) (hbg : impl_beginning.f 1 b = some (more, v, low, high)) (hm : ¬ more < 0) (r : Int × Int) (e : Ev (fun k => impl_getSign.l0 k s at_ more v low high 1) r) : Ev (fun k => impl_getSign.f k s at_) r := by
  refine Ev.succ (fun k => ?_) e
  rw [get_step s at_ b hat hb k, hbg]
  exact if_neg hm
/-- A sign's bytes, read back at their place. -/
theorem GetSign_back (s : ByteArray) (at_ : Nat) (n : Int) (hn : okS n) (hs : s.size ≤ 1048576)
    (hb : ∀ (i : Nat) (b : Int), (pb n)[i]? = some b → at_ + i < s.size ∧ bt s ((at_ + i : Nat) : Int) = b) : Ev (fun k => impl_getSign.f k s at_) (n, ((pb n).length : Int)) := by
  obtain ⟨⟨h0, h1⟩, h2⟩ := hn
  unfold pb at hb ⊢
  by_cases c1 : n < 128
  · rw [if_pos c1] at hb ⊢
    obtain ⟨l0, e0⟩ := hb 0 n rfl
    have hbg : impl_beginning.f 1 n = some (0, n, 0, 0) := by
      unfold impl_beginning.f
      rw [if_pos c1, w64 (by omega) (by omega)]
    exact get_from s at_ n 0 n 0 0 l0 e0 hbg (by decide) _ (Ev.here fun k => more_end s at_ 0 n 0 0 (by omega) k)
  rw [if_neg c1] at hb ⊢
  by_cases c2 : n < 2048
  · rw [if_pos c2] at hb ⊢
    obtain ⟨l0, e0⟩ := hb 0 (192 + n / 64) rfl
    obtain ⟨l1, e1⟩ := hb 1 (128 + n % 64) rfl
    refine get_from s at_ (192 + n / 64) _ _ _ _ l0 e0 (begin_two _ (by omega) (by omega)) (by decide) _ (Ev.step (fun k => more_step s at_ hs 1 (192 + n / 64 - 192) 128 191 1 (128 + n % 64) (by omega) (by omega) (by decide) e1 l1 (by omega) (by omega) (by omega) (by omega) k) ?_)
    rw [show (192 + n / 64 - 192) * 64 + (128 + n % 64 - 128) = n by omega]
    exact Ev.here fun k => more_end s at_ 1 n 128 191 (by omega) k
  rw [if_neg c2] at hb ⊢
  by_cases c3 : n < 65536
  · rw [if_pos c3] at hb ⊢
    obtain ⟨l0, e0⟩ := hb 0 (224 + n / 4096) rfl
    obtain ⟨l1, e1⟩ := hb 1 (128 + n / 64 % 64) rfl
    obtain ⟨l2, e2⟩ := hb 2 (128 + n % 64) rfl
    have hlow : (if 224 + n / 4096 = 224 then (160 : Int) else 128) ≤ 128 + n / 64 % 64 := by split <;> omega
    have hhigh : 128 + n / 64 % 64 ≤ (if 224 + n / 4096 = 237 then (159 : Int) else 191) := by split <;> omega
    refine get_from s at_ (224 + n / 4096) _ _ _ _ l0 e0 (begin_three _ (by omega) (by omega)) (by decide) _ (Ev.step (fun k => more_step s at_ hs 2 (224 + n / 4096 - 224) _ _ 1 (128 + n / 64 % 64) (by omega) (by omega) (by decide) e1 l1 (by omega) (by omega) hlow hhigh k) ?_)
    refine Ev.step (more_step s at_ hs 2 ((224 + n / 4096 - 224) * 64 + (128 + n / 64 % 64 - 128)) 128 191 2 (128 + n % 64) (by omega) (by omega) (by decide) e2 l2 (by omega) (by omega) (by omega) (by omega)) ?_
    rw [show ((224 + n / 4096 - 224) * 64 + (128 + n / 64 % 64 - 128)) * 64 + (128 + n % 64 - 128) = n by omega]
    exact Ev.here fun k => more_end s at_ 2 n 128 191 (by omega) k
  · rw [if_neg c3] at hb ⊢
    obtain ⟨l0, e0⟩ := hb 0 (240 + n / 262144) rfl
    obtain ⟨l1, e1⟩ := hb 1 (128 + n / 4096 % 64) rfl
    obtain ⟨l2, e2⟩ := hb 2 (128 + n / 64 % 64) rfl
    obtain ⟨l3, e3⟩ := hb 3 (128 + n % 64) rfl
    have hlow : (if 240 + n / 262144 = 240 then (144 : Int) else 128) ≤ 128 + n / 4096 % 64 := by split <;> omega
    have hhigh : 128 + n / 4096 % 64 ≤ (if 240 + n / 262144 = 244 then (143 : Int) else 191) := by split <;> omega
    refine get_from s at_ (240 + n / 262144) _ _ _ _ l0 e0 (begin_four _ (by omega) (by omega)) (by decide) _ (Ev.step (fun k => more_step s at_ hs 3 (240 + n / 262144 - 240) _ _ 1 (128 + n / 4096 % 64) (by omega) (by omega) (by decide) e1 l1 (by omega) (by omega) hlow hhigh k) ?_)
    refine Ev.step (more_step s at_ hs 3 ((240 + n / 262144 - 240) * 64 + (128 + n / 4096 % 64 - 128)) 128 191 2 (128 + n / 64 % 64) (by omega) (by omega) (by decide) e2 l2 (by omega) (by omega) (by omega) (by omega)) ?_
    refine Ev.step (more_step s at_ hs 3 (((240 + n / 262144 - 240) * 64 + (128 + n / 4096 % 64 - 128)) * 64 + (128 + n / 64 % 64 - 128)) 128 191 3 (128 + n % 64) (by omega) (by omega) (by decide) e3 l3 (by omega) (by omega) (by omega) (by omega)) ?_
    rw [show (((240 + n / 262144 - 240) * 64 + (128 + n / 4096 % 64 - 128)) * 64 + (128 + n / 64 % 64 - 128)) * 64 + (128 + n % 64 - 128) = n by omega]
    exact Ev.here fun k => more_end s at_ 3 n 128 191 (by omega) k
end Go.Proofs.Ytfjheckgigppiaa.Sg
namespace Go.Proofs.Ytfjheckgigppiaa.Sg
open Go Go.RowKit Go.Proofs.Ytfjheckgigppiaa.P Go.Proofs.Ytfjheckgigppiaa.Evs Go.Proofs.YtfjheckgigppiaaW.PrintWords Go.Proofs.YtfjheckgigppiaaW.PrintLast

theorem bt_nums (xs : List Int) (i : Nat) (b : Int) (h : xs[i]? = some b) (h0 : 0 ≤ b) (h1 : b ≤ 255) : bt (strOfNums xs) (i : Int) = b := by
  have hi : i < xs.length := (List.getElem?_eq_some_iff.mp h).1
  have hs : i < (strOfNums xs).size := by rw [strOfNums_size]; exact hi
  have hx : (strOfNums xs).data.toList[i]? = some (UInt8.ofNat b.toNat) := by
    rw [strOfNums_data, List.getElem?_map, h]; rfl
  unfold bt
  rw [Int.toNat_natCast, dif_pos hs]
  have he : (strOfNums xs)[i]'hs = UInt8.ofNat b.toNat := (List.getElem?_eq_some_iff.mp hx).2
  rw [he]
  show ((b.toNat % 256 : Nat) : Int) = b
  omega
theorem pb_byte (n : Int) (hn : okS n) (i : Nat) (b : Int) (h : (pb n)[i]? = some b) : 0 ≤ b ∧ b ≤ 255 := by
  obtain ⟨⟨h0, h1⟩, _⟩ := hn
  have hm : b ∈ pb n := List.mem_of_getElem? h
  unfold pb at hm
  repeat' split at hm
  all_goals simp only [List.mem_cons, or_false, List.not_mem_nil] at hm
  · omega
  · rcases hm with rfl | rfl <;> omega
  · rcases hm with rfl | rfl | rfl <;> omega
  · rcases hm with rfl | rfl | rfl | rfl <;> omega
theorem pb_length (n : Int) : 1 ≤ (pb n).length ∧ (pb n).length ≤ 4 := by
  unfold pb
  repeat' split
  all_goals exact ⟨by simp, by simp⟩
theorem Signs_back_loop (l : List Int) (hl : ∀ n ∈ l, okS n) (hsz : (l.flatMap pb).length ≤ 1048576) : ∀ (r done_ : List Int), l = done_ ++ r →
    Ev (fun k => impl_Signs.l0 k (strOfNums (l.flatMap pb)) done_ ((done_.flatMap pb).length : Int)) l := by
  have hS : (strOfNums (l.flatMap pb)).size = (l.flatMap pb).length := strOfNums_size _
  intro r
  induction r with
  | nil =>
    intro dn hd
    rw [List.append_nil] at hd
    subst hd
    refine Ev.here fun k => ?_
    simp only [impl_Signs.l0]; rw [if_neg (by omega)]
  | cons n r ih =>
    intro dn hd
    have hn : okS n := hl n (by rw [hd]; simp)
    obtain ⟨p1, p4⟩ := pb_length n
    have hlen : (l.flatMap pb).length = (dn.flatMap pb).length + (pb n).length + (r.flatMap pb).length := by
      rw [hd, List.flatMap_append, List.flatMap_cons]; simp; omega
    have hdn : dn.length ≤ (dn.flatMap pb).length := by
      clear hd ih hlen hS hsz
      induction dn with
      | nil => exact Nat.zero_le _
      | cons a t iht => rw [List.flatMap_cons, List.length_append, List.length_cons]; have := (pb_length a).1; omega
    have e := GetSign_back (strOfNums (l.flatMap pb)) (dn.flatMap pb).length n hn (by omega) (fun i b hb => by
      obtain ⟨b0, b1⟩ := pb_byte n hn i b hb
      have hi : i < (pb n).length := (List.getElem?_eq_some_iff.mp hb).1
      refine ⟨by omega, bt_nums _ _ b ?_ b0 b1⟩
      rw [hd, List.flatMap_append, List.flatMap_cons, List.getElem?_append_right (by omega), show (dn.flatMap pb).length + i - (dn.flatMap pb).length = i by omega, List.getElem?_append_left hi]
      exact hb)
    have hw : wrap64 (((dn.flatMap pb).length : Int) + ((pb n).length : Int)) = (((dn ++ [n]).flatMap pb).length : Int) := by
      rw [w64 (by omega) (by omega), List.flatMap_append]; simp
    have hacc : dn.length < 17592186044416 := by omega
    have hA : ((dn.flatMap pb).length : Int) < ((strOfNums (l.flatMap pb)).size : Int) := by omega
    refine Ev.step (fun k => by simp only [impl_Signs.l0]; rw [if_pos hA]) (Ev.bind e (Ev.ite_pos hacc ?_))
    simp only [hw]
    exact ih (dn ++ [n]) (by rw [hd]; simp)
theorem Signs_back (l : List Int) (hl : ∀ n ∈ l, okS n) (hsz : (l.flatMap pb).length ≤ 1048576) : Ev (fun k => impl_Signs.f k (strOfNums (l.flatMap pb))) l := by
  unfold impl_Signs.f
  exact Signs_back_loop l hl hsz l [] rfl
end Go.Proofs.Ytfjheckgigppiaa.Sg
namespace Go.Proofs.Ytfjheckgigppiaa.Sg
open Go Go.RowKit Go.Proofs.Ytfjheckgigppiaa.P Go.Proofs.Ytfjheckgigppiaa.Evs Go.Proofs.YtfjheckgigppiaaW.PrintWords Go.Proofs.YtfjheckgigppiaaW.PrintLast

theorem SignText_back_loop (l : List Int) (hl : ∀ n ∈ l, okS n) (hll : l.length ≤ 1048576) : ∀ (r done_ : List Int), l = done_ ++ r →
    Ev (fun k => impl_SignText.l0 k l (strOfNums (done_.flatMap pb)) (done_.length : Int)) (strOfNums (l.flatMap pb)) := by
  intro r
  induction r with
  | nil =>
    intro dn hd
    rw [List.append_nil] at hd
    subst hd
    refine Ev.here fun k => ?_
    simp only [impl_SignText.l0]; rw [if_neg (by omega)]
  | cons n r ih =>
    intro dn hd
    have hn : okS n := hl n (by rw [hd]; simp)
    have hlen : l.length = dn.length + (r.length + 1) := by rw [hd]; simp
    have hdn4 : (dn.flatMap pb).length ≤ 4 * dn.length := by
      clear hd ih hlen
      induction dn with
      | nil => exact Nat.zero_le _
      | cons a t iht => rw [List.flatMap_cons, List.length_append, List.length_cons]; have := (pb_length a).2; omega
    have hj : dn.length < l.length := by omega
    have hget : l[dn.length] = n := by
      have : l[dn.length]? = some n := by rw [hd, List.getElem?_append_right (Nat.le_refl _), Nat.sub_self]; rfl
      exact (List.getElem?_eq_some_iff.mp this).2
    have hrd : rd l (dn.length : Int) = n := by rw [rdI l dn.length hj, hget]
    have hw : wrap64 ((dn.length : Int) + 1) = (((dn ++ [n]).length : Nat) : Int) := by rw [w64 (by omega) (by omega), List.length_append]; rfl
    have hsz : (strOfNums (dn.flatMap pb)).size + (strOfNums (pb n)).size ≤ 140737488355328 := by
      rw [strOfNums_size, strOfNums_size]; have := (pb_length n).2; omega
    have hap : strOfNums (dn.flatMap pb) ++ strOfNums (pb n) = strOfNums ((dn ++ [n]).flatMap pb) := by
      rw [← nums_append, List.flatMap_append]; simp
    refine Ev.step (fun k => by simp only [impl_SignText.l0]; rw [if_pos (by omega), if_pos (by omega), hrd]) (Ev.bind (PutSign_bytes n hn) (Ev.ite_pos hsz ?_))
    simp only [hw, hap]
    exact ih (dn ++ [n]) (by rw [hd]; simp)
theorem SignText_back (l : List Int) (hl : ∀ n ∈ l, okS n) (hll : l.length ≤ 1048576) : Ev (fun k => impl_SignText.f k l) (strOfNums (l.flatMap pb)) := by
  unfold impl_SignText.f
  exact SignText_back_loop l hl hll l [] rfl
theorem flat_le (l : List Int) : l.length ≤ (l.flatMap pb).length := by
  induction l with
  | nil => exact Nat.zero_le _
  | cons a t iht => rw [List.flatMap_cons, List.length_append, List.length_cons]; have := (pb_length a).1; omega
theorem CleanOk_back (l : List Int) (hl : ∀ n ∈ l, okS n) (hsz : (l.flatMap pb).length ≤ 1048576) : Ev (fun k => impl_CleanOk.f k (strOfNums (l.flatMap pb))) true := by
  have h1 := Signs_back l hl hsz
  have h2 := SignText_back l hl (Nat.le_trans (flat_le l) hsz)
  have h3 : Ev (fun k => impl_Clean.f k (strOfNums (l.flatMap pb))) (strOfNums (l.flatMap pb)) := by
    unfold impl_Clean.f
    exact Ev.bind h1 (Ev.bind h2 (Ev.now _))
  unfold impl_CleanOk.f
  refine Ev.bind h3 ?_
  have e : ((strOfNums (l.flatMap pb)).toList == (strOfNums (l.flatMap pb)).toList) = true := by simp
  simp only [e]
  exact Ev.now _
end Go.Proofs.Ytfjheckgigppiaa.Sg
namespace Go.Proofs.Ytfjheckgigppiaa.Sg
open Go Go.RowKit Go.Proofs.Ytfjheckgigppiaa.P Go.Proofs.Ytfjheckgigppiaa.Evs Go.Proofs.YtfjheckgigppiaaW.PrintWords Go.Proofs.YtfjheckgigppiaaW.PrintLast

theorem Letter_tells (n : Int) : impl_IsLetter.f n = some (decide ((97 ≤ n ∧ n ≤ 122) ∨ (65 ≤ n ∧ n ≤ 90))) := by
  unfold impl_IsLetter.f
  rw [inRange_eq, inRange_eq]
  simp only [Option.bind_some]
  by_cases c : 97 ≤ n ∧ n ≤ 122
  · rw [if_pos (decide_eq_true c), decide_eq_true (Or.inl c)]
  · rw [if_neg (by rw [decide_eq_true_iff]; exact c)]
    by_cases d : 65 ≤ n ∧ n ≤ 90
    · rw [decide_eq_true d, decide_eq_true (Or.inr d)]
    · rw [decide_eq_false d, decide_eq_false (fun h => h.elim c d)]
theorem inSp_mem (a : Int) : ∀ sp : List (Int × Int), inSp a sp = true → ∃ p ∈ sp, p.1 ≤ a ∧ a ≤ p.2
  | [], h => by simp [inSp] at h
  | p :: ps, h => by
    unfold inSp at h
    by_cases c : p.1 ≤ a ∧ a ≤ p.2
    · exact ⟨p, List.mem_cons_self, c⟩
    · rw [if_neg c] at h
      obtain ⟨q, hq, hr⟩ := inSp_mem a ps h
      exact ⟨q, List.mem_cons_of_mem _ hq, hr⟩
theorem spans_ok (sp : List (Int × Int)) (h : ∀ p ∈ sp, 0 ≤ p.1 ∧ p.2 ≤ 1114111 ∧ (p.2 < 55296 ∨ 57343 < p.1)) (a : Int) (hi : inSp a sp = true) : okS a := by
  obtain ⟨p, hp, h1, h2⟩ := inSp_mem a sp hi
  obtain ⟨q0, q1, q2⟩ := h p hp
  exact ⟨⟨by omega, by omega⟩, by omega⟩
theorem First_ok (n : Int) (h : impl_IsFirst.f n = some true) : okS n := by
  unfold impl_IsFirst.f at h
  rw [Letter_tells] at h
  simp only [Option.bind_some] at h
  by_cases c : (97 ≤ n ∧ n ≤ 122) ∨ (65 ≤ n ∧ n ≤ 90)
  · exact ⟨⟨by omega, by omega⟩, by omega⟩
  rw [if_neg (by rw [decide_eq_true_iff]; exact c)] at h
  by_cases d : n = 95
  · exact ⟨⟨by omega, by omega⟩, by omega⟩
  rw [if_neg d] at h
  exact spans_ok spansFirst (by decide) n (Option.some.inj h)
theorem Next_ok (n : Int) (h : impl_IsNext.f n = some true) : okS n := by
  unfold impl_IsNext.f at h
  obtain ⟨t, ht, h⟩ := Option.bind_eq_some_iff.mp h
  cases t with
  | true => exact First_ok n ht
  | false =>
    rw [if_neg (by decide)] at h
    exact spans_ok spansNext (by decide) n (Option.some.inj h)
theorem First_next (n : Int) (h : impl_IsFirst.f n = some true) : impl_IsNext.f n = some true := by
  unfold impl_IsNext.f
  rw [h]; rfl
theorem U_first : impl_IsFirst.f 85 = some true := by decide
theorem digit_next (d : Int) (h : (48 ≤ d ∧ d ≤ 57) ∨ (65 ≤ d ∧ d ≤ 70)) : impl_IsNext.f d = some true := by
  unfold impl_IsNext.f impl_IsFirst.f
  rw [Letter_tells]
  simp only [Option.bind_some]
  rcases h with h | h
  · rw [if_neg (by rw [decide_eq_true_iff]; omega), if_neg (by omega)]
    simp only [Option.bind_some]
    split
    · rfl
    · congr 1
      simp only [spansNext, inSp]
      rw [if_neg (by omega), if_pos (by omega)]
  · rw [if_pos (decide_eq_true (by omega))]; rfl
end Go.Proofs.Ytfjheckgigppiaa.Sg
namespace Go.Proofs.Ytfjheckgigppiaa.Sg
open Go Go.RowKit Go.Proofs.Ytfjheckgigppiaa.P Go.Proofs.Ytfjheckgigppiaa.Evs Go.Proofs.YtfjheckgigppiaaW.PrintWords Go.Proofs.YtfjheckgigppiaaW.PrintLast

def isD (d : Int) : Prop := (48 ≤ d ∧ d ≤ 57) ∨ (65 ≤ d ∧ d ≤ 70)
instance (d : Int) : Decidable (isD d) := by unfold isD; infer_instance
theorem dig_D : ∀ d : Nat, d < 16 → isD (bt digs (d : Int)) := by decide +kernel
theorem Spelt_loop (n : Int) : ∀ (j : Nat) (x : List Int), j ≤ 6 → x.length + j ≤ 100 →
    ∃ ds : List Int, Ev (fun k => impl_spelt.l0 k n x (4 * (j : Int) - 4)) (strOfNums (x ++ ds)) ∧ ds.length = j ∧ ∀ d ∈ ds, isD d := by
  intro j
  induction j with
  | zero =>
    intro x _ _
    refine ⟨[], Ev.here fun k => ?_, rfl, by simp⟩
    simp only [impl_spelt.l0]; rw [if_neg (by omega), List.append_nil]
  | succ j ih =>
    intro x hj hx
    obtain ⟨d0, d1⟩ := and15_le (shr .i64 n (4 * (j : Int)))
    generalize hD : bits .and .i64 (shr .i64 n (4 * (j : Int))) 15 = D at d0 d1
    obtain ⟨d, rfl⟩ := Int.eq_ofNat_of_zero_le d0
    obtain ⟨ds, e, h1, h2⟩ := ih (x ++ [bt digs (d : Int)]) (by omega) (by rw [List.length_append, List.length_singleton]; omega)
    have hw4 : IntKind.u64.wrap (4 * ((j + 1 : Nat) : Int) - 4) = 4 * (j : Int) := by rw [u64_small _ (by omega) (by omega)]; omega
    have hw5 : wrap64 (4 * ((j + 1 : Nat) : Int) - 4 - 4) = 4 * (j : Int) - 4 := by rw [w64 (by omega) (by omega)]; omega
    refine ⟨bt digs (d : Int) :: ds, Ev.step (fun k => ?_) (by rw [List.append_assoc] at e; exact e), by rw [List.length_cons, h1], fun y hy => ?_⟩
    · simp only [impl_spelt.l0, hw4, hD, hw5]
      rw [if_pos (by omega), if_pos (by omega), if_pos (by omega), if_pos (by omega), if_pos (by omega)]
      rfl
    · rcases List.mem_cons.mp hy with rfl | hy
      · exact dig_D d (by omega)
      · exact h2 y hy
theorem Spelt_tells (n : Int) : ∃ ds : List Int, Ev (fun k => impl_spelt.f k n) (strOfNums (85 :: ds)) ∧ ds.length = 6 ∧ ∀ d ∈ ds, isD d := Spelt_loop n 6 [85] (by omega) (by decide)
theorem pb_small (d : Int) (h : d < 128) : pb d = [d] := by unfold pb; rw [if_pos h]
theorem flat_small : ∀ ds : List Int, (∀ d ∈ ds, d < 128) → ds.flatMap pb = ds
  | [], _ => rfl
  | d :: ds, h => by
    rw [List.flatMap_cons, pb_small d (h d List.mem_cons_self), flat_small ds (fun y hy => h y (List.mem_cons_of_mem _ hy))]; rfl
/-- One sign's part of the name: signs that may go on in a name; at the beginning the first may begin one. -/
theorem pick_list (i n : Int) (_hi : 0 ≤ i) : ∃ L : List Int, Ev (fun k => impl_NameOf.pick k i n) (strOfNums (L.flatMap pb)) ∧ (∀ y ∈ L, impl_IsNext.f y = some true) ∧ (∃ y t, L = y :: t ∧ (i = 0 → impl_IsFirst.f y = some true)) ∧ (L.flatMap pb).length ≤ 7 := by
  obtain ⟨ds, e, h1, h2⟩ := Spelt_tells n
  have hsp : ∀ P : Prop, ∃ L : List Int, Ev (fun k => impl_spelt.f k n) (strOfNums (L.flatMap pb)) ∧ (∀ y ∈ L, impl_IsNext.f y = some true) ∧ (∃ y t, L = y :: t ∧ (P → impl_IsFirst.f y = some true)) ∧ (L.flatMap pb).length ≤ 7 := fun P => by
    have hf : (85 :: ds).flatMap pb = 85 :: ds := flat_small _ (fun d hd => by
      rcases List.mem_cons.mp hd with rfl | hd
      · decide
      · have := h2 d hd; unfold isD at this; omega)
    refine ⟨85 :: ds, by rw [hf]; exact e, fun y hy => ?_, ⟨85, ds, rfl, fun _ => U_first⟩, by rw [hf, List.length_cons, h1]; omega⟩
    rcases List.mem_cons.mp hy with rfl | hy
    · exact First_next 85 U_first
    · exact digit_next y (h2 y hy)
  obtain ⟨b1, _, f2⟩ := IsFirst_same n
  obtain ⟨b2, _, g2⟩ := IsNext_same n
  unfold impl_NameOf.pick
  by_cases c : i = 0
  · cases b1 with
    | true => exact ⟨[n], Ev.opt (by rw [if_pos c]; exact f2) (Ev.ite_pos rfl (by rw [show [n].flatMap pb = pb n by simp]; exact PutSign_bytes n (First_ok n f2))), fun y hy => by rw [List.mem_singleton.mp hy]; exact First_next n f2, ⟨n, [], rfl, fun _ => f2⟩, by rw [show [n].flatMap pb = pb n by simp]; have := (pb_length n).2; omega⟩
    | false =>
      obtain ⟨L, q1, q2, q3, q4⟩ := hsp (i = 0)
      exact ⟨L, Ev.opt (by rw [if_pos c]; exact f2) (Ev.ite_neg (by decide) q1), q2, q3, q4⟩
  · cases b2 with
    | true => exact ⟨[n], Ev.opt (by rw [if_neg c]; exact g2) (Ev.ite_pos rfl (by rw [show [n].flatMap pb = pb n by simp]; exact PutSign_bytes n (Next_ok n g2))), fun y hy => by rw [List.mem_singleton.mp hy]; exact g2, ⟨n, [], rfl, fun h => absurd h c⟩, by rw [show [n].flatMap pb = pb n by simp]; have := (pb_length n).2; omega⟩
    | false =>
      obtain ⟨L, q1, q2, q3, q4⟩ := hsp (i = 0)
      exact ⟨L, Ev.opt (by rw [if_neg c]; exact g2) (Ev.ite_neg (by decide) q1), q2, q3, q4⟩
theorem NameOf_list_loop (l : List Int) (hl : l.length ≤ 1048576) : ∀ (d j : Nat) (D : List Int), l.length - j = d → j ≤ l.length → (D.flatMap pb).length ≤ 7 * j → (∀ y ∈ D, impl_IsNext.f y = some true) → (0 < j → ∃ y t, D = y :: t ∧ impl_IsFirst.f y = some true) → (j = 0 → D = []) →
    ∃ L : List Int, Ev (fun k => impl_NameOf.l0 k l (strOfNums (D.flatMap pb)) j) (strOfNums (L.flatMap pb)) ∧ (∀ y ∈ L, impl_IsNext.f y = some true) ∧ (0 < l.length → ∃ y t, L = y :: t ∧ impl_IsFirst.f y = some true) ∧ (L.flatMap pb).length ≤ 7 * l.length := by
  intro d
  induction d with
  | zero =>
    intro j D hd hj hD hn hf _
    obtain rfl : j = l.length := by omega
    refine ⟨D, Ev.here fun k => ?_, hn, hf, hD⟩
    simp only [impl_NameOf.l0]; rw [if_neg (by omega)]
  | succ d ih =>
    intro j D hd hj hD hn hf h0
    have hjl : j < l.length := by omega
    obtain ⟨L, e, q2, ⟨y, t, hL, q3⟩, q4⟩ := pick_list (j : Int) l[j] (Int.natCast_nonneg j)
    have hw : wrap64 ((j : Int) + 1) = ((j + 1 : Nat) : Int) := by rw [w64 (by omega) (by omega)]; rfl
    have hlen : ((D ++ L).flatMap pb).length = (D.flatMap pb).length + (L.flatMap pb).length := by rw [List.flatMap_append, List.length_append]
    have hap : strOfNums (D.flatMap pb) ++ strOfNums (L.flatMap pb) = strOfNums ((D ++ L).flatMap pb) := by rw [← nums_append, List.flatMap_append]
    have hsz : (strOfNums (D.flatMap pb)).size + (strOfNums (L.flatMap pb)).size ≤ 140737488355328 := by rw [strOfNums_size, strOfNums_size]; omega
    obtain ⟨L', e', r2, r3, r4⟩ := ih (j + 1) (D ++ L) (by omega) (by omega) (by omega) (fun z hz => (List.mem_append.mp hz).elim (hn z) (q2 z)) (fun _ => by
      rcases Nat.eq_zero_or_pos j with hz | hp
      · rw [h0 hz, hL]; exact ⟨y, t, rfl, q3 (by omega)⟩
      · obtain ⟨y', t', hD', hy'⟩ := hf hp
        exact ⟨y', t' ++ L, by rw [hD']; rfl, hy'⟩) (fun h => by omega)
    refine ⟨L', ?_, r2, r3, r4⟩
    refine Ev.step (fun k => by simp only [impl_NameOf.l0]; rw [if_pos (by omega), if_pos (by omega), rdI l j hjl]) (Ev.bind e (Ev.ite_pos hsz ?_))
    simp only [hw, hap]
    exact e'
/-- What NameOf makes. -/
theorem NameOf_list (s : ByteArray) (hs : s.size ≤ 1048576) : ∃ L : List Int, Ev (fun k => impl_NameOf.f k s) (strOfNums (L.flatMap pb)) ∧ (∀ y ∈ L, impl_IsNext.f y = some true) ∧ (∃ y t, L = y :: t ∧ impl_IsFirst.f y = some true) ∧ (L.flatMap pb).length ≤ 7 * s.size + 1 := by
  unfold impl_NameOf.f
  by_cases c : s.size = 0
  · refine ⟨[85], Ev.ite_pos ((size_nil s).mpr c) ?_, fun y hy => by rw [List.mem_singleton.mp hy]; exact First_next 85 U_first, ⟨85, [], rfl, U_first⟩, by rw [show [85].flatMap pb = pb 85 by simp, pb_small 85 (by decide)]; simp⟩
    exact Ev.const fun _ => rfl
  · obtain ⟨l, _, e2, hl, hl0⟩ := Signs_some s hs (by omega)
    obtain ⟨L, e, r2, r3, r4⟩ := NameOf_list_loop l (by omega) l.length 0 [] (by omega) (by omega) (by simp) (by simp) (by omega) (fun _ => rfl)
    exact ⟨L, Ev.ite_neg (by rw [size_nil]; exact c) (Ev.bind e2 e), r2, r3 hl0, by omega⟩
/-- A text of signs of names is a strict name. -/
theorem NameOk_list_loop (s : ByteArray) (L : List Int) (hL : L.length ≤ 1048576) (hn : ∀ y ∈ L, impl_IsNext.f y = some true) (hf : ∃ y t, L = y :: t ∧ impl_IsFirst.f y = some true) (h0 : ¬ s.toList = []) (hc : Ev (fun k => impl_CleanOk.f k s) true) :
    ∀ (d j : Nat), L.length - j = d → j ≤ L.length → Ev (fun k => impl_NameOk.l0 k s L L.length j) true := by
  intro d
  induction d with
  | zero =>
    intro j hd hj
    exact Ev.step (fun k => by simp only [impl_NameOk.l0]; rw [if_neg (by omega), if_neg h0]) (Ev.bind hc (Ev.now _))
  | succ d ih =>
    intro j hd hj
    have hjl : j < L.length := by omega
    have hw : wrap64 ((j : Int) + 1) = ((j + 1 : Nat) : Int) := by rw [w64 (by omega) (by omega)]; rfl
    have hy := hn L[j] (List.getElem_mem hjl)
    have next := ih (j + 1) (by omega) (by omega)
    by_cases c : (j : Int) = 0
    · have hfj : impl_IsFirst.f L[j] = some true := by
        obtain ⟨y, t, rfl, h⟩ := hf
        obtain rfl : j = 0 := by omega
        exact h
      refine Ev.step (fun k => by simp only [impl_NameOk.l0, hw]; rw [if_pos (by omega), if_pos (by omega), if_pos (by omega), if_pos c, rdI L j hjl]) (Ev.opt hfj (Ev.ite_pos rfl (Ev.opt hy (Ev.ite_pos rfl next))))
    · refine Ev.step (fun k => by simp only [impl_NameOk.l0, hw]; rw [if_pos (by omega), if_pos (by omega), if_pos (by omega), if_neg c, rdI L j hjl]) (Ev.opt hy (Ev.ite_pos rfl next))
theorem NameOk_list (L : List Int) (hsz : (L.flatMap pb).length ≤ 1048576) (hn : ∀ y ∈ L, impl_IsNext.f y = some true) (hf : ∃ y t, L = y :: t ∧ impl_IsFirst.f y = some true) : Ev (fun k => impl_NameOk.f k (strOfNums (L.flatMap pb))) true := by
  have hok : ∀ n ∈ L, okS n := fun n h => Next_ok n (hn n h)
  have hlen := flat_le L
  have h0 : ¬ (strOfNums (L.flatMap pb)).toList = [] := by
    rw [size_nil, strOfNums_size]
    obtain ⟨y, t, rfl, _⟩ := hf
    rw [List.length_cons] at hlen
    omega
  unfold impl_NameOk.f
  exact Ev.bind (Signs_back L hok hsz) (NameOk_list_loop _ L (by omega) hn hf h0 (CleanOk_back L hok hsz) L.length 0 (by omega) (by omega))
/-- WHAT NameOf MAKES IS STRICT. -/
theorem NameOf_strict (s : ByteArray) (hs : s.size ≤ 100000) : ∃ t : ByteArray, Ev (fun k => impl_NameOf.f k s) t ∧ Ev (fun k => impl_NameOk.f k t) true := by
  obtain ⟨L, e, h1, h2, h3⟩ := NameOf_list s (by omega)
  exact ⟨_, e, NameOk_list L (by omega) h1 h2⟩
end Go.Proofs.Ytfjheckgigppiaa.Sg
namespace Go.Proofs.Ytfjheckgigppiaa.Sg
open Go Go.RowKit Go.Proofs.Ytfjheckgigppiaa.P Go.Proofs.Ytfjheckgigppiaa.Evs Go.Proofs.YtfjheckgigppiaaW.PrintWords Go.Proofs.YtfjheckgigppiaaW.PrintLast

theorem Ev.uniq {α : Type} {g : Nat → Option α} {a b : α} (h1 : Ev g a) (h2 : Ev g b) : a = b := by
  obtain ⟨K1, k1⟩ := h1
  obtain ⟨K2, k2⟩ := h2
  exact Option.some.inj ((k1 (K1 + K2) (by omega)).symm.trans (k2 (K1 + K2) (by omega)))
theorem Ok_loop (s : ByteArray) (L : List Int) (hs : s.size ≤ 1048576) (hL : L.length ≤ 1048576) : ∀ (d j : Nat), L.length - j = d → j ≤ L.length → Ev (fun k => impl_NameOk.l0 k s L L.length j) true →
    (∀ i, j ≤ i → ∀ h : i < L.length, impl_IsNext.f L[i] = some true ∧ (i = 0 → impl_IsFirst.f L[i] = some true)) ∧ ¬ s.toList = [] ∧ Ev (fun k => impl_CleanOk.f k s) true := by
  intro d
  induction d with
  | zero =>
    intro j hd hj he
    refine ⟨fun i h1 h2 => by omega, ?_⟩
    obtain ⟨b, _, hb⟩ := CleanOk_same s hs
    by_cases c : s.toList = []
    · have : Ev (fun k => impl_NameOk.l0 k s L L.length j) false := Ev.here fun k => by simp only [impl_NameOk.l0]; rw [if_neg (by omega), if_pos c]
      exact absurd (Ev.uniq he this) (by decide)
    · have : Ev (fun k => impl_NameOk.l0 k s L L.length j) b := Ev.step (fun k => by simp only [impl_NameOk.l0]; rw [if_neg (by omega), if_neg c]) (Ev.bind hb (Ev.now _))
      have hbt := Ev.uniq he this
      subst hbt
      exact ⟨c, hb⟩
  | succ d ih =>
    intro j hd hj he
    have hjl : j < L.length := by omega
    have hw : wrap64 ((j : Int) + 1) = ((j + 1 : Nat) : Int) := by rw [w64 (by omega) (by omega)]; rfl
    obtain ⟨b1, _, f2⟩ := IsFirst_same L[j]
    obtain ⟨b2, _, g2⟩ := IsNext_same L[j]
    have nx : ∀ r, Ev (fun k => if b2 = true then impl_NameOk.l0 k s L L.length ((j + 1 : Nat) : Int) else some false) r → Ev (fun k => (impl_IsNext.f L[j]).bind fun t => if t = true then impl_NameOk.l0 k s L L.length ((j + 1 : Nat) : Int) else some false) r := fun r h => Ev.opt g2 h
    have step : (j = 0 → impl_IsFirst.f L[j] = some true) ∧ impl_IsNext.f L[j] = some true ∧ Ev (fun k => impl_NameOk.l0 k s L L.length ((j + 1 : Nat) : Int)) true := by
      have h1 : ∀ k, impl_NameOk.l0 (k + 1) s L L.length j = if (j : Int) = 0 then ((impl_IsFirst.f L[j]).bind fun u => if u = true then ((impl_IsNext.f L[j]).bind fun t => if t = true then impl_NameOk.l0 k s L L.length ((j + 1 : Nat) : Int) else some false) else some false) else ((impl_IsNext.f L[j]).bind fun t => if t = true then impl_NameOk.l0 k s L L.length ((j + 1 : Nat) : Int) else some false) := fun k => by
        simp only [impl_NameOk.l0, hw]; rw [if_pos (by omega), if_pos (by omega), if_pos (by omega), rdI L j hjl]
      have back : ∀ {g : Nat → Option Bool}, (∀ k, impl_NameOk.l0 (k + 1) s L L.length j = g k) → Ev g true := fun {g} hg => by
        obtain ⟨K, hK⟩ := he
        exact ⟨K, fun k hk => by rw [← hg]; exact hK (k + 1) (by omega)⟩
      by_cases c : (j : Int) = 0
      · cases b1 with
        | false => exact absurd (Ev.uniq he (Ev.step h1 (Ev.ite_pos c (Ev.opt f2 (Ev.ite_neg (by decide) (Ev.now _)))))) (by decide)
        | true => cases b2 with
          | false => exact absurd (Ev.uniq he (Ev.step h1 (Ev.ite_pos c (Ev.opt f2 (Ev.ite_pos rfl (Ev.opt g2 (Ev.ite_neg (by decide) (Ev.now _)))))))) (by decide)
          | true => exact ⟨fun _ => f2, g2, back (fun k => by rw [h1, if_pos c, f2, g2]; rfl)⟩
      · cases b2 with
        | false => exact absurd (Ev.uniq he (Ev.step h1 (Ev.ite_neg c (Ev.opt g2 (Ev.ite_neg (by decide) (Ev.now _)))))) (by decide)
        | true => exact ⟨fun h => absurd (by omega) c, g2, back (fun k => by rw [h1, if_neg c, g2]; rfl)⟩
    obtain ⟨s1, s2, s3⟩ := step
    obtain ⟨r1, r2⟩ := ih (j + 1) (by omega) (by omega) s3
    refine ⟨fun i h1 h2 => ?_, r2⟩
    rcases Nat.lt_or_ge j i with h | h
    · exact r1 i h h2
    · obtain rfl : i = j := by omega
      exact ⟨s2, s1⟩
theorem Stay_loop (l : List Int) (hll : l.length ≤ 1048576) (hn : ∀ i, ∀ h : i < l.length, impl_IsNext.f l[i] = some true ∧ (i = 0 → impl_IsFirst.f l[i] = some true)) : ∀ (r done_ : List Int), l = done_ ++ r →
    Ev (fun k => impl_NameOf.l0 k l (strOfNums (done_.flatMap pb)) (done_.length : Int)) (strOfNums (l.flatMap pb)) := by
  intro r
  induction r with
  | nil =>
    intro dn hd
    rw [List.append_nil] at hd
    subst hd
    refine Ev.here fun k => ?_
    simp only [impl_NameOf.l0]; rw [if_neg (by omega)]
  | cons n r ih =>
    intro dn hd
    have hlen : l.length = dn.length + (r.length + 1) := by rw [hd]; simp
    have hdn4 : (dn.flatMap pb).length ≤ 4 * dn.length := by
      clear hd ih hlen
      induction dn with
      | nil => exact Nat.zero_le _
      | cons a t iht => rw [List.flatMap_cons, List.length_append, List.length_cons]; have := (pb_length a).2; omega
    have hj : dn.length < l.length := by omega
    have hget : l[dn.length] = n := by
      have : l[dn.length]? = some n := by rw [hd, List.getElem?_append_right (Nat.le_refl _), Nat.sub_self]; rfl
      exact (List.getElem?_eq_some_iff.mp this).2
    obtain ⟨hx, hf⟩ := hn dn.length hj
    rw [hget] at hx hf
    have hok := Next_ok n hx
    have hrd : rd l (dn.length : Int) = n := by rw [rdI l dn.length hj, hget]
    have hw : wrap64 ((dn.length : Int) + 1) = (((dn ++ [n]).length : Nat) : Int) := by rw [w64 (by omega) (by omega), List.length_append]; rfl
    have hsz : (strOfNums (dn.flatMap pb)).size + (strOfNums (pb n)).size ≤ 140737488355328 := by
      rw [strOfNums_size, strOfNums_size]; have := (pb_length n).2; omega
    have hap : strOfNums (dn.flatMap pb) ++ strOfNums (pb n) = strOfNums ((dn ++ [n]).flatMap pb) := by
      rw [← nums_append, List.flatMap_append]; simp
    have hp : Ev (fun k => impl_NameOf.pick k (dn.length : Int) n) (strOfNums (pb n)) := by
      unfold impl_NameOf.pick
      by_cases c : (dn.length : Int) = 0
      · exact Ev.opt (by rw [if_pos c]; exact hf (by omega)) (Ev.ite_pos rfl (PutSign_bytes n hok))
      · exact Ev.opt (by rw [if_neg c]; exact hx) (Ev.ite_pos rfl (PutSign_bytes n hok))
    refine Ev.step (fun k => by simp only [impl_NameOf.l0]; rw [if_pos (by omega), if_pos (by omega), hrd]) (Ev.bind hp (Ev.ite_pos hsz ?_))
    simp only [hw, hap]
    exact ih (dn ++ [n]) (by rw [hd]; simp)
/-- A STRICT NAME STAYS. -/
theorem NameOf_stays (s : ByteArray) (hs : s.size ≤ 1048576) (h : Ev (fun k => impl_NameOk.f k s) true) : Ev (fun k => impl_NameOf.f k s) s := by
  obtain ⟨l, _, e2, hl⟩ := Signs_same s hs
  have he : Ev (fun k => impl_NameOk.l0 k s l l.length ((0 : Nat) : Int)) true := by
    obtain ⟨K1, k1⟩ := h
    obtain ⟨K2, k2⟩ := e2
    refine ⟨K1 + K2, fun k hk => ?_⟩
    have a := k1 k (by omega)
    have b := k2 k (by omega)
    simp only [impl_NameOk.f] at a
    rw [show impl_Signs.f k s = some l from b] at a
    exact a
  obtain ⟨r1, hne, hc⟩ := Ok_loop s l hs (by omega) l.length 0 (by omega) (by omega) he
  have hn : ∀ i, ∀ h : i < l.length, impl_IsNext.f l[i] = some true ∧ (i = 0 → impl_IsFirst.f l[i] = some true) := fun i h => r1 i (Nat.zero_le _) h
  have hok : ∀ n ∈ l, okS n := fun n hm => by
    obtain ⟨i, hi, rfl⟩ := List.getElem_of_mem hm
    exact Next_ok _ (hn i hi).1
  have hst := SignText_back l hok (by omega)
  have hcl : Ev (fun k => impl_Clean.f k s) (strOfNums (l.flatMap pb)) := by
    unfold impl_Clean.f
    exact Ev.bind e2 (Ev.bind hst (Ev.now _))
  have hc2 : Ev (fun k => impl_CleanOk.f k s) ((strOfNums (l.flatMap pb)).toList == s.toList) := by
    unfold impl_CleanOk.f
    exact Ev.bind hcl (Ev.now _)
  have heq : (strOfNums (l.flatMap pb)).toList = s.toList := by simpa using (Ev.uniq hc hc2).symm
  have hs2 : strOfNums (l.flatMap pb) = s := by
    rw [ByteArray.toList_eq, ByteArray.toList_eq] at heq
    exact ByteArray.ext (Array.toList_inj.mp heq)
  unfold impl_NameOf.f
  refine Ev.ite_neg hne (Ev.bind e2 ?_)
  have h3 := Stay_loop l (by omega) hn l [] rfl
  rw [hs2] at h3
  exact h3
end Go.Proofs.Ytfjheckgigppiaa.Sg
namespace Go.Proofs.Ytfjheckgigppiaa.Sg
open Go.RowKit Go.Proofs.Ytfjheckgigppiaa Go.Proofs.Ytfjheckgigppiaa.P Go.Proofs.Ytfjheckgigppiaa.Evs Go.Proofs.YtfjheckgigppiaaW.PrintWords Go.Proofs.YtfjheckgigppiaaW.PrintLast

theorem NameOk_loop (s : ByteArray) (l : List Int) (hs : s.size ≤ 1048576) (hl : l.length ≤ 1048576) : ∀ (d j : Nat), l.length - j = d → j ≤ l.length →
    ∃ b, Ev (fun k => spec_NameOk.l0 k s l j) b ∧ Ev (fun k => impl_NameOk.l0 k s l l.length j) b := by
  intro d
  induction d with
  | zero =>
    intro j hd hj
    obtain ⟨b, e1, e2⟩ := CleanOk_same s hs
    by_cases c : s.toList = []
    · refine ⟨false, Ev.here fun k => ?_, Ev.here fun k => ?_⟩
      · simp only [spec_NameOk.l0]; rw [if_neg (by omega), if_pos c]
      · simp only [impl_NameOk.l0]; rw [if_neg (by omega), if_pos c]
    · refine ⟨b, ?_, ?_⟩
      · exact Ev.step (fun k => by simp only [spec_NameOk.l0]; rw [if_neg (by omega), if_neg c]) (Ev.bind e1 (Ev.now _))
      · exact Ev.step (fun k => by simp only [impl_NameOk.l0]; rw [if_neg (by omega), if_neg c]) (Ev.bind e2 (Ev.now _))
  | succ d ih =>
    intro j hd hj
    have hjl : j < l.length := by omega
    obtain ⟨t, ht1, ht2⟩ := IsFirst_same l[j]
    obtain ⟨u, hu1, hu2⟩ := IsNext_same l[j]
    obtain ⟨b, e1, e2⟩ := ih (j + 1) (by omega) (by omega)
    have hw : wrap64 ((j : Int) + 1) = ((j + 1 : Nat) : Int) := by rw [w64 (by omega) (by omega)]; rfl
    have next : ∃ b, Ev (fun k => (spec_IsNext.f k l[j]).bind fun t => if t = true then spec_NameOk.l0 k s l ((j + 1 : Nat) : Int) else some false) b ∧ Ev (fun k => (impl_IsNext.f l[j]).bind fun t => if t = true then impl_NameOk.l0 k s l l.length ((j + 1 : Nat) : Int) else some false) b := by
      by_cases c : u = true
      · exact ⟨b, Ev.bind hu1 (Ev.ite_pos c e1), Ev.opt hu2 (Ev.ite_pos c e2)⟩
      · exact ⟨false, Ev.bind hu1 (Ev.ite_neg c (Ev.now _)), Ev.opt hu2 (Ev.ite_neg c (Ev.now _))⟩
    obtain ⟨b', n1, n2⟩ := next
    by_cases c0 : (j : Int) = 0
    · by_cases c : t = true
      · refine ⟨b', ?_, ?_⟩
        · refine Ev.step (fun k => by simp only [spec_NameOk.l0, hw]; rw [if_pos (by omega), if_pos c0, if_pos (by omega), rdI l j hjl]) (Ev.bind ht1 (Ev.ite_pos c n1))
        · refine Ev.step (fun k => by simp only [impl_NameOk.l0, hw]; rw [if_pos (by omega), if_pos (by omega), if_pos (by omega), if_pos c0, rdI l j hjl]) (Ev.opt ht2 (Ev.ite_pos c n2))
      · refine ⟨false, ?_, ?_⟩
        · refine Ev.step (fun k => by simp only [spec_NameOk.l0, hw]; rw [if_pos (by omega), if_pos c0, if_pos (by omega), rdI l j hjl]) (Ev.bind ht1 (Ev.ite_neg c (Ev.now _)))
        · refine Ev.step (fun k => by simp only [impl_NameOk.l0, hw]; rw [if_pos (by omega), if_pos (by omega), if_pos (by omega), if_pos c0, rdI l j hjl]) (Ev.opt ht2 (Ev.ite_neg c (Ev.now _)))
    · refine ⟨b', ?_, ?_⟩
      · refine Ev.step (fun k => by simp only [spec_NameOk.l0, hw]; rw [if_pos (by omega), if_neg c0, if_pos (by omega), rdI l j hjl]) n1
      · refine Ev.step (fun k => by simp only [impl_NameOk.l0, hw]; rw [if_pos (by omega), if_pos (by omega), if_pos (by omega), if_neg c0, rdI l j hjl]) n2
theorem NameOk_same (s : ByteArray) (hs : s.size ≤ 1048576) : ∃ b, Ev (fun k => spec_NameOk.f k s) b ∧ Ev (fun k => impl_NameOk.f k s) b := by
  obtain ⟨l, e1, e2, hl⟩ := Signs_same s hs
  obtain ⟨b, h1, h2⟩ := NameOk_loop s l hs (by omega) l.length 0 (by omega) (by omega)
  exact ⟨b, Ev.bind e1 h1, Ev.bind e2 h2⟩
end Go.Proofs.Ytfjheckgigppiaa.Sg
