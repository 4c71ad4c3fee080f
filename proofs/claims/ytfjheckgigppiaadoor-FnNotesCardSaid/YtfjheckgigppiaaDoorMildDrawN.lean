/- The draw of the law on notes: each ends, and a text is small. No conditions but the size. -/
import Derived.Test.YtfjheckgigppiaaDoorEvBase
import Derived.Laws.BitsLemmas
import Derived.Test.YtfjheckgigppiaaDoorPn16
set_option linter.unusedVariables false
set_option linter.unusedSimpArgs false
namespace Go.Proofs.YtfjheckgigppiaaDoor.Dr
open Go Go.RowKit Go.Proofs.YtfjheckgigppiaaDoor.P Go.Proofs.YtfjheckgigppiaaDoor.Evs Go.Proofs.YtfjheckgigppiaaDoorW.PrintWords Go.Proofs.YtfjheckgigppiaaDoorW.PrintLast

theorem and255 (x : Int) : 0 ≤ bits .and .i64 x 255 ∧ bits .and .i64 x 255 ≤ 255 := by
 have h : ((BitVec.ofInt 64 x) &&& (BitVec.ofInt 64 255)).toNat ≤ 255 := by
  rw [BitVec.toNat_and]
  exact Nat.and_le_right
 have e : bits .and .i64 x 255 = IntKind.i64.wrap ((((BitVec.ofInt 64 x) &&& (BitVec.ofInt 64 255)).toNat : Nat) : Int) := rfl
 rw [e, IntKind.wrap_i64]
 omega
theorem Byte_tells (b : List Int) (i h : Int) (hb : b.length ≤ 1048576) (h0 : 0 ≤ i) (h1 : i ≤ b.length) : ∃ r i' h', spec_l1Byte.f b i h = some (r, i', h') ∧ 0 ≤ r ∧ r ≤ 255 ∧ 0 ≤ i' ∧ i' ≤ b.length := by
 unfold spec_l1Byte.f
 by_cases c : i < (b.length : Int)
 ·rw [if_pos c, if_pos h0]
  exact ⟨_, _, _, rfl, (and255 _).1, (and255 _).2, by rw [w64 (by omega) (by omega)]; omega, by rw [w64 (by omega) (by omega)]; omega⟩
 ·rw [if_neg c]
  exact ⟨_, _, _, rfl, (and255 _).1, (and255 _).2, h0, h1⟩
theorem Below_tells (b : List Int) (i h n : Int) (hb : b.length ≤ 1048576) (h0 : 0 ≤ i) (h1 : i ≤ b.length) (n0 : 1 ≤ n) (n1 : n ≤ 256) : ∃ r i' h', spec_l1Below.f b i h n = some (r, i', h') ∧ 0 ≤ r ∧ r < n ∧ 0 ≤ i' ∧ i' ≤ b.length := by
 obtain ⟨r, i', h', e, r0, r1, q0, q1⟩ := Byte_tells b i h hb h0 h1
 unfold spec_l1Below.f
 rw [if_neg (by omega), if_pos n1, e]
 simp only [Option.bind_some]
 rw [if_neg (by omega)]
 exact ⟨_, _, _, rfl, Int.tmod_nonneg _ r0, Int.tmod_lt_of_pos _ (by omega), q0, q1⟩
theorem Pick_tells (b : List Int) (i h : Int) (l : List ByteArray) (hb : b.length ≤ 1048576) (h0 : 0 ≤ i) (h1 : i ≤ b.length) (n0 : 1 ≤ l.length) (n1 : l.length ≤ 256) : ∃ s i' h', spec_l1Pick.f b i h l = some (s, i', h') ∧ s ∈ l ∧ 0 ≤ i' ∧ i' ≤ b.length := by
 obtain ⟨r, i', h', e, r0, r1, q0, q1⟩ := Below_tells b i h (l.length : Int) hb h0 h1 (by omega) (by omega)
 unfold spec_l1Pick.f
 rw [e]
 simp only [Option.bind_some]
 rw [if_pos r0, if_pos r1]
 obtain ⟨j, rfl⟩ := Int.eq_ofNat_of_zero_le r0
 have hj : j < l.length := by omega
 refine ⟨_, _, _, rfl, ?_, q0, q1⟩
 unfold rdOf
 rw [Int.toNat_natCast, List.getD_eq_getElem?_getD, List.getElem?_eq_getElem hj]
 exact List.getElem_mem hj
theorem New_loop (b : List Int) (hb : b.length ≤ 1048576) : ∀ (d i : Nat) (h : Int), b.length - i = d → i ≤ b.length → ∃ h' : Int, Ev (fun k => spec_l1New.l0 k b h i) (b, 0, h') := by
 intro d
 induction d with
 | zero =>
  intro i h hd hi
  refine ⟨h, Ev.here fun k => ?_⟩
  simp only [spec_l1New.l0]; rw [if_neg (by omega)]
 | succ d ih =>
  intro i h hd hi
  have hw : wrap64 ((i : Int) + 1) = ((i + 1 : Nat) : Int) := by rw [w64 (by omega) (by omega)]; rfl
  by_cases c : (i : Int) < 4000
  ·obtain ⟨h', e⟩ := ih (i + 1) (Go.bits .and .i64 (wrap64 ((wrap64 ((wrap64 (h * 131)) + (wrap64 (rd b i)))) + 7)) 1073741823) (by omega) (by omega)
   exact ⟨h', Ev.step (fun k => by simp only [spec_l1New.l0, hw]; rw [if_pos (by omega), if_pos c, if_pos (by omega)]) e⟩
  ·refine ⟨h, Ev.here fun k => ?_⟩
   simp only [spec_l1New.l0]; rw [if_pos (by omega), if_neg c]
theorem New_tells (b : List Int) (hb : b.length ≤ 1048576) : ∃ h : Int, Ev (fun k => spec_l1New.f k b) (b, 0, h) := by
 unfold spec_l1New.f
 exact New_loop b hb b.length 0 _ (by omega) (by omega)
def mildTexts : List ByteArray := [(⟨#[97]⟩ : ByteArray), (⟨#[45]⟩ : ByteArray), (⟨#[45, 45]⟩ : ByteArray), (⟨#[13]⟩ : ByteArray), (⟨#[12]⟩ : ByteArray), (⟨#[10]⟩ : ByteArray), (⟨#[1]⟩ : ByteArray), (⟨#[255]⟩ : ByteArray), (⟨#[60, 38, 62]⟩ : ByteArray), (⟨#[93, 93, 62]⟩ : ByteArray), (⟨#[195, 169]⟩ : ByteArray), (⟨#[32]⟩ : ByteArray)]
theorem mild_small : ∀ s ∈ mildTexts, s.size ≤ 3 := by
 intro s hs
 simp only [mildTexts, List.mem_cons, List.not_mem_nil, or_false] at hs
 rcases hs with rfl | rfl | rfl | rfl | rfl | rfl | rfl | rfl | rfl | rfl | rfl | rfl <;> decide
theorem Draw14_loop (b : List Int) (hb : b.length ≤ 1048576) : ∀ (d j : Nat) (acc : ByteArray) (i h : Int), 4 - j = d → j ≤ 4 → acc.size ≤ 3 * j → 0 ≤ i → i ≤ b.length →
  ∃ (t : ByteArray) (i' h' : Int), Ev (fun k => spec_l14Draw.l0 k acc j b i h) (t, i', h') ∧ t.size ≤ 12 := by
 intro d
 induction d with
 | zero =>
  intro j acc i h hd hj ha h0 h1
  obtain ⟨r, i', h', e, r0, r1, q0, q1⟩ := Below_tells b i h 5 hb h0 h1 (by decide) (by decide)
  refine ⟨acc, i', h', Ev.here fun k => ?_, by omega⟩
  simp only [spec_l14Draw.l0]; rw [e]; simp only [Option.bind_some]; rw [if_neg (by omega)]
 | succ d ih =>
  intro j acc i h hd hj ha h0 h1
  have hw : wrap64 ((j : Int) + 1) = ((j + 1 : Nat) : Int) := by rw [w64 (by omega) (by omega)]; rfl
  obtain ⟨r, i', h', e, r0, r1, q0, q1⟩ := Below_tells b i h 5 hb h0 h1 (by decide) (by decide)
  by_cases c : (j : Int) < r
  ·obtain ⟨s, i3, h3, e3, hs, u0, u1⟩ := Pick_tells b i' h' mildTexts hb q0 q1 (by decide) (by decide)
   have hs4 := mild_small s hs
   obtain ⟨t, i4, h4, e4, ht⟩ := ih (j + 1) (acc ++ s) i3 h3 (by omega) (by omega) (by rw [ByteArray.size_append]; omega) u0 u1
   refine ⟨t, i4, h4, Ev.step (f := fun k => spec_l14Draw.l0 k (acc ++ s) ((j + 1 : Nat) : Int) b i3 h3) (fun k => ?_) e4, ht⟩
   simp only [spec_l14Draw.l0, hw]
   rw [e]; simp only [Option.bind_some]
   have e3' := e3
   unfold mildTexts at e3'
   rw [if_pos c, e3']; simp only [Option.bind_some]
   rw [if_pos (by omega)]
  ·refine ⟨acc, i', h', Ev.here fun k => ?_, by omega⟩
   simp only [spec_l14Draw.l0]; rw [e]; simp only [Option.bind_some]; rw [if_neg c]
theorem Draw14_tells (b : List Int) (h : Int) (hb : b.length ≤ 1048576) : ∃ (t : ByteArray) (i' h' : Int), Ev (fun k => spec_l14Draw.f k b 0 h) (t, i', h') ∧ t.size ≤ 12 := by
 unfold spec_l14Draw.f
 exact Draw14_loop b hb 4 0 _ 0 h (by omega) (by omega) (by decide) (by omega) (by omega)
theorem draws (b : List Int) (hb : b.length ≤ 1048576) : ∃ t : ByteArray, t.size ≤ 12 ∧ Ev (fun k => spec_DrawNoteOf.f k b) t := by
 obtain ⟨h, e⟩ := New_tells b hb
 obtain ⟨t, i', h', e2, ht⟩ := Draw14_tells b h hb
 unfold spec_DrawNoteOf.f
 exact ⟨t, ht, Ev.bind e (Ev.bind e2 (Ev.now _))⟩
end Go.Proofs.YtfjheckgigppiaaDoor.Dr
