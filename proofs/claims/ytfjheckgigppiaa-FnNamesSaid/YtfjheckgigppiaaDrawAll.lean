/- The draws' cursor: a byte, a number below another one, one of a list: each ends. No conditions but the size. The draws' texts: a new cursor, a sign, a text, a name: each ends, and a text is small. No conditions but the size. -/
import Derived.Test.YtfjheckgigppiaaEvBase
import Derived.Laws.BitsLemmas
import Derived.Test.YtfjheckgigppiaaSignAll
import Derived.Test.YtfjheckgigppiaaPf1
namespace Go.Proofs.Ytfjheckgigppiaa.Dr
open Go Go.RowKit Go.Proofs.Ytfjheckgigppiaa.P Go.Proofs.Ytfjheckgigppiaa.Evs Go.Proofs.YtfjheckgigppiaaW.PrintWords Go.Proofs.YtfjheckgigppiaaW.PrintLast

theorem and255 (x : Int) : 0 ≤ bits .and .i64 x 255 ∧ bits .and .i64 x 255 ≤ 255 := by
  have h : ((BitVec.ofInt 64 x) &&& (BitVec.ofInt 64 255)).toNat ≤ 255 := by
    rw [BitVec.toNat_and]
    exact Nat.and_le_right
  have e : bits .and .i64 x 255 = IntKind.i64.wrap ((((BitVec.ofInt 64 x) &&& (BitVec.ofInt 64 255)).toNat : Nat) : Int) := rfl
  rw [e, IntKind.wrap_i64]
  omega
theorem Byte_tells (b : List Int) (i h : Int) (hb : b.length ≤ 1048576) (h0 : 0 ≤ i) (h1 : i ≤ b.length) : ∃ r i' h', spec_l1Byte.f b i h = some (r, i', h') ∧ 0 ≤ r ∧ r ≤ 255 ∧ 0 ≤ i' ∧ i' ≤ b.length := by
  unfold spec_l1Byte.f
  by_cases c : i < (b.length : Int)
  · rw [if_pos c, if_pos h0]
    exact ⟨_, _, _, rfl, (and255 _).1, (and255 _).2, by rw [w64 (by omega) (by omega)]; omega, by rw [w64 (by omega) (by omega)]; omega⟩
  · rw [if_neg c]
    exact ⟨_, _, _, rfl, (and255 _).1, (and255 _).2, h0, h1⟩
theorem Below_tells (b : List Int) (i h n : Int) (hb : b.length ≤ 1048576) (h0 : 0 ≤ i) (h1 : i ≤ b.length) (n0 : 1 ≤ n) (n1 : n ≤ 256) : ∃ r i' h', spec_l1Below.f b i h n = some (r, i', h') ∧ 0 ≤ r ∧ r < n ∧ 0 ≤ i' ∧ i' ≤ b.length := by
  obtain ⟨r, i', h', e, r0, r1, q0, q1⟩ := Byte_tells b i h hb h0 h1
  unfold spec_l1Below.f
  rw [if_neg (by omega), if_pos n1, e]
  simp only [Option.bind_some]
  rw [if_neg (by omega)]
  exact ⟨_, _, _, rfl, Int.tmod_nonneg _ r0, Int.tmod_lt_of_pos _ (by omega), q0, q1⟩
theorem Once_tells (b : List Int) (i h n : Int) (hb : b.length ≤ 1048576) (h0 : 0 ≤ i) (h1 : i ≤ b.length) (n0 : 1 ≤ n) (n1 : n ≤ 256) : ∃ r i' h', spec_l1Once.f b i h n = some (r, i', h') ∧ 0 ≤ i' ∧ i' ≤ b.length := by
  obtain ⟨r, i', h', e, _, _, q0, q1⟩ := Below_tells b i h n hb h0 h1 n0 n1
  unfold spec_l1Once.f
  rw [e]
  exact ⟨_, _, _, rfl, q0, q1⟩
theorem Pick_tells (b : List Int) (i h : Int) (l : List ByteArray) (hb : b.length ≤ 1048576) (h0 : 0 ≤ i) (h1 : i ≤ b.length) (n0 : 1 ≤ l.length) (n1 : l.length ≤ 256) : ∃ s i' h', spec_l1Pick.f b i h l = some (s, i', h') ∧ s ∈ l ∧ 0 ≤ i' ∧ i' ≤ b.length := by
  obtain ⟨r, i', h', e, r0, r1, q0, q1⟩ := Below_tells b i h (l.length : Int) hb h0 h1 (by omega) (by omega)
  unfold spec_l1Pick.f
  rw [e]
  simp only [Option.bind_some]
  rw [if_pos r0, if_pos r1]
  obtain ⟨j, rfl⟩ := Int.eq_ofNat_of_zero_le r0
  have hj : j < l.length := by omega
  refine ⟨_, _, _, rfl, ?_, q0, q1⟩
  unfold rdOf
  rw [Int.toNat_natCast, List.getD_eq_getElem?_getD, List.getElem?_eq_getElem hj]
  exact List.getElem_mem hj
theorem PickInt_tells (b : List Int) (i h : Int) (l : List Int) (hb : b.length ≤ 1048576) (h0 : 0 ≤ i) (h1 : i ≤ b.length) (n0 : 1 ≤ l.length) (n1 : l.length ≤ 256) : ∃ s i' h', spec_l1PickInt.f b i h l = some (s, i', h') ∧ s ∈ l ∧ 0 ≤ i' ∧ i' ≤ b.length := by
  obtain ⟨r, i', h', e, r0, r1, q0, q1⟩ := Below_tells b i h (l.length : Int) hb h0 h1 (by omega) (by omega)
  unfold spec_l1PickInt.f
  rw [e]
  simp only [Option.bind_some]
  rw [if_pos r0, if_pos r1]
  obtain ⟨j, rfl⟩ := Int.eq_ofNat_of_zero_le r0
  have hj : j < l.length := by omega
  refine ⟨_, _, _, rfl, ?_, q0, q1⟩
  unfold rd
  rw [Int.toNat_natCast, List.getD_eq_getElem?_getD, List.getElem?_eq_getElem hj]
  exact List.getElem_mem hj
end Go.Proofs.Ytfjheckgigppiaa.Dr
namespace Go.Proofs.Ytfjheckgigppiaa.Dr
open Go Go.RowKit Go.Proofs.Ytfjheckgigppiaa.P Go.Proofs.Ytfjheckgigppiaa.Evs Go.Proofs.YtfjheckgigppiaaW.PrintWords Go.Proofs.YtfjheckgigppiaaW.PrintLast

theorem New_loop (b : List Int) (hb : b.length ≤ 1048576) : ∀ (d i : Nat) (h : Int), b.length - i = d → i ≤ b.length → ∃ h' : Int, Ev (fun k => spec_l1New.l0 k b h i) (b, 0, h') := by
  intro d
  induction d with
  | zero =>
    intro i h hd hi
    refine ⟨h, Ev.here fun k => ?_⟩
    simp only [spec_l1New.l0]; rw [if_neg (by omega)]
  | succ d ih =>
    intro i h hd hi
    have hw : wrap64 ((i : Int) + 1) = ((i + 1 : Nat) : Int) := by rw [w64 (by omega) (by omega)]; rfl
    by_cases c : (i : Int) < 4000
    · obtain ⟨h', e⟩ := ih (i + 1) (Go.bits .and .i64 (wrap64 ((wrap64 ((wrap64 (h * 131)) + (wrap64 (rd b i)))) + 7)) 1073741823) (by omega) (by omega)
      exact ⟨h', Ev.step (fun k => by simp only [spec_l1New.l0, hw]; rw [if_pos (by omega), if_pos c, if_pos (by omega)]) e⟩
    · refine ⟨h, Ev.here fun k => ?_⟩
      simp only [spec_l1New.l0]; rw [if_pos (by omega), if_neg c]
theorem New_tells (b : List Int) (hb : b.length ≤ 1048576) : ∃ h : Int, Ev (fun k => spec_l1New.f k b) (b, 0, h) := by
  unfold spec_l1New.f
  exact New_loop b hb b.length 0 _ (by omega) (by omega)
theorem DrawSign_tells (b : List Int) (i h : Int) (hb : b.length ≤ 1048576) (h0 : 0 ≤ i) (h1 : i ≤ b.length) : ∃ n i' h', spec_l1DrawSign.f b i h = some (n, i', h') ∧ 0 ≤ i' ∧ i' ≤ b.length := by
  obtain ⟨n, i', h', e, _, q0, q1⟩ := PickInt_tells b i h ([0, 9, 13, 65, 97, 127, 128, 160, 2047, 2048, 8364, 55295, 57344, 65533, 65534, 65535, 65536, 1114111] : List Int) hb h0 h1 (by decide) (by decide)
  unfold spec_l1DrawSign.f
  rw [e]
  exact ⟨_, _, _, rfl, q0, q1⟩
def oddTexts : List ByteArray := [(⟨#[255]⟩ : ByteArray), (⟨#[192]⟩ : ByteArray), (⟨#[226]⟩ : ByteArray), (⟨#[226, 130]⟩ : ByteArray), (⟨#[240, 144]⟩ : ByteArray), (⟨#[237, 160]⟩ : ByteArray), (⟨#[128]⟩ : ByteArray), (⟨#[244, 144]⟩ : ByteArray), (⟨#[194]⟩ : ByteArray)]
theorem odd_small : ∀ s ∈ oddTexts, s.size ≤ 4 := by
  intro s hs
  simp only [oddTexts, List.mem_cons, List.not_mem_nil, or_false] at hs
  rcases hs with rfl | rfl | rfl | rfl | rfl | rfl | rfl | rfl | rfl <;> decide
theorem DrawText_loop (b : List Int) (hb : b.length ≤ 1048576) : ∀ (d j : Nat) (acc : ByteArray) (i h : Int), 5 - j = d → j ≤ 5 → acc.size ≤ 4 * j → 0 ≤ i → i ≤ b.length →
    ∃ (t : ByteArray) (i' h' : Int), Ev (fun k => spec_l1DrawText.l0 k acc j b i h) (t, i', h') ∧ t.size ≤ 20 ∧ 0 ≤ i' ∧ i' ≤ b.length := by
  intro d
  induction d with
  | zero =>
    intro j acc i h hd hj ha h0 h1
    obtain ⟨r, i', h', e, r0, r1, q0, q1⟩ := Below_tells b i h 6 hb h0 h1 (by decide) (by decide)
    refine ⟨acc, i', h', Ev.here fun k => ?_, by omega, q0, q1⟩
    simp only [spec_l1DrawText.l0]; rw [e]; simp only [Option.bind_some]; rw [if_neg (by omega)]
  | succ d ih =>
    intro j acc i h hd hj ha h0 h1
    have hw : wrap64 ((j : Int) + 1) = ((j + 1 : Nat) : Int) := by rw [w64 (by omega) (by omega)]; rfl
    obtain ⟨r, i', h', e, r0, r1, q0, q1⟩ := Below_tells b i h 6 hb h0 h1 (by decide) (by decide)
    by_cases c : (j : Int) < r
    · obtain ⟨o, i2, h2, e2, p0, p1⟩ := Once_tells b i' h' 3 hb q0 q1 (by decide) (by decide)
      cases o with
      | true =>
        obtain ⟨s, i3, h3, e3, hs, u0, u1⟩ := Pick_tells b i2 h2 oddTexts hb p0 p1 (by decide) (by decide)
        have hs4 := odd_small s hs
        obtain ⟨t, i4, h4, e4, ht, v0, v1⟩ := ih (j + 1) (acc ++ s) i3 h3 (by omega) (by omega) (by rw [ByteArray.size_append]; omega) u0 u1
        refine ⟨t, i4, h4, Ev.step (f := fun k => spec_l1DrawText.l0 k (acc ++ s) ((j + 1 : Nat) : Int) b i3 h3) (fun k => ?_) e4, ht, v0, v1⟩
        simp only [spec_l1DrawText.l0, hw]
        rw [e]; simp only [Option.bind_some]
        rw [if_pos c, e2]; simp only [Option.bind_some]
        rw [if_pos True.intro]
        have e3' := e3
        unfold oddTexts at e3'
        rw [e3']; simp only [Option.bind_some]
        rw [if_pos (by omega)]
      | false =>
        obtain ⟨n, i3, h3, e3, u0, u1⟩ := DrawSign_tells b i2 h2 hb p0 p1
        obtain ⟨s, es, _, _, hs4⟩ := Sg.PutSign_same n
        obtain ⟨t, i4, h4, e4, ht, v0, v1⟩ := ih (j + 1) (acc ++ s) i3 h3 (by omega) (by omega) (by rw [ByteArray.size_append]; omega) u0 u1
        refine ⟨t, i4, h4, Ev.step (f := fun k => (spec_PutSign.f k n).bind fun t164 => (if acc.size + t164.size ≤ 9223372036854775807 then (spec_l1DrawText.l0 k (acc ++ t164) ((j + 1 : Nat) : Int) b i3 h3) else none)) (fun k => ?_) (Ev.bind es (Ev.ite_pos (by omega) e4)), ht, v0, v1⟩
        simp only [spec_l1DrawText.l0, hw]
        rw [e]; simp only [Option.bind_some]
        rw [if_pos c, e2]; simp only [Option.bind_some]
        rw [if_neg (by decide), e3]; simp only [Option.bind_some]
    · refine ⟨acc, i', h', Ev.here fun k => ?_, by omega, q0, q1⟩
      simp only [spec_l1DrawText.l0]; rw [e]; simp only [Option.bind_some]; rw [if_neg c]
theorem DrawText_tells (b : List Int) (i h : Int) (hb : b.length ≤ 1048576) (h0 : 0 ≤ i) (h1 : i ≤ b.length) : ∃ (t : ByteArray) (i' h' : Int), Ev (fun k => spec_l1DrawText.f k b i h) (t, i', h') ∧ t.size ≤ 20 ∧ 0 ≤ i' ∧ i' ≤ b.length := by
  unfold spec_l1DrawText.f
  exact DrawText_loop b hb 5 0 _ i h (by omega) (by omega) (by decide) h0 h1
def someNames : List ByteArray := [(⟨#[]⟩ : ByteArray), (⟨#[97]⟩ : ByteArray), (⟨#[120, 58, 121]⟩ : ByteArray), (⟨#[49, 97]⟩ : ByteArray), (⟨#[45]⟩ : ByteArray), (⟨#[97, 45, 98, 46, 99]⟩ : ByteArray), (⟨#[95]⟩ : ByteArray), (⟨#[85, 48, 48, 48, 48, 48, 49]⟩ : ByteArray), (⟨#[97, 32, 98]⟩ : ByteArray), (⟨#[195, 169]⟩ : ByteArray), (⟨#[120, 109, 108]⟩ : ByteArray)]
theorem names_small : ∀ s ∈ someNames, s.size ≤ 20 := by
  intro s hs
  simp only [someNames, List.mem_cons, List.not_mem_nil, or_false] at hs
  rcases hs with rfl | rfl | rfl | rfl | rfl | rfl | rfl | rfl | rfl | rfl | rfl <;> decide
theorem Draw13_tells (b : List Int) (i h : Int) (hb : b.length ≤ 1048576) (h0 : 0 ≤ i) (h1 : i ≤ b.length) : ∃ (t : ByteArray) (i' h' : Int), Ev (fun k => spec_l13Draw.f k b i h) (t, i', h') ∧ t.size ≤ 20 ∧ 0 ≤ i' ∧ i' ≤ b.length := by
  obtain ⟨o, i2, h2, e2, p0, p1⟩ := Once_tells b i h 3 hb h0 h1 (by decide) (by decide)
  unfold spec_l13Draw.f
  cases o with
  | true =>
    obtain ⟨t, i3, h3, e3, ht, u0, u1⟩ := DrawText_tells b i2 h2 hb p0 p1
    exact ⟨t, i3, h3, Ev.opt e2 (Ev.ite_pos rfl (Ev.bind e3 (Ev.now _))), ht, u0, u1⟩
  | false =>
    obtain ⟨s, i3, h3, e3, hs, u0, u1⟩ := Pick_tells b i2 h2 someNames hb p0 p1 (by decide) (by decide)
    unfold someNames at e3
    exact ⟨s, i3, h3, Ev.opt e2 (Ev.ite_neg Bool.false_ne_true (Ev.opt e3 (Ev.now _))), names_small s hs, u0, u1⟩
end Go.Proofs.Ytfjheckgigppiaa.Dr
