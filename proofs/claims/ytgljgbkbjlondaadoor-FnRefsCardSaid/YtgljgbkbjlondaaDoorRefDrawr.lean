/- What FnRefs draws: each draw ends, what is drawn is small. No conditions but the size. -/
import Derived.Test.YtgljgbkbjlondaaDoorDrawBaser
import Derived.Test.YtgljgbkbjlondaaDoorPr1
import Derived.Test.YtgljgbkbjlondaaDoorPr13
import Derived.Test.YtgljgbkbjlondaaDoorPr15
import Derived.Test.YtgljgbkbjlondaaDoorPr16
set_option linter.unusedVariables false
set_option linter.unusedSimpArgs false
namespace Go.Proofs.YtgljgbkbjlondaaDoor.Dr
open Go Go.RowKit Go.Proofs.YtgljgbkbjlondaaDoor.P Go.Proofs.YtgljgbkbjlondaaDoor.Evs Go.Proofs.YtgljgbkbjlondaaDoorW.PrintWords Go.Proofs.YtgljgbkbjlondaaDoorW.PrintLast

theorem New_loop (b : List Int) (hb : b.length ≤ 1048576) : ∀ (d i : Nat) (h : Int), b.length - i = d → i ≤ b.length → ∃ h' : Int, Ev (fun k => spec_l1New.l0 k b h i) (b, 0, h') := by
 intro d
 induction d with
 | zero =>
  intro i h hd hi
  refine ⟨h, Ev.here fun k => ?_⟩
  simp only [spec_l1New.l0]; rw [if_neg (by omega)]
 | succ d ih =>
  intro i h hd hi
  have hw : wrap64 ((i : Int) + 1) = ((i + 1 : Nat) : Int) := by rw [w64 (by omega) (by omega)]; rfl
  by_cases c : (i : Int) < 4000
  ·obtain ⟨h', e⟩ := ih (i + 1) (Go.bits .and .i64 (wrap64 ((wrap64 ((wrap64 (h * 131)) + (wrap64 (rd b i)))) + 7)) 1073741823) (by omega) (by omega)
   exact ⟨h', Ev.step (fun k => by simp only [spec_l1New.l0, hw]; rw [if_pos (by omega), if_pos c, if_pos (by omega)]) e⟩
  ·refine ⟨h, Ev.here fun k => ?_⟩
   simp only [spec_l1New.l0]; rw [if_pos (by omega), if_neg c]
theorem New_tells (b : List Int) (hb : b.length ≤ 1048576) : ∃ h : Int, Ev (fun k => spec_l1New.f k b) (b, 0, h) := by
 unfold spec_l1New.f
 exact New_loop b hb b.length 0 _ (by omega) (by omega)
def mildTexts : List ByteArray := [(⟨#[97]⟩ : ByteArray), (⟨#[45]⟩ : ByteArray), (⟨#[45, 45]⟩ : ByteArray), (⟨#[13]⟩ : ByteArray), (⟨#[12]⟩ : ByteArray), (⟨#[10]⟩ : ByteArray), (⟨#[1]⟩ : ByteArray), (⟨#[255]⟩ : ByteArray), (⟨#[60, 38, 62]⟩ : ByteArray), (⟨#[93, 93, 62]⟩ : ByteArray), (⟨#[195, 169]⟩ : ByteArray), (⟨#[32]⟩ : ByteArray)]
theorem mild_small : ∀ s ∈ mildTexts, s.size ≤ 3 := by
 intro s hs
 simp only [mildTexts, List.mem_cons, List.not_mem_nil, or_false] at hs
 rcases hs with rfl | rfl | rfl | rfl | rfl | rfl | rfl | rfl | rfl | rfl | rfl | rfl <;> decide
theorem Draw14_loop (b : List Int) (hb : b.length ≤ 1048576) : ∀ (d j : Nat) (acc : ByteArray) (i h : Int), 4 - j = d → j ≤ 4 → acc.size ≤ 3 * j → 0 ≤ i → i ≤ b.length →
  ∃ (t : ByteArray) (i' h' : Int), Ev (fun k => spec_l14Draw.l0 k acc j b i h) (t, i', h') ∧ t.size ≤ 12 ∧ 0 ≤ i' ∧ i' ≤ b.length := by
 intro d
 induction d with
 | zero =>
  intro j acc i h hd hj ha h0 h1
  obtain ⟨r, i', h', e, r0, r1, q0, q1⟩ := Below_tells b i h 5 hb h0 h1 (by decide) (by decide)
  refine ⟨acc, i', h', Ev.here fun k => ?_, by omega, q0, q1⟩
  simp only [spec_l14Draw.l0]; rw [e]; simp only [Option.bind_some]; rw [if_neg (by omega)]
 | succ d ih =>
  intro j acc i h hd hj ha h0 h1
  have hw : wrap64 ((j : Int) + 1) = ((j + 1 : Nat) : Int) := by rw [w64 (by omega) (by omega)]; rfl
  obtain ⟨r, i', h', e, r0, r1, q0, q1⟩ := Below_tells b i h 5 hb h0 h1 (by decide) (by decide)
  by_cases c : (j : Int) < r
  ·obtain ⟨s, i3, h3, e3, hs, u0, u1⟩ := Pick_tells b i' h' mildTexts hb q0 q1 (by decide) (by decide)
   have hs4 := mild_small s hs
   obtain ⟨t, i4, h4, e4, ht, v0, v1⟩ := ih (j + 1) (acc ++ s) i3 h3 (by omega) (by omega) (by rw [ByteArray.size_append]; omega) u0 u1
   refine ⟨t, i4, h4, Ev.step (f := fun k => spec_l14Draw.l0 k (acc ++ s) ((j + 1 : Nat) : Int) b i3 h3) (fun k => ?_) e4, ht, v0, v1⟩
   simp only [spec_l14Draw.l0, hw]
   rw [e]; simp only [Option.bind_some]
   have e3' := e3
   unfold mildTexts at e3'
   rw [if_pos c, e3']; simp only [Option.bind_some]
   rw [if_pos (by omega)]
  ·refine ⟨acc, i', h', Ev.here fun k => ?_, by omega, q0, q1⟩
   simp only [spec_l14Draw.l0]; rw [e]; simp only [Option.bind_some]; rw [if_neg c]
def refTexts : List ByteArray := [(⟨#[38, 97, 109, 112, 59]⟩ : ByteArray), (⟨#[38, 108, 116]⟩ : ByteArray), (⟨#[38, 110, 111, 116, 105, 110, 59]⟩ : ByteArray), (⟨#[38, 110, 111, 116, 120]⟩ : ByteArray), (⟨#[38, 35, 54, 53, 59]⟩ : ByteArray), (⟨#[38, 35, 120, 52, 49]⟩ : ByteArray), (⟨#[38, 35, 49, 50, 56, 59]⟩ : ByteArray), (⟨#[38, 35, 48, 59]⟩ : ByteArray), (⟨#[38, 35, 57, 57, 57, 57, 57, 57, 57, 57, 57, 57, 57, 57, 57, 57, 57, 57, 57, 57, 57, 57, 59]⟩ : ByteArray), (⟨#[38]⟩ : ByteArray), (⟨#[38, 35]⟩ : ByteArray), (⟨#[38, 35, 120, 59]⟩ : ByteArray), (⟨#[97]⟩ : ByteArray), (⟨#[61]⟩ : ByteArray), (⟨#[38, 97, 109, 112, 61]⟩ : ByteArray), (⟨#[38, 99, 111, 112, 121, 49]⟩ : ByteArray), (⟨#[38, 35, 88, 68, 56, 48, 48, 59]⟩ : ByteArray), (⟨#[59]⟩ : ByteArray)]
theorem ref_small : ∀ s ∈ refTexts, s.size ≤ 25 := by
 intro s hs
 simp only [refTexts, List.mem_cons, List.not_mem_nil, or_false] at hs
 rcases hs with rfl | rfl | rfl | rfl | rfl | rfl | rfl | rfl | rfl | rfl | rfl | rfl | rfl | rfl | rfl | rfl | rfl | rfl <;> decide
theorem Draw3_loop (b : List Int) (hb : b.length ≤ 1048576) : ∀ (d j : Nat) (acc : ByteArray) (i h : Int), 4 - j = d → j ≤ 4 → acc.size ≤ 25 * j → 0 ≤ i → i ≤ b.length →
  ∃ (t : ByteArray) (i' h' : Int), Ev (fun k => spec_l3DrawText.l0 k acc j b i h) (t, i', h') ∧ t.size ≤ 100 ∧ 0 ≤ i' ∧ i' ≤ b.length := by
 intro d
 induction d with
 | zero =>
  intro j acc i h hd hj ha h0 h1
  obtain ⟨r, i', h', e, r0, r1, q0, q1⟩ := Below_tells b i h 5 hb h0 h1 (by decide) (by decide)
  refine ⟨acc, i', h', Ev.here fun k => ?_, by omega, q0, q1⟩
  simp only [spec_l3DrawText.l0]; rw [e]; simp only [Option.bind_some]; rw [if_neg (by omega)]
 | succ d ih =>
  intro j acc i h hd hj ha h0 h1
  have hw : wrap64 ((j : Int) + 1) = ((j + 1 : Nat) : Int) := by rw [w64 (by omega) (by omega)]; rfl
  obtain ⟨r, i', h', e, r0, r1, q0, q1⟩ := Below_tells b i h 5 hb h0 h1 (by decide) (by decide)
  by_cases c : (j : Int) < r
  ·obtain ⟨s, i3, h3, e3, hs, u0, u1⟩ := Pick_tells b i' h' refTexts hb q0 q1 (by decide) (by decide)
   have hs4 := ref_small s hs
   obtain ⟨t, i4, h4, e4, ht, v0, v1⟩ := ih (j + 1) (acc ++ s) i3 h3 (by omega) (by omega) (by rw [ByteArray.size_append]; omega) u0 u1
   refine ⟨t, i4, h4, Ev.step (f := fun k => spec_l3DrawText.l0 k (acc ++ s) ((j + 1 : Nat) : Int) b i3 h3) (fun k => ?_) e4, ht, v0, v1⟩
   simp only [spec_l3DrawText.l0, hw]
   rw [e]; simp only [Option.bind_some]
   have e3' := e3
   unfold refTexts at e3'
   rw [if_pos c, e3']; simp only [Option.bind_some]
   rw [if_pos (by omega)]
  ·refine ⟨acc, i', h', Ev.here fun k => ?_, by omega, q0, q1⟩
   simp only [spec_l3DrawText.l0]; rw [e]; simp only [Option.bind_some]; rw [if_neg c]
theorem Draw3_tells (b : List Int) (i h : Int) (hb : b.length ≤ 1048576) (h0 : 0 ≤ i) (h1 : i ≤ b.length) : ∃ (t : ByteArray) (i' h' : Int), Ev (fun k => spec_l3DrawText.f k b i h) (t, i', h') ∧ t.size ≤ 100 ∧ 0 ≤ i' ∧ i' ≤ b.length := by
 unfold spec_l3DrawText.f
 exact Draw3_loop b hb 4 0 _ i h (by omega) (by omega) (by decide) h0 h1
theorem drawRefs (b : List Int) (hb : b.length ≤ 1048576) : ∃ (t : ByteArray) (v : Bool), t.size ≤ 100 ∧ Ev (fun k => spec_DrawRefs.f k b) (t, v) := by
 obtain ⟨h, e⟩ := New_tells b hb
 obtain ⟨t, i', h', e2, ht, q0, q1⟩ := Draw3_tells b 0 h hb (by omega) (by omega)
 obtain ⟨o, i3, h3, e3, _⟩ := Once_tells b i' h' 2 hb q0 q1 (by decide) (by decide)
 exact ⟨t, o, ht, Ev.bind e (Ev.bind e2 (Ev.opt e3 (Ev.now _)))⟩
theorem drawRef (b : List Int) (hb : b.length ≤ 1048576) : ∃ (t : ByteArray) (a : Int) (v : Bool), t.size ≤ 100 ∧ Ev (fun k => spec_DrawRef.f k b) (t, a, v) := by
 obtain ⟨h, e⟩ := New_tells b hb
 obtain ⟨t, i', h', e2, ht, q0, q1⟩ := Draw3_tells b 0 h hb (by omega) (by omega)
 obtain ⟨a, i3, h3, e3, _, p0, p1⟩ := PickInt_tells b i' h' [0, 0, 0, 1, 5, -1, (t.size : Int)] hb q0 q1 (by show 1 ≤ 7; omega) (by show 7 ≤ 256; omega)
 obtain ⟨o, i4, h4, e4, _⟩ := Once_tells b i3 h3 2 hb p0 p1 (by decide) (by decide)
 exact ⟨t, a, o, ht, Ev.bind e (Ev.bind e2 (Ev.opt e3 (Ev.opt e4 (Ev.now _))))⟩
theorem drawNumbered (b : List Int) (hb : b.length ≤ 1048576) : ∃ n : Int, Ev (fun k => spec_DrawNumbered.f k b) n := by
 obtain ⟨h, e⟩ := New_tells b hb
 obtain ⟨a, i3, h3, e3, _⟩ := PickInt_tells b 0 h [0, 1, 65, 127, 128, 129, 150, 159, 160, 55296, 1114111, 1114112, -1] hb (by omega) (by omega) (by decide) (by decide)
 exact ⟨a, Ev.bind e (Ev.opt e3 (Ev.now _))⟩
theorem drawNameSign (b : List Int) (hb : b.length ≤ 1048576) : ∃ n : ByteArray, Ev (fun k => spec_DrawNameSign.f k b) n := by
 obtain ⟨h, e⟩ := New_tells b hb
 obtain ⟨a, i3, h3, e3, _⟩ := Pick_tells b 0 h [(⟨#[97, 109, 112]⟩ : ByteArray), (⟨#[108, 116]⟩ : ByteArray), (⟨#[116, 105, 109, 101, 115]⟩ : ByteArray), (⟨#[110, 98, 115, 112]⟩ : ByteArray), (⟨#[110, 111]⟩ : ByteArray), (⟨#[]⟩ : ByteArray), (⟨#[65, 77, 80]⟩ : ByteArray), (⟨#[110, 111, 116, 105, 110]⟩ : ByteArray)] hb (by omega) (by omega) (by decide) (by decide)
 exact ⟨a, Ev.bind e (Ev.opt e3 (Ev.now _))⟩
theorem drawEscape (b : List Int) (hb : b.length ≤ 1048576) : ∃ (t : ByteArray) (v : Bool), t.size ≤ 20 ∧ Ev (fun k => spec_DrawEscape.f k b) (t, v) := by
 obtain ⟨h, e⟩ := New_tells b hb
 obtain ⟨t, i', h', e2, ht, q0, q1⟩ := Draw14_loop b hb 4 0 (⟨#[]⟩ : ByteArray) 0 h (by omega) (by omega) (by decide) (by omega) (by omega)
 replace e2 : Ev (fun k => spec_l14Draw.f k b 0 h) (t, i', h') := e2
 obtain ⟨s, i3, h3, e3, hs, p0, p1⟩ := Pick_tells b i' h' [(⟨#[]⟩ : ByteArray), (⟨#[34]⟩ : ByteArray), (⟨#[9]⟩ : ByteArray)] hb q0 q1 (by decide) (by decide)
 have hs1 : s.size ≤ 1 := by
  simp only [List.mem_cons, List.not_mem_nil, or_false] at hs
  rcases hs with rfl | rfl | rfl <;> decide
 obtain ⟨o, i4, h4, e4, _⟩ := Once_tells b i3 h3 2 hb p0 p1 (by decide) (by decide)
 exact ⟨t ++ s, o, by rw [ByteArray.size_append]; omega, Ev.bind e (Ev.bind e2 (Ev.opt e3 (Ev.ite_pos (by show t.size + s.size ≤ _; omega) (Ev.opt e4 (Ev.now _)))))⟩
end Go.Proofs.YtgljgbkbjlondaaDoor.Dr
