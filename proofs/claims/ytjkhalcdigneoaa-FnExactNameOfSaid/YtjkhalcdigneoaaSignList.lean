/- All signs of a text, and a text of signs: the program's and the reference's Signs, SignText, Clean, CleanOk, IsFirst, IsNext tell the same. No conditions but the size. -/
import Derived.Test.YtjkhalcdigneoaaSignBase
namespace Go.Proofs.Ytjkhalcdigneoaa.Sg
open Go Go.RowKit Go.Proofs.Ytjkhalcdigneoaa.P Go.Proofs.Ytjkhalcdigneoaa.Evs Go.Proofs.YtjkhalcdigneoaaW.PrintWords Go.Proofs.YtjkhalcdigneoaaW.PrintLast

theorem Signs_loop (s : ByteArray) (hs : s.size ≤ 1048576) : ∀ (d at_ : Nat) (acc : List Int), s.size - at_ ≤ d → at_ ≤ s.size → acc.length ≤ at_ →
    ∃ l, Ev (fun k => spec_Signs.l0 k s acc at_) l ∧ Ev (fun k => impl_Signs.l0 k s acc at_) l ∧ l.length ≤ s.size ∧ acc.length ≤ l.length ∧ (at_ < s.size → acc.length < l.length) := by
  intro d
  induction d with
  | zero =>
    intro at_ acc hd hat hacc
    refine ⟨acc, Ev.here fun k => ?_, Ev.here fun k => ?_, by omega, by omega, by omega⟩
    · simp only [spec_Signs.l0]; rw [if_neg (by omega)]
    · simp only [impl_Signs.l0]; rw [if_neg (by omega)]
  | succ d ih =>
    intro at_ acc hd hat hacc
    by_cases c : at_ < s.size
    · obtain ⟨r, m, e1, e2, h1, h2, _⟩ := GetSign_same s at_ hs c
      obtain ⟨l, el1, el2, hl, hl2, _⟩ := ih (at_ + m) (acc ++ [r]) (by omega) h2 (by simp; omega)
      rw [List.length_append, List.length_singleton] at hl2
      have hw : wrap64 ((at_ : Int) + (m : Int)) = ((at_ + m : Nat) : Int) := by rw [w64 (by omega) (by omega)]; rfl
      have hacc2 : acc.length < 17592186044416 := by omega
      refine ⟨l, ?_, ?_, hl, by omega, fun _ => by omega⟩
      · refine Ev.step (fun k => by simp only [spec_Signs.l0]; rw [if_pos (by omega)]) ?_
        refine Ev.bind e1 (Ev.ite_pos hacc2 ?_)
        simp only [hw]; exact el1
      · refine Ev.step (fun k => by simp only [impl_Signs.l0]; rw [if_pos (by omega)]) ?_
        refine Ev.bind e2 (Ev.ite_pos hacc2 ?_)
        simp only [hw]; exact el2
    · refine ⟨acc, Ev.here fun k => ?_, Ev.here fun k => ?_, by omega, by omega, by omega⟩
      · simp only [spec_Signs.l0]; rw [if_neg (by omega)]
      · simp only [impl_Signs.l0]; rw [if_neg (by omega)]
theorem Signs_same (s : ByteArray) (hs : s.size ≤ 1048576) : ∃ l, Ev (fun k => spec_Signs.f k s) l ∧ Ev (fun k => impl_Signs.f k s) l ∧ l.length ≤ s.size := by
  unfold spec_Signs.f impl_Signs.f
  obtain ⟨l, h1, h2, h3, _, _⟩ := Signs_loop s hs s.size 0 [] (by omega) (by omega) (by simp)
  exact ⟨l, h1, h2, h3⟩
theorem Signs_some (s : ByteArray) (hs : s.size ≤ 1048576) (h0 : 0 < s.size) : ∃ l, Ev (fun k => spec_Signs.f k s) l ∧ Ev (fun k => impl_Signs.f k s) l ∧ l.length ≤ s.size ∧ 0 < l.length := by
  unfold spec_Signs.f impl_Signs.f
  obtain ⟨l, h1, h2, h3, _, h5⟩ := Signs_loop s hs s.size 0 [] (by omega) (by omega) (by simp)
  exact ⟨l, h1, h2, h3, h5 h0⟩

/-! ### a text of signs -/
theorem nums_bytes (t : ByteArray) : strOfNums (bytesOf t) = t := by
  unfold strOfNums bytesOf
  rw [List.map_map, show ((fun n : Int => UInt8.ofNat n.toNat) ∘ fun b : UInt8 => (b.toNat : Int)) = id from funext fun b => by simp, List.map_id]
theorem nums_append (a b : List Int) : strOfNums (a ++ b) = strOfNums a ++ strOfNums b := by
  apply ByteArray.ext
  simp [strOfNums, ByteArray.data_append]
theorem rdI (xs : List Int) (i : Nat) (h : i < xs.length) : rd xs (i : Int) = xs[i] := rdT xs 0 i h
theorem SignText_loop (l : List Int) (hl : l.length ≤ 1048576) : ∀ (d j : Nat) (acc : List Int), l.length - j = d → j ≤ l.length → acc.length ≤ 4 * j →
    ∃ t : ByteArray, Ev (fun k => spec_SignText.l0 k l acc j) t ∧ Ev (fun k => impl_SignText.l0 k l (strOfNums acc) j) t ∧ t.size ≤ 4 * l.length := by
  intro d
  induction d with
  | zero =>
    intro j acc hd hj hacc
    refine ⟨strOfNums acc, Ev.here fun k => ?_, Ev.here fun k => ?_, by rw [strOfNums_size]; omega⟩
    · simp only [spec_SignText.l0]; rw [if_neg (by omega)]
    · simp only [impl_SignText.l0]; rw [if_neg (by omega)]
  | succ d ih =>
    intro j acc hd hj hacc
    have hjl : j < l.length := by omega
    obtain ⟨t, e1, e2, h1, h2⟩ := PutSign_same l[j]
    have hbl : (bytesOf t).length = t.size := bytesOf_length t
    obtain ⟨u, eu1, eu2, hu⟩ := ih (j + 1) (acc ++ bytesOf t) (by omega) (by omega) (by rw [List.length_append, hbl]; omega)
    have hw : wrap64 ((j : Int) + 1) = ((j + 1 : Nat) : Int) := by rw [w64 (by omega) (by omega)]; rfl
    refine ⟨u, ?_, ?_, hu⟩
    · refine Ev.step (fun k => by simp only [spec_SignText.l0]; rw [if_pos (by omega), if_pos (by omega), rdI l j hjl]) ?_
      refine Ev.bind e1 (Ev.ite_pos (by omega) ?_)
      simp only [hw]; exact eu1
    · refine Ev.step (fun k => by simp only [impl_SignText.l0]; rw [if_pos (by omega), if_pos (by omega), rdI l j hjl]) ?_
      refine Ev.bind e2 (Ev.ite_pos (by rw [strOfNums_size]; omega) ?_)
      simp only [hw, show strOfNums acc ++ t = strOfNums (acc ++ bytesOf t) by rw [nums_append, nums_bytes]]; exact eu2
theorem SignText_same (l : List Int) (hl : l.length ≤ 1048576) : ∃ t : ByteArray, Ev (fun k => spec_SignText.f k l) t ∧ Ev (fun k => impl_SignText.f k l) t ∧ t.size ≤ 4 * l.length := by
  unfold spec_SignText.f impl_SignText.f
  exact SignText_loop l hl l.length 0 [] (by omega) (by omega) (by simp)
theorem Clean_same (s : ByteArray) (hs : s.size ≤ 1048576) : ∃ t : ByteArray, Ev (fun k => spec_Clean.f k s) t ∧ Ev (fun k => impl_Clean.f k s) t ∧ t.size ≤ 4 * s.size := by
  obtain ⟨l, e1, e2, hl⟩ := Signs_same s hs
  obtain ⟨t, f1, f2, ht⟩ := SignText_same l (by omega)
  exact ⟨t, Ev.bind e1 (Ev.bind f1 (Ev.now t)), Ev.bind e2 (Ev.bind f2 (Ev.now t)), by omega⟩
theorem CleanOk_same (s : ByteArray) (hs : s.size ≤ 1048576) : ∃ b : Bool, Ev (fun k => spec_CleanOk.f k s) b ∧ Ev (fun k => impl_CleanOk.f k s) b := by
  obtain ⟨t, e1, e2, _⟩ := Clean_same s hs
  exact ⟨_, Ev.bind e1 (Ev.now _), Ev.bind e2 (Ev.now _)⟩

/-! ### signs of names -/
def flI : List (Int × Int) → List Int
  | [] => []
  | p :: ps => p.1 :: p.2 :: flI ps
theorem flI_length : ∀ sp, (flI sp).length = 2 * sp.length
  | [] => rfl
  | p :: ps => by simp only [flI, List.length_cons, flI_length ps]; omega
theorem flI_get : ∀ (sp : List (Int × Int)) (j : Nat) (h : j < sp.length), (flI sp)[2 * j]? = some sp[j].1 ∧ (flI sp)[2 * j + 1]? = some sp[j].2
  | [], _, h => absurd h (by simp)
  | _ :: _, 0, _ => ⟨rfl, rfl⟩
  | p :: ps, j + 1, h => by
    have ih := flI_get ps j (by simpa using h)
    rw [show 2 * (j + 1) = 2 * j + 1 + 1 from by omega]
    exact ⟨by simpa [flI] using ih.1, by simpa [flI] using ih.2⟩
theorem rd_some (xs : List Int) (i : Nat) (v : Int) (h : xs[i]? = some v) : rd xs (i : Int) = v := by
  unfold rd
  rw [Int.toNat_natCast, List.getD_eq_getElem?_getD, h]; rfl
theorem Within_loop (sp : List (Int × Int)) (a : Int) (hsp : sp.length ≤ 100) : ∀ (d j : Nat), sp.length - j = d → j ≤ sp.length →
    Ev (fun k => spec_l2Within.l0 k (flI sp) a ((2 * j : Nat) : Int)) (inSp a (sp.drop j)) := by
  intro d
  have hlen := flI_length sp
  induction d with
  | zero =>
    intro j hd hj
    rw [List.drop_eq_nil_of_le (by omega)]
    refine Ev.here fun k => ?_
    simp only [spec_l2Within.l0]
    rw [w64 (by omega) (by omega), if_neg (by omega)]; rfl
  | succ d ih =>
    intro j hd hj
    have hjl : j < sp.length := by omega
    obtain ⟨g1, g2⟩ := flI_get sp j hjl
    have ih' := ih (j + 1) (by omega) (by omega)
    have hw : wrap64 (((2 * j : Nat) : Int) + 1) = ((2 * j + 1 : Nat) : Int) := by rw [w64 (by omega) (by omega)]; rfl
    have hw2 : wrap64 (((2 * j : Nat) : Int) + 2) = ((2 * (j + 1) : Nat) : Int) := by rw [w64 (by omega) (by omega)]; omega
    have hstep : ∀ k, spec_l2Within.l0 (k + 1) (flI sp) a ((2 * j : Nat) : Int) = if sp[j].1 ≤ a ∧ a ≤ sp[j].2 then some true else spec_l2Within.l0 k (flI sp) a ((2 * (j + 1) : Nat) : Int) := by
      intro k
      simp only [spec_l2Within.l0, hw, hw2, rd_some _ _ _ g1, rd_some _ _ _ g2, l1In_eq, Option.bind_some]
      rw [if_pos (by omega), if_pos (by omega), if_pos (by omega), if_pos (by omega)]
      by_cases c : sp[j].1 ≤ a ∧ a ≤ sp[j].2
      · rw [if_pos (decide_eq_true c), if_pos c]
      · rw [if_neg (by rw [decide_eq_true_iff]; exact c), if_neg c]
    rw [inSp_drop a sp j hjl]
    by_cases c : sp[j].1 ≤ a ∧ a ≤ sp[j].2
    · rw [if_pos c]
      exact Ev.here fun k => by rw [hstep, if_pos c]
    · rw [if_neg c]
      exact Ev.step (fun k => by rw [hstep, if_neg c]) ih'
theorem Within_tells (sp : List (Int × Int)) (a : Int) (hsp : sp.length ≤ 100) : Ev (fun k => spec_l2Within.f k (flI sp) a) (inSp a sp) := by
  unfold spec_l2Within.f
  exact Within_loop sp a hsp sp.length 0 (by omega) (by omega)
theorem IsFirst_same (a : Int) : ∃ b, Ev (fun k => spec_IsFirst.f k a) b ∧ impl_IsFirst.f a = some b := by
  obtain ⟨t, ht⟩ := IsLetter_tells a
  unfold spec_IsFirst.f impl_IsFirst.f
  rw [IsLetter_same, ht]
  cases t with
  | true => exact ⟨true, Ev.opt rfl (Ev.ite_pos rfl (Ev.now _)), rfl⟩
  | false =>
    by_cases c : a = 95
    · subst c; exact ⟨true, Ev.opt rfl (Ev.ite_neg (by decide) (Ev.ite_pos rfl (Ev.now _))), rfl⟩
    · refine ⟨inSp a spansFirst, Ev.opt rfl (Ev.ite_neg (by decide) (Ev.ite_neg c (Ev.bind (Within_tells spansFirst a (by decide)) (Ev.now _)))), ?_⟩
      simp only [Option.bind_some]
      rw [if_neg (by decide), if_neg c]
theorem IsNext_same (a : Int) : ∃ b, Ev (fun k => spec_IsNext.f k a) b ∧ impl_IsNext.f a = some b := by
  obtain ⟨t, h1, h2⟩ := IsFirst_same a
  unfold spec_IsNext.f impl_IsNext.f
  rw [h2]
  cases t with
  | true => exact ⟨true, Ev.bind h1 (Ev.ite_pos rfl (Ev.now _)), rfl⟩
  | false =>
    simp only [Option.bind_some]
    rw [if_neg (by decide)]
    by_cases c1 : a = 45
    · subst c1; exact ⟨_, Ev.bind h1 (Ev.ite_neg (by decide) (Ev.ite_pos rfl (Ev.now _))), rfl⟩
    by_cases c2 : a = 46
    · subst c2; exact ⟨_, Ev.bind h1 (Ev.ite_neg (by decide) (Ev.ite_neg c1 (Ev.ite_pos rfl (Ev.now _)))), rfl⟩
    by_cases c3 : a = 183
    · subst c3; exact ⟨_, Ev.bind h1 (Ev.ite_neg (by decide) (Ev.ite_neg c1 (Ev.ite_neg c2 (Ev.ite_pos rfl (Ev.now _))))), rfl⟩
    refine ⟨inSp a [(48, 57), (768, 879), (8255, 8256)], Ev.bind h1 (Ev.ite_neg (by decide) (Ev.ite_neg c1 (Ev.ite_neg c2 (Ev.ite_neg c3 (Ev.bind (Within_tells [(48, 57), (768, 879), (8255, 8256)] a (by decide)) (Ev.now _)))))), ?_⟩
    congr 1
    simp only [spansNext, inSp]
    rw [if_neg (show ¬ ((45 : Int) ≤ a ∧ a ≤ 46) by omega)]
    by_cases c4 : (48 : Int) ≤ a ∧ a ≤ 57
    · rw [if_pos c4, if_pos c4]
    · rw [if_neg c4, if_neg c4, if_neg (show ¬ ((183 : Int) ≤ a ∧ a ≤ 183) by omega)]
end Go.Proofs.Ytjkhalcdigneoaa.Sg
