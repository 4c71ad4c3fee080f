/- Marks: the laws' own code writes texts that count up into a row of attributes: it ends. No conditions but the sizes. -/
import Derived.Test.YtgljgbkbjlondaaLoopBase
import Derived.Test.YtgljgbkbjlondaaPb6
set_option linter.unusedVariables false
set_option linter.unusedSimpArgs false
namespace Go.Proofs.Ytgljgbkbjlondaa.Mk
open Go.RowKit Go.Proofs.Ytgljgbkbjlondaa.P Go.Proofs.Ytgljgbkbjlondaa.Evs Go.Proofs.YtgljgbkbjlondaaW.PrintWords Go.Proofs.YtgljgbkbjlondaaW.PrintLast

theorem markText_loop : ∀ (n : Nat) (acc : ByteArray), acc.size + n ≤ 1152921504606846976 → ∃ t : ByteArray, Ev (fun k => laws_markText.l0 k n acc) t := by
 intro n
 induction n using Nat.strongRecOn with
 | _ n ih =>
  intro acc hn
  by_cases c : n = 0
  ·subst c
   refine ⟨(⟨#[109]⟩ : ByteArray) ++ acc, Ev.here fun k => ?_⟩
   simp only [laws_markText.l0]
   rw [if_neg (by omega), if_pos (by omega)]
  ·have hd : wrap64 (Int.tdiv (n : Int) 10) = ((n / 10 : Nat) : Int) := by
    rw [Int.tdiv_eq_ediv_of_nonneg (Int.natCast_nonneg n), w64 (by omega) (by omega)]
    omega
   obtain ⟨t, e⟩ := ih (n / 10) (by omega) (strOfNums [(wrap64 (48 + (Int.tmod (n : Int) 10))) % 256] ++ acc) (by rw [ByteArray.size_append, strOfNums_size]; show 1 + acc.size + n / 10 ≤ _; omega)
   refine ⟨t, Ev.step (fun k => ?_) e⟩
   simp only [laws_markText.l0, Option.bind_some, hd]
   rw [if_pos (by omega), if_pos (by rw [strOfNums_size]; show 1 + acc.size ≤ _; omega)]
theorem markText_ex (n : Nat) (hn : n ≤ 1152921504606846976) : ∃ t : ByteArray, Ev (fun k => laws_markText.f k n) t := by
 by_cases c : n = 0
 ·subst c
  refine ⟨⟨#[109, 48]⟩, Ev.const fun k => ?_⟩
  unfold laws_markText.f
  rw [if_pos (by omega)]
 ·obtain ⟨t, e⟩ := markText_loop n (⟨#[]⟩ : ByteArray) (by show 0 + n ≤ _; omega)
  refine ⟨t, ?_⟩
  unfold laws_markText.f
  exact Ev.ite_neg (by omega) e
/-- The text of a mark. -/
noncomputable def mt (n : Nat) : ByteArray := if h : n ≤ 1152921504606846976 then Classical.choose (markText_ex n h) else ByteArray.empty
theorem mt_tells (n : Nat) (hn : n ≤ 1152921504606846976) : Ev (fun k => laws_markText.f k n) (mt n) := by
 unfold mt
 rw [dif_pos hn]
 exact Classical.choose_spec (markText_ex n hn)
/-- The marked attributes. -/
noncomputable def ma (k0 i : Nat) : S71 := ⟨mt (k0 + 2 * i), mt (k0 + 2 * i + 1)⟩
noncomputable def mas (k0 n : Nat) : List S71 := (List.range n).map (ma k0)
theorem mas_length (k0 n : Nat) : (mas k0 n).length = n := by simp [mas]
theorem mas_get (k0 n i : Nat) (h : i < (mas k0 n).length) : (mas k0 n)[i] = ma k0 i := by simp [mas]
theorem markAttrS_loop (l : List S71) (k0 : Nat) (hl : l.length ≤ 1048576) (hk : k0 ≤ 1152921504600000000) : ∀ (d j : Nat), l.length - j = d → j ≤ l.length →
  Ev (fun k => laws_markAttrS.l0 k (mas k0 j ++ l.drop j) ((k0 + 2 * j : Nat) : Int) j) (((k0 + 2 * l.length : Nat) : Int), mas k0 l.length) := by
 intro d
 induction d with
 | zero =>
  intro j hd hj
  obtain rfl : j = l.length := by omega
  rw [List.drop_length, List.append_nil]
  refine Ev.here fun k => ?_
  simp only [laws_markAttrS.l0]
  rw [if_neg (by rw [mas_length]; omega)]
 | succ d ih =>
  intro j hd hj
  have hjl : j < l.length := by omega
  have hlen : (mas k0 j ++ l.drop j).length = l.length := by rw [List.length_append, mas_length, List.length_drop]; omega
  have t1 := mt_tells (k0 + 2 * j) (by omega)
  have t2 := mt_tells (k0 + 2 * j + 1) (by omega)
  have w1 : wrap64 (((k0 + 2 * j : Nat) : Int) + 1) = ((k0 + 2 * j + 1 : Nat) : Int) := succ64 (by omega)
  have w2 : wrap64 (((k0 + 2 * j + 1 : Nat) : Int) + 1) = ((k0 + 2 * (j + 1) : Nat) : Int) := succ64 (by omega)
  have hset : ∀ (x y : S71), ((mas k0 j ++ l.drop j).set j x).set j y = (mas k0 j ++ l.drop j).set j y := fun x y => List.set_set ..
  have hst : (mas k0 j ++ l.drop j).set j (ma k0 j) = mas k0 (j + 1) ++ l.drop (j + 1) := by
   rw [List.set_append_right _ _ (by rw [mas_length]; exact Nat.le_refl _), mas_length, Nat.sub_self, List.drop_eq_getElem_cons hjl, List.set_cons_zero]
   simp [mas, List.range_succ]
  have hrd : ∀ x : S71, rd_T71 ((mas k0 j ++ l.drop j).set j x) (j : Int) = x := fun x => by
   rw [show rd_T71 ((mas k0 j ++ l.drop j).set j x) (j : Int) = ((mas k0 j ++ l.drop j).set j x)[j]'(by rw [List.length_set]; omega) from rdT _ _ j (by rw [List.length_set]; omega)]
   exact List.getElem_set_self _
  refine Ev.step (f := fun k => (laws_markText.f k ((k0 + 2 * j : Nat) : Int)).bind fun t267 => ((laws_markText.f k ((k0 + 2 * j + 1 : Nat) : Int)).bind fun t269 => (laws_markAttrS.l0 k ((mas k0 j ++ l.drop j).set j (⟨t267, t269⟩ : S71)) ((k0 + 2 * (j + 1) : Nat) : Int) ((j + 1 : Nat) : Int)))) (fun k => ?_) (Ev.bind t1 (Ev.bind t2 ?_))
  ·simp only [laws_markAttrS.l0, w1, w2, succ64 (show j < 9223372036854775807 by omega), Int.toNat_natCast, Option.bind_some, hset, hrd]
   rw [if_pos (by rw [hlen]; omega)]
   have hz : (0 : Int) ≤ (j : Int) := Int.natCast_nonneg j
   simp only [if_pos hz]
  ·rw [show (⟨mt (k0 + 2 * j), mt (k0 + 2 * j + 1)⟩ : S71) = ma k0 j from rfl, hst]
   exact ih (j + 1) (by omega) (by omega)
theorem markAttrS_tells (l : List S71) (k0 : Nat) (hl : l.length ≤ 1048576) (hk : k0 ≤ 1152921504600000000) : Ev (fun k => laws_markAttrS.f k l k0) (((k0 + 2 * l.length : Nat) : Int), mas k0 l.length) := by
 have h := markAttrS_loop l k0 hl hk l.length 0 (by omega) (by omega)
 rw [List.drop_zero] at h
 exact h
end Go.Proofs.Ytgljgbkbjlondaa.Mk
