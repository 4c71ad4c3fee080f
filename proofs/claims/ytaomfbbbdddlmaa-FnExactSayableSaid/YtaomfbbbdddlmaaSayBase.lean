/- What may be said of a tree: notes, kinds, names that are raw: the program's tests and the reference's tell the same. No conditions but the size. -/
import Derived.Test.YtaomfbbbdddlmaaCleanBase
import Derived.Test.YtaomfbbbdddlmaaStandBase
import Derived.Test.YtaomfbbbdddlmaaOneOf
import Derived.Test.YtaomfbbbdddlmaaQs10
import Derived.Test.YtaomfbbbdddlmaaQs11
import Derived.Test.YtaomfbbbdddlmaaQs12
import Derived.Test.YtaomfbbbdddlmaaQs20
import Derived.Test.YtaomfbbbdddlmaaQs21
import Derived.Test.YtaomfbbbdddlmaaQs22
import Derived.Test.YtaomfbbbdddlmaaQs23
import Derived.Test.YtaomfbbbdddlmaaQs31
import Derived.Test.YtaomfbbbdddlmaaQs8
import Derived.Test.YtaomfbbbdddlmaaQs9
set_option linter.unusedVariables false
set_option linter.unusedSimpArgs false
namespace Go.Proofs.Ytaomfbbbdddlmaa.Sg
open Go Go.RowKit Go.Proofs.Ytaomfbbbdddlmaa.P Go.Proofs.Ytaomfbbbdddlmaa.Evs Go.Proofs.YtaomfbbbdddlmaaW.PrintWords Go.Proofs.YtaomfbbbdddlmaaW.PrintLast

theorem contains_f (a b : ByteArray) (h : a.size ≤ 100000000) : strings_Contains.f a b = some (Lib.contains a.data.toList b.data.toList) := by
 unfold strings_Contains.f; rw [if_pos h]
theorem toList_data (a : ByteArray) : a.toList = a.data.toList := ByteArray.toList_eq a
/-- The program's test by one row of names. -/
theorem isOneOf_tells (a names : ByteArray) (ws : List (List UInt8)) (ha : a.size ≤ 1048576) (hn : names.size ≤ 1048576) (he : names.data.toList ++ [32] = Oo.rows ws) (hw : ∀ w, w ∈ ws → (32 : UInt8) ∉ w) (h0 : [] ∉ ws) :
  impl_isOneOf.f a names = some (ws.any (a.toList == ·)) := by
 unfold impl_isOneOf.f
 rw [contains_f a _ (by omega)]
 by_cases c : a.toList = []
 ·rw [if_pos c, c]
  have : ws.any (([] : List UInt8) == ·) = false := by
   rw [List.any_eq_false]
   intro w hw' q
   have e : [] = w := by simpa using q
   exact h0 (by rw [e]; exact hw')
  rw [this]
 rw [if_neg c, toList_data]
 have hne : a.data.toList ≠ [] := by rw [← toList_data]; exact c
 have h := Oo.is_one_of a.data.toList ws hw hne
 rw [← h]
 simp only [Option.bind_some]
 have s1 : ((⟨#[32]⟩ : ByteArray) ++ names).size = 1 + names.size := by rw [ByteArray.size_append]; rfl
 have s2 : ((⟨#[32]⟩ : ByteArray) ++ a).size = 1 + a.size := by rw [ByteArray.size_append]; rfl
 cases Lib.contains a.data.toList [32] with
 | true => rw [if_pos rfl]; rfl
 | false =>
  rw [if_neg Bool.false_ne_true, if_pos (by omega), if_pos (by omega), if_pos (by omega), if_pos (by omega), contains_f _ _ (by rw [ByteArray.size_append, s1]; show 1 + names.size + 1 ≤ _; omega)]
  simp only [Option.bind_some]
  have e1 : (((⟨#[32]⟩ : ByteArray) ++ names) ++ (⟨#[32]⟩ : ByteArray)).data.toList = 32 :: Oo.rows ws := by
   rw [← he]; simp [ByteArray.data_append]
  have e2 : (((⟨#[32]⟩ : ByteArray) ++ a) ++ (⟨#[32]⟩ : ByteArray)).data.toList = 32 :: (a.data.toList ++ [32]) := by
   simp [ByteArray.data_append]
  rw [e1, e2]; rfl
theorem Raw_same (a : ByteArray) (ha : a.size ≤ 1048576) : impl_Raw.f a = spec_Raw.f a := by
 unfold impl_Raw.f spec_Raw.f
 rw [isOneOf_tells a _ [[115, 99, 114, 105, 112, 116], [115, 116, 121, 108, 101], [116, 105, 116, 108, 101], [116, 101, 120, 116, 97, 114, 101, 97]] ha (by decide) (by decide) (by decide) (by decide)]
 simp only [Option.bind_some, List.any_cons, List.any_nil, Bool.or_false]
 by_cases c1 : a.toList = [115, 99, 114, 105, 112, 116]
 ·rw [if_pos c1, c1]; rfl
 rw [if_neg c1, show (a.toList == [115, 99, 114, 105, 112, 116]) = false from beq_eq_false_iff_ne.mpr c1, Bool.false_or]
 by_cases c2 : a.toList = [115, 116, 121, 108, 101]
 ·rw [if_pos c2, c2]; rfl
 rw [if_neg c2, show (a.toList == [115, 116, 121, 108, 101]) = false from beq_eq_false_iff_ne.mpr c2, Bool.false_or]
 by_cases c3 : a.toList = [116, 105, 116, 108, 101]
 ·rw [if_pos c3, c3]; rfl
 rw [if_neg c3, show (a.toList == [116, 105, 116, 108, 101]) = false from beq_eq_false_iff_ne.mpr c3, Bool.false_or]

/-! ### plain texts -/
theorem Find_all (s : ByteArray) (c : UInt8) (hs : s.size ≤ 1048576) : ∃ r : Int, Ev (fun k => spec_l4Find.f k s 0 (c.toNat : Int)) r ∧ Lib.contains s.data.toList [c] = decide (¬ r < 0) := by
 obtain ⟨r, e, h⟩ := Find_some s c hs s.size 0 (by omega) (by omega)
 rw [List.drop_zero] at h
 exact ⟨r, e, by rw [contains_one, decide_eq_decide, h, Classical.not_not]⟩
theorem Line_same (s : ByteArray) (hs : s.size ≤ 1048576) : ∃ b : Bool, Ev (fun k => spec_l5Line.f k s) b ∧ Ev (fun k => impl_plainText.f k s) b := by
 obtain ⟨t, t1, t2⟩ := CleanOk_same s hs
 obtain ⟨r, e, h⟩ := Find_all s 13 hs
 have hc : strings_Contains.f s (⟨#[13]⟩ : ByteArray) = some (decide (¬ r < 0)) := (contains_f s _ (by omega)).trans (congrArg some h)
 unfold spec_l5Line.f impl_plainText.f
 rw [hc]
 cases t with
 | false => exact ⟨false, Ev.bind t1 (Ev.ite_neg Bool.false_ne_true (Ev.now _)), Ev.bind t2 (Ev.ite_neg Bool.false_ne_true (Ev.now _))⟩
 | true =>
  refine ⟨decide (r < 0), Ev.bind t1 (Ev.ite_pos rfl (Ev.bind (a := r) e (Ev.now _))), Ev.bind t2 (Ev.ite_pos rfl (Ev.const fun _ => ?_))⟩
  by_cases c : r < 0
  ·simp [c]
  ·simp [c]
theorem Note_same (s : ByteArray) (hs : s.size ≤ 1048576) : ∃ b : Bool, Ev (fun k => spec_l5Token.f k 4 (⟨#[]⟩ : ByteArray) [] s false) b ∧ Ev (fun k => impl_noteOk.f k s) b := by
 obtain ⟨t, t1, t2⟩ := Line_same s hs
 obtain ⟨r, e, h⟩ := Search_some s (⟨#[45, 45, 62]⟩ : ByteArray) hs (by decide) (s.size + 1) 0 (by omega) (by omega)
 replace e : Ev (fun k => spec_l5Search.f k s 0 (⟨#[45, 45, 62]⟩ : ByteArray)) r := e
 have hc : strings_Contains.f s (⟨#[45, 45, 62]⟩ : ByteArray) = some (decide (¬ r < 0)) := by
  rw [contains_f s _ (by omega)]
  have h2 := contains_tells s (⟨#[45, 45, 62]⟩ : ByteArray)
  rw [← h] at h2
  by_cases c : r < 0
  ·rw [h2.mpr c, decide_eq_false (fun q => q c)]
  ·cases q : Lib.contains s.data.toList (⟨#[45, 45, 62]⟩ : ByteArray).data.toList with
   | false => exact absurd (h2.mp q) c
   | true => rw [decide_eq_true c]
 have p1 := Stands_all s (⟨#[62]⟩ : ByteArray) 0 hs (by decide) (Nat.zero_le _)
 have p2 := Stands_all s (⟨#[45, 62]⟩ : ByteArray) 0 hs (by decide) (Nat.zero_le _)
 have g1 : strings_HasPrefix.f s (⟨#[62]⟩ : ByteArray) = spec_l5Stands.f s 0 (⟨#[62]⟩ : ByteArray) := by
  unfold strings_HasPrefix.f
  rw [Prefix_all, show spec_l5Stands.f s 0 (⟨#[62]⟩ : ByteArray) = _ from p1]
  simp only [Option.bind_some, Nat.zero_add]
 have g2 : strings_HasPrefix.f s (⟨#[45, 62]⟩ : ByteArray) = spec_l5Stands.f s 0 (⟨#[45, 62]⟩ : ByteArray) := by
  unfold strings_HasPrefix.f
  rw [Prefix_all, show spec_l5Stands.f s 0 (⟨#[45, 62]⟩ : ByteArray) = _ from p2]
  simp only [Option.bind_some, Nat.zero_add]
 unfold impl_noteOk.f
 rw [hc, g1, g2]
 have h0 : (⟨#[]⟩ : ByteArray).toList = ([] : List UInt8) := toList_data _
 have hf : ∀ (t : Bool) (r : Bool), Ev (fun k => spec_l5Line.f k s) t → Ev (fun k => if t = true then ((spec_l5Search.f k s 0 (⟨#[45, 45, 62]⟩ : ByteArray)).bind fun t265 => (if t265 < 0 then ((spec_l5Stands.f s 0 (⟨#[62]⟩ : ByteArray)).bind fun t266 => (if t266 = true then (some false) else ((spec_l5Stands.f s 0 (⟨#[45, 62]⟩ : ByteArray)).bind fun t267 => (some (!t267))))) else (some false))) else (some false)) r → Ev (fun k => spec_l5Token.f k 4 (⟨#[]⟩ : ByteArray) [] s false) r := fun t r ht hr => by
  unfold spec_l5Token.f
  refine Ev.ite_neg (by decide) (Ev.ite_neg (by decide) (Ev.ite_neg (by decide) (Ev.bind ht ?_)))
  cases t with
  | false => exact hr
  | true => exact Ev.ite_pos rfl (Ev.ite_neg (by decide) (Ev.ite_neg (by decide) (Ev.ite_pos rfl (Ev.ite_pos h0 hr))))
 have tail : ∃ b : Bool, ((spec_l5Stands.f s 0 (⟨#[62]⟩ : ByteArray)).bind fun t286 => (if t286 = true then (some false) else ((spec_l5Stands.f s 0 (⟨#[45, 62]⟩ : ByteArray)).bind fun t287 => (some (!t287))))) = some b := by
  rw [show spec_l5Stands.f s 0 (⟨#[62]⟩ : ByteArray) = _ from p1, show spec_l5Stands.f s 0 (⟨#[45, 62]⟩ : ByteArray) = _ from p2]
  simp only [Option.bind_some]
  split
  ·exact ⟨_, rfl⟩
  ·exact ⟨_, rfl⟩
 obtain ⟨b, hb⟩ := tail
 cases t with
 | false => exact ⟨false, hf false false t1 (Ev.now _), Ev.bind t2 (Ev.ite_neg Bool.false_ne_true (Ev.now _))⟩
 | true =>
  by_cases c : r < 0
  ·rw [decide_eq_false (fun q => q c)]
   exact ⟨b, hf true b t1 (Ev.ite_pos rfl (Ev.bind e (Ev.ite_pos c (Ev.const fun _ => hb)))), Ev.bind t2 (Ev.ite_pos rfl (Ev.const fun _ => by simp only [Option.bind_some]; rw [if_neg Bool.false_ne_true]; exact hb))⟩
  ·rw [decide_eq_true c]
   exact ⟨false, hf true false t1 (Ev.ite_pos rfl (Ev.bind e (Ev.ite_neg c (Ev.now _)))), Ev.bind t2 (Ev.ite_pos rfl (Ev.const fun _ => rfl))⟩
/-! ### kinds of a page -/
theorem Blank_some (b : Int) : ∃ q, spec_l4Blank.f b = some q := by
 unfold spec_l4Blank.f spec_IsBlank.f
 by_cases c1 : wrap64 b = 9
 ·exact ⟨true, by rw [if_pos c1]; rfl⟩
 by_cases c2 : wrap64 b = 10
 ·exact ⟨true, by rw [if_neg c1, if_pos c2]; rfl⟩
 by_cases c3 : wrap64 b = 12
 ·exact ⟨true, by rw [if_neg c1, if_neg c2, if_pos c3]; rfl⟩
 by_cases c4 : wrap64 b = 13
 ·exact ⟨true, by rw [if_neg c1, if_neg c2, if_neg c3, if_pos c4]; rfl⟩
 ·exact ⟨_, by rw [if_neg c1, if_neg c2, if_neg c3, if_neg c4]; rfl⟩
theorem Blanks_loop (s : ByteArray) (hs : s.size ≤ 1048576) : ∀ (d j : Nat), s.size - j = d → j ≤ s.size → ∃ r : Int, Ev (fun k => spec_l4Blanks.l0 k s j) r ∧ (j : Int) ≤ r := by
 intro d
 induction d with
 | zero =>
  intro j hd hj
  exact ⟨j, Ev.here fun k => by simp only [spec_l4Blanks.l0]; rw [if_neg (by omega)], Int.le_refl _⟩
 | succ d ih =>
  intro j hd hj
  have hw : wrap64 ((j : Int) + 1) = ((j + 1 : Nat) : Int) := by rw [w64 (by omega) (by omega)]; rfl
  obtain ⟨q, hq⟩ := Blank_some (bt s (j : Int))
  obtain ⟨r, e, hr⟩ := ih (j + 1) (by omega) (by omega)
  cases q with
  | false => exact ⟨j, Ev.here fun k => by simp only [spec_l4Blanks.l0, hq, Option.bind_some]; rw [if_pos (by omega), if_pos (by omega), if_neg Bool.false_ne_true], Int.le_refl _⟩
  | true => exact ⟨r, Ev.step (fun k => by simp only [spec_l4Blanks.l0, hq, Option.bind_some, hw]; rw [if_pos (by omega), if_pos (by omega), if_pos True.intro]) e, by omega⟩
theorem Kind_same (s : ByteArray) (hs : s.size ≤ 1048576) : ∃ b : Bool, Ev (fun k => spec_l5Token.f k 5 (⟨#[]⟩ : ByteArray) [] s false) b ∧ Ev (fun k => impl_kindOk.f k s) b := by
 obtain ⟨t, t1, t2⟩ := Line_same s hs
 obtain ⟨r, e, h⟩ := Find_all s 62 hs
 have hc : strings_Contains.f s (⟨#[62]⟩ : ByteArray) = some (decide (¬ r < 0)) := (contains_f s _ (by omega)).trans (congrArg some h)
 have h0 : (⟨#[]⟩ : ByteArray).toList = ([] : List UInt8) := toList_data _
 have hS : spec_Small.f s = some (lowS s) := by unfold spec_Small.f; rw [if_pos (by omega)]
 have hI : impl_Small.f s = some (lowS s) := by unfold impl_Small.f; rw [if_pos (by omega)]
 have hf : ∀ r, Ev (fun k => if t = true then ((spec_Small.f s).bind fun t268 => (if t268.toList = s.toList then ((spec_l4Find.f k s 0 62).bind fun t269 => (if t269 < 0 then ((spec_l4Blanks.f k s 0).bind fun t270 => (some (t270 == 0))) else (some false))) else (some false))) else (some false)) r → Ev (fun k => spec_l5Token.f k 5 (⟨#[]⟩ : ByteArray) [] s false) r := fun r hr => by
  unfold spec_l5Token.f
  refine Ev.ite_neg (by decide) (Ev.ite_neg (by decide) (Ev.ite_neg (by decide) (Ev.bind t1 ?_)))
  cases t with
  | false => exact hr
  | true => exact Ev.ite_pos rfl (Ev.ite_neg (by decide) (Ev.ite_neg (by decide) (Ev.ite_neg (by decide) (Ev.ite_pos rfl (Ev.ite_pos h0 hr)))))
 unfold impl_kindOk.f
 rw [hI, hc]
 rw [hS] at hf
 cases t with
 | false => exact ⟨false, hf false (Ev.now _), Ev.bind t2 (Ev.ite_neg Bool.false_ne_true (Ev.now _))⟩
 | true =>
  by_cases c1 : (lowS s).toList = s.toList
  case neg => exact ⟨false, hf false (Ev.ite_pos rfl (Ev.opt rfl (Ev.ite_neg c1 (Ev.now _)))), Ev.bind t2 (Ev.ite_pos rfl (Ev.opt rfl (Ev.ite_neg c1 (Ev.now _))))⟩
  by_cases c2 : r < 0
  case neg =>
   rw [decide_eq_true c2]
   exact ⟨false, hf false (Ev.ite_pos rfl (Ev.opt rfl (Ev.ite_pos c1 (Ev.bind e (Ev.ite_neg c2 (Ev.now _)))))), Ev.bind t2 (Ev.ite_pos rfl (Ev.opt rfl (Ev.ite_pos c1 (Ev.opt rfl (Ev.ite_pos rfl (Ev.now _))))))⟩
  rw [decide_eq_false (fun q => q c2)]
  have fin : ∀ (v : Int) (b : Bool), Ev (fun k => spec_l4Blanks.f k s 0) v → (v == 0) = b → Ev (fun k => (if s.toList = ([] : List UInt8) then (some true) else (if 0 < (s.size : Int) then ((impl_isBlankByte.f (bt s 0)).bind fun t401 => (some (!t401))) else (none)))) b → ∃ b : Bool, Ev (fun k => spec_l5Token.f k 5 (⟨#[]⟩ : ByteArray) [] s false) b ∧ Ev (fun k => (impl_plainText.f k s).bind fun t398 => (if t398 = true then ((some (lowS s)).bind fun t399 => (if t399.toList = s.toList then ((some false).bind fun t400 => (if t400 = true then (some false) else (if s.toList = ([] : List UInt8) then (some true) else (if 0 < (s.size : Int) then ((impl_isBlankByte.f (bt s 0)).bind fun t401 => (some (!t401))) else (none))))) else (some false))) else (some false))) b := fun v b hv hb hi => by
   subst hb
   exact ⟨v == 0, hf _ (Ev.ite_pos rfl (Ev.opt rfl (Ev.ite_pos c1 (Ev.bind e (Ev.ite_pos c2 (Ev.bind hv (Ev.now _))))))), Ev.bind t2 (Ev.ite_pos rfl (Ev.opt rfl (Ev.ite_pos c1 (Ev.opt rfl (Ev.ite_neg Bool.false_ne_true hi)))))⟩
  by_cases c3 : s.size = 0
  ·have hn : s.toList = [] := by rw [toList_data]; exact List.eq_nil_of_length_eq_zero c3
   refine fin 0 true ?_ rfl (Ev.ite_pos hn (Ev.now _))
   unfold spec_l4Blanks.f
   exact Ev.here fun k => by simp only [spec_l4Blanks.l0]; rw [if_neg (by omega)]
  ·have hn : ¬ s.toList = [] := by
    rw [toList_data]
    intro q
    exact c3 (by show s.data.toList.length = 0; rw [q]; rfl)
   obtain ⟨q, hq⟩ := Blank_some (bt s 0)
   have hq2 : impl_isBlankByte.f (bt s 0) = some q := hq
   have hi : Ev (fun k : Nat => (if s.toList = ([] : List UInt8) then (some true) else (if 0 < (s.size : Int) then ((impl_isBlankByte.f (bt s 0)).bind fun t401 => (some (!t401))) else (none)))) (!q) := Ev.ite_neg hn (Ev.ite_pos (by omega) (Ev.opt hq2 (Ev.now _)))
   cases q with
   | false =>
    refine fin 0 true ?_ rfl hi
    unfold spec_l4Blanks.f
    exact Ev.here fun k => by simp only [spec_l4Blanks.l0, hq, Option.bind_some]; rw [if_pos (by omega), if_pos (by omega), if_neg Bool.false_ne_true]
   | true =>
    obtain ⟨v, ev, hv⟩ := Blanks_loop s hs (s.size - 1) 1 rfl (by omega)
    refine fin v false ?_ (beq_eq_false_iff_ne.mpr (by omega)) hi
    unfold spec_l4Blanks.f
    exact Ev.step (fun k => by simp only [spec_l4Blanks.l0, hq, Option.bind_some, show wrap64 (0 + 1) = ((1 : Nat) : Int) from w64 (by omega) (by omega)]; rw [if_pos (by omega), if_pos (by omega), if_pos True.intro]) ev
theorem Small_same (s : ByteArray) : spec_Small.f s = impl_Small.f s := rfl
theorem Blank_same (b : Int) : spec_l4Blank.f b = impl_isBlankByte.f b := rfl
end Go.Proofs.Ytaomfbbbdddlmaa.Sg
