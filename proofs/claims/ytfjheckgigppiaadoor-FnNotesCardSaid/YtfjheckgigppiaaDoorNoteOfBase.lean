/- The program's NoteOf (strings.ReplaceAll, then a builder) and the reference's (one pass) tell the same. No conditions but the size. -/
import Derived.Test.YtfjheckgigppiaaDoorTextOfBase
import Derived.Test.YtfjheckgigppiaaDoorReplBase
import Derived.Test.YtfjheckgigppiaaDoorFindBase
import Derived.Test.YtfjheckgigppiaaDoorPn15
import Derived.Test.YtfjheckgigppiaaDoorPn2
set_option linter.unusedVariables false
set_option linter.unusedSimpArgs false
namespace Go.Proofs.YtfjheckgigppiaaDoor.Sg
open Go Go.RowKit Go.Proofs.YtfjheckgigppiaaDoor.P Go.Proofs.YtfjheckgigppiaaDoor.Evs Go.Proofs.YtfjheckgigppiaaDoor.Esc Go.Proofs.YtfjheckgigppiaaDoorW.PrintWords Go.Proofs.YtfjheckgigppiaaDoorW.PrintLast

def cr (b : UInt8) : UInt8 := if b = 13 then 10 else b
def crs (t : ByteArray) : ByteArray := ⟨(t.data.toList.map cr).toArray⟩
theorem repl_cr (t : ByteArray) (h : t.size ≤ 100000000) : repl t (⟨#[13]⟩ : ByteArray) (⟨#[10]⟩ : ByteArray) = some (crs t) := by
 unfold repl replB
 rw [if_pos h]
 show some (⟨(Lib.replaceAll t.data.toList [13] [10]).toArray⟩ : ByteArray) = _
 rw [replaceAll_one, one_map]
 rfl
theorem crs_size (t : ByteArray) : (crs t).size = t.size := by
 show (t.data.toList.map cr).length = t.data.toList.length
 rw [List.length_map]
theorem crs_bt (t : ByteArray) (j : Nat) (h : j < t.size) : bt (crs t) (j : Int) = if bt t (j : Int) = 13 then 10 else bt t (j : Int) := by
 have h1 : j < t.data.toList.length := h
 have h2 : j < (crs t).data.toList.length := by show j < (t.data.toList.map cr).length; rw [List.length_map]; exact h1
 rw [bt_list t j h1, bt_list (crs t) j h2]
 have e : (crs t).data.toList[j] = cr (t.data.toList[j]) := by
  show (t.data.toList.map cr)[j]'(by rw [List.length_map]; exact h1) = _
  rw [List.getElem_map]
 rw [e]
 unfold cr
 by_cases c : t.data.toList[j] = 13
 ·rw [if_pos c, if_pos (by rw [c]; rfl)]; rfl
 ·rw [if_neg c, if_neg (show ¬ (((t.data.toList[j]).toNat : Int) = 13) from fun e => c (UInt8.toNat_inj.mp (Int.ofNat_inj.mp (show (((t.data.toList[j]).toNat : Nat) : Int) = (((13 : UInt8).toNat : Nat) : Int) from e))))]
theorem NoteOf_loop (t : ByteArray) (ht : t.size ≤ 4194304) : ∀ (d j : Nat) (x : List Int), t.size - j = d → j ≤ t.size → x.length ≤ 2 * j →
  ∃ r : ByteArray, Ev (fun k => spec_NoteOf.l0 k t x j) r ∧ Ev (fun k => impl_NoteOf.l0 k (crs t) (strOfNums x) j) r := by
 intro d
 induction d with
 | zero =>
  intro j x hd hj hx
  refine ⟨strOfNums x, Ev.here fun k => ?_, Ev.here fun k => ?_⟩
  ·simp only [spec_NoteOf.l0]; rw [if_neg (by omega)]
  ·simp only [impl_NoteOf.l0, crs_size]; rw [if_neg (by omega)]
 | succ d ih =>
  intro j x hd hj hx
  have hjl : j < t.size := by omega
  have hA : (j : Int) < (t.size : Int) := Int.ofNat_lt.mpr hjl
  have hB : (0 : Int) ≤ (j : Int) := Int.natCast_nonneg j
  have hw : wrap64 ((j : Int) + 1) = ((j + 1 : Nat) : Int) := by rw [w64 (by omega) (by omega)]; rfl
  have hB1 : (0 : Int) ≤ ((j + 1 : Nat) : Int) := Int.natCast_nonneg _
  have hx1 : x.length < 140737488355328 := by omega
  have hsz : (strOfNums x).size = x.length := strOfNums_size x
  have hS : (strOfNums x).size + 2 ≤ 140737488355328 := by omega
  have hb := crs_bt t j hjl
  have next : ∀ y : List Int, y.length ≤ 2 * (j + 1) → ∃ r : ByteArray, Ev (fun k => spec_NoteOf.l0 k t y ((j + 1 : Nat) : Int)) r ∧ Ev (fun k => impl_NoteOf.l0 k (crs t) (strOfNums y) ((j + 1 : Nat) : Int)) r := fun y hy => ih (j + 1) y (by omega) (by omega) hy
  have himpl : ∀ k, impl_NoteOf.l0 (k + 1) (crs t) (strOfNums x) j = (if bt (crs t) (j : Int) = 45 then (if ((j + 1 : Nat) : Int) = (t.size : Int) then impl_NoteOf.l0 k (crs t) (strOfNums x ++ (⟨#[45, 32]⟩ : ByteArray)) ((j + 1 : Nat) : Int) else (if ((j + 1 : Nat) : Int) < (t.size : Int) then (if bt (crs t) ((j + 1 : Nat) : Int) = 45 then impl_NoteOf.l0 k (crs t) (strOfNums x ++ (⟨#[45, 32]⟩ : ByteArray)) ((j + 1 : Nat) : Int) else impl_NoteOf.l0 k (crs t) (strOfNums x ++ (⟨#[45]⟩ : ByteArray)) ((j + 1 : Nat) : Int)) else none)) else impl_NoteOf.l0 k (crs t) (strOfNums x ++ (⟨#[UInt8.ofNat (bt (crs t) (j : Int)).toNat]⟩ : ByteArray)) ((j + 1 : Nat) : Int)) := fun k => by
   simp only [impl_NoteOf.l0, crs_size, hw]
   rw [if_pos hA, if_pos hB, if_pos hS]
   simp only [if_pos hB1]
  by_cases c13 : bt t (j : Int) = 13
  ·rw [if_pos c13] at hb
   obtain ⟨r, e1, e2⟩ := next (x ++ [10]) (by rw [List.length_append, List.length_singleton]; omega)
   have hap : strOfNums (x ++ [10]) = strOfNums x ++ (⟨#[UInt8.ofNat (10 : Int).toNat]⟩ : ByteArray) := by rw [nums_append]; rfl
   refine ⟨r, Ev.step (fun k => ?_) e1, Ev.step (fun k => ?_) e2⟩
   ·simp only [spec_NoteOf.l0, hw]; rw [if_pos hA, if_pos hB, if_pos c13, if_pos hx1]
   ·rw [himpl, hb, if_neg (by decide), hap]
  ·rw [if_neg c13] at hb
   have hspec : ∀ k, spec_NoteOf.l0 (k + 1) t x j = (if bt t (j : Int) = 45 then (if ((j + 1 : Nat) : Int) = (t.size : Int) then (if (x ++ [bt t (j : Int)]).length < 140737488355328 then spec_NoteOf.l0 k t (x ++ [bt t (j : Int)] ++ [32]) ((j + 1 : Nat) : Int) else none) else (if ((j + 1 : Nat) : Int) < (t.size : Int) then (if bt t ((j + 1 : Nat) : Int) = 45 then (if (x ++ [bt t (j : Int)]).length < 140737488355328 then spec_NoteOf.l0 k t (x ++ [bt t (j : Int)] ++ [32]) ((j + 1 : Nat) : Int) else none) else spec_NoteOf.l0 k t (x ++ [bt t (j : Int)]) ((j + 1 : Nat) : Int)) else none)) else spec_NoteOf.l0 k t (x ++ [bt t (j : Int)]) ((j + 1 : Nat) : Int)) := fun k => by
    simp only [spec_NoteOf.l0, hw, Option.bind_some]
    rw [if_pos hA, if_pos hB, if_neg c13, if_pos hx1]
    simp only [if_pos hB1]
   have hlen : (x ++ [bt t (j : Int)]).length < 140737488355328 := by rw [List.length_append, List.length_singleton]; omega
   by_cases c45 : bt t (j : Int) = 45
   ·have hap1 : strOfNums (x ++ [bt t (j : Int)] ++ [32]) = strOfNums x ++ (⟨#[45, 32]⟩ : ByteArray) := by rw [c45, List.append_assoc, nums_append]; rfl
    have hap2 : strOfNums (x ++ [bt t (j : Int)]) = strOfNums x ++ (⟨#[45]⟩ : ByteArray) := by rw [c45, nums_append]; rfl
    have c45' : bt (crs t) (j : Int) = 45 := by rw [hb]; exact c45
    obtain ⟨r, e1, e2⟩ := next (x ++ [bt t (j : Int)] ++ [32]) (by rw [List.length_append, List.length_append, List.length_singleton, List.length_singleton]; omega)
    by_cases ce : ((j + 1 : Nat) : Int) = (t.size : Int)
    ·exact ⟨r, Ev.step (fun k => by rw [hspec, if_pos c45, if_pos ce, if_pos hlen]) e1, Ev.step (fun k => by rw [himpl, if_pos c45', if_pos ce, hap1]) e2⟩
    ·have cl : j + 1 < t.size := by omega
     have hC : ((j + 1 : Nat) : Int) < (t.size : Int) := Int.ofNat_lt.mpr cl
     have hn := crs_bt t (j + 1) cl
     by_cases cn : bt t ((j + 1 : Nat) : Int) = 45
     ·have cn' : bt (crs t) ((j + 1 : Nat) : Int) = 45 := by rw [hn, cn]; rfl
      exact ⟨r, Ev.step (fun k => by rw [hspec, if_pos c45, if_neg ce, if_pos hC, if_pos cn, if_pos hlen]) e1, Ev.step (fun k => by rw [himpl, if_pos c45', if_neg ce, if_pos hC, if_pos cn', hap1]) e2⟩
     ·have cn' : ¬ bt (crs t) ((j + 1 : Nat) : Int) = 45 := by
       rw [hn]
       by_cases q : bt t ((j + 1 : Nat) : Int) = 13
       ·rw [if_pos q]; decide
       ·rw [if_neg q]; exact cn
      obtain ⟨r', f1, f2⟩ := next (x ++ [bt t (j : Int)]) (by rw [List.length_append, List.length_singleton]; omega)
      exact ⟨r', Ev.step (fun k => by rw [hspec, if_pos c45, if_neg ce, if_pos hC, if_neg cn]) f1, Ev.step (fun k => by rw [himpl, if_pos c45', if_neg ce, if_pos hC, if_neg cn', hap2]) f2⟩
   ·have c45' : ¬ bt (crs t) (j : Int) = 45 := by rw [hb]; exact c45
    have hap : strOfNums (x ++ [bt t (j : Int)]) = strOfNums x ++ (⟨#[UInt8.ofNat (bt (crs t) (j : Int)).toNat]⟩ : ByteArray) := by rw [hb, nums_append]; rfl
    obtain ⟨r, e1, e2⟩ := next (x ++ [bt t (j : Int)]) (by rw [List.length_append, List.length_singleton]; omega)
    exact ⟨r, Ev.step (fun k => by rw [hspec, if_neg c45]) e1, Ev.step (fun k => by rw [himpl, if_neg c45', hap]) e2⟩
theorem NoteOf_same (s : ByteArray) (hs : s.size ≤ 1048576) : ∃ r : ByteArray, Ev (fun k => spec_NoteOf.f k s) r ∧ Ev (fun k => impl_NoteOf.f k s) r := by
 obtain ⟨t, t1, t2, ht⟩ := TextOf_same s hs
 obtain ⟨r, e1, e2⟩ := NoteOf_loop t (by omega) t.size 0 [] (by omega) (by omega) (by simp)
 unfold spec_NoteOf.f impl_NoteOf.f
 exact ⟨r, Ev.bind t1 e1, Ev.bind t2 (Ev.opt (repl_cr t (by omega)) e2)⟩
end Go.Proofs.YtfjheckgigppiaaDoor.Sg
