/- A note made strict is strict, one that is strict stays. No conditions but the size. -/
import Derived.Test.YtfjheckgigppiaaDoorMildBase
import Derived.Test.YtfjheckgigppiaaDoorNoteBase
import Derived.Test.YtfjheckgigppiaaDoorNoteOfBase
import Derived.Test.YtfjheckgigppiaaDoorPn15
import Derived.Test.YtfjheckgigppiaaDoorPn20
set_option linter.unusedVariables false
set_option linter.unusedSimpArgs false
namespace Go.Proofs.YtfjheckgigppiaaDoor.Sg
open Go Go.RowKit Go.Proofs.YtfjheckgigppiaaDoor.P Go.Proofs.YtfjheckgigppiaaDoor.Evs Go.Proofs.YtfjheckgigppiaaDoor.Esc Go.Proofs.YtfjheckgigppiaaDoorW.PrintWords Go.Proofs.YtfjheckgigppiaaDoorW.PrintLast

/-- A space behind each 45 that is the last, or stands before another one. -/
def ins : List Int → List Int
 | [] => []
 | n :: l => if n = 45 ∧ (l = [] ∨ l.head? = some 45) then n :: 32 :: ins l else n :: ins l
def fine : List Int → Prop
 | [] => True
 | n :: l => ¬ (n = 45 ∧ (l = [] ∨ l.head? = some 45)) ∧ fine l
def crI (n : Int) : Int := if n = 13 then 10 else n
theorem ins_head (l : List Int) : (ins l).head? = l.head? := by
 cases l with
 | nil => rfl
 | cons n l => simp only [ins]; split <;> rfl
theorem ins_nil (l : List Int) : ins l = [] ↔ l = [] := by
 cases l with
 | nil => exact Iff.rfl
 | cons n l => simp only [ins]; split <;> simp
theorem ins_fine : ∀ l : List Int, fine l → ins l = l
 | [], _ => rfl
 | n :: l, h => by
  simp only [ins]
  rw [if_neg h.1, ins_fine l h.2]
theorem fine_ins : ∀ l : List Int, fine (ins l)
 | [] => True.intro
 | n :: l => by
  simp only [ins]
  split
  ·refine ⟨?_, ?_, fine_ins l⟩
   ·rintro ⟨_, h | h⟩
    ·simp at h
    ·simp at h
   ·rintro ⟨h, _⟩; omega
  ·rename_i h
   refine ⟨?_, fine_ins l⟩
   rw [ins_nil, ins_head]
   exact h
theorem ins_mem : ∀ (l : List Int) (x : Int), x ∈ ins l → x ∈ l ∨ x = 32
 | [], x, h => absurd h (by simp [ins])
 | n :: l, x, h => by
  simp only [ins] at h
  split at h
  ·rcases List.mem_cons.mp h with h | h
   ·exact Or.inl (by rw [h]; exact List.mem_cons_self)
   rcases List.mem_cons.mp h with h | h
   ·exact Or.inr h
   ·exact (ins_mem l x h).imp (List.mem_cons_of_mem _) id
  ·rcases List.mem_cons.mp h with h | h
   ·exact Or.inl (by rw [h]; exact List.mem_cons_self)
   ·exact (ins_mem l x h).imp (List.mem_cons_of_mem _) id
theorem ins_length : ∀ l : List Int, (ins l).length ≤ 2 * l.length
 | [] => Nat.zero_le _
 | n :: l => by
  have := ins_length l
  simp only [ins]
  split <;> simp only [List.length_cons] <;> omega
theorem ins_no (p l : List Int) (hp : ∀ x ∈ p, ¬ x = 45) : ins (p ++ l) = p ++ ins l := by
 induction p with
 | nil => rfl
 | cons a p ih =>
  rw [List.cons_append, List.cons_append, ← ih (fun x hx => hp x (List.mem_cons_of_mem _ hx))]
  simp only [ins]
  rw [if_neg (fun h => hp a List.mem_cons_self h.1)]
theorem pb_no {n c : Int} (hn : okS n) (hc : c < 128) (h : ¬ n = c) : ∀ x ∈ pb n, ¬ x = c := by
 unfold okS at hn
 intro x hx
 unfold pb at hx
 split at hx
 ·simp only [List.mem_singleton] at hx; omega
 split at hx
 ·simp only [List.mem_cons, List.not_mem_nil, or_false] at hx; omega
 split at hx
 ·simp only [List.mem_cons, List.not_mem_nil, or_false] at hx; omega
 ·simp only [List.mem_cons, List.not_mem_nil, or_false] at hx; omega
theorem pb_nil (n : Int) : ¬ pb n = [] := fun h => by have := (pb_length n).1; rw [h] at this; simp at this
theorem flat_nil (M : List Int) : M.flatMap pb = [] ↔ M = [] := by
 cases M with
 | nil => exact Iff.rfl
 | cons n M => rw [List.flatMap_cons]; simp [pb_nil]
theorem flat_head (M : List Int) (hM : ∀ n ∈ M, okS n) : (M.flatMap pb).head? = some 45 ↔ M.head? = some 45 := by
 cases M with
 | nil => exact Iff.rfl
 | cons n M =>
  rw [List.flatMap_cons, List.head?_cons]
  obtain ⟨a, p, hp⟩ := List.exists_cons_of_ne_nil (pb_nil n)
  rw [hp, List.cons_append, List.head?_cons]
  constructor
  ·intro h
   have ha : a = 45 := Option.some.inj h
   by_cases c : n = 45
   ·rw [c]
   ·exact absurd ha (pb_no (hM n List.mem_cons_self) (by decide) c a (by rw [hp]; exact List.mem_cons_self))
  ·intro h
   have hn : n = 45 := Option.some.inj h
   subst hn
   have : pb 45 = [45] := by decide
   rw [this] at hp
   rw [(List.cons.inj hp).1]
theorem ins_pb : ∀ M : List Int, (∀ n ∈ M, okS n) → ins (M.flatMap pb) = (ins M).flatMap pb
 | [], _ => rfl
 | n :: M, h => by
  have ih := ins_pb M (fun x hx => h x (List.mem_cons_of_mem _ hx))
  have h1 := flat_nil M
  have h2 := flat_head M (fun x hx => h x (List.mem_cons_of_mem _ hx))
  by_cases c : n = 45
  ·subst c
   have e : pb 45 = [45] := by decide
   have e2 : pb 32 = [32] := by decide
   rw [List.flatMap_cons, e, List.cons_append, List.nil_append]
   simp only [ins, h1, h2]
   split
   ·rw [List.flatMap_cons, List.flatMap_cons, e, e2, ih]; rfl
   ·rw [List.flatMap_cons, e, ih]; rfl
  ·rw [List.flatMap_cons, ins_no _ _ (pb_no (h n List.mem_cons_self) (by decide) c), ih]
   simp only [ins]
   rw [if_neg (fun q => c q.1), List.flatMap_cons]
theorem crI_pb : ∀ L : List Int, (∀ n ∈ L, okS n) → (L.flatMap pb).map crI = (L.map crI).flatMap pb
 | [], _ => rfl
 | n :: L, h => by
  rw [List.flatMap_cons, List.map_append, List.map_cons, List.flatMap_cons, crI_pb L (fun x hx => h x (List.mem_cons_of_mem _ hx))]
  congr 1
  by_cases c : n = 13
  ·subst c; decide
  ·rw [show crI n = n from if_neg c]
   have := pb_no (h n List.mem_cons_self) (by decide) c
   rw [map_same crI _ (fun x hx => if_neg (this x hx))]
def bytesI (X : List Int) : Prop := ∀ x ∈ X, 0 ≤ x ∧ x ≤ 255
theorem bytesI_pb (L : List Int) (h : ∀ n ∈ L, okS n) : bytesI (L.flatMap pb) := by
 intro x hx
 obtain ⟨n, hn, hx⟩ := List.mem_flatMap.mp hx
 obtain ⟨i, hi, rfl⟩ := List.getElem_of_mem hx
 exact pb_byte n (h n hn) i _ (List.getElem?_eq_getElem hi)
theorem crs_nums (X : List Int) (hX : bytesI X) : crs (strOfNums X) = strOfNums (X.map crI) := by
 unfold crs strOfNums
 congr 2
 rw [List.map_map, List.map_map]
 refine List.map_congr_left fun x hx => ?_
 obtain ⟨h0, h1⟩ := hX x hx
 show cr (UInt8.ofNat x.toNat) = UInt8.ofNat (crI x).toNat
 unfold cr crI
 by_cases c : x = 13
 ·subst c; rfl
 ·rw [if_neg c, if_neg]
  intro e
  have e2 := congrArg UInt8.toNat e
  rw [UInt8.toNat_ofNat'] at e2
  have : x.toNat % 256 = 13 := e2
  omega
theorem btX (X : List Int) (hX : bytesI X) (j : Nat) (h : j < X.length) : bt (strOfNums X) (j : Int) = X[j] := by
 obtain ⟨h0, h1⟩ := hX _ (List.getElem_mem h)
 exact bt_nums X j _ (List.getElem?_eq_getElem h) h0 h1
theorem NoteOf_list_loop (X : List Int) (hX : bytesI X) (hl : X.length ≤ 4194304) : ∀ (d j : Nat) (acc : List Int), X.length - j = d → j ≤ X.length → acc.length ≤ 2 * j →
  Ev (fun k => impl_NoteOf.l0 k (strOfNums X) (strOfNums acc) j) (strOfNums (acc ++ ins (X.drop j))) := by
 intro d
 have hz : (strOfNums X).size = X.length := strOfNums_size X
 induction d with
 | zero =>
  intro j acc hd hj ha
  rw [List.drop_eq_nil_of_le (by omega), show ins [] = [] from rfl, List.append_nil]
  exact Ev.here fun k => by simp only [impl_NoteOf.l0]; rw [if_neg (by omega)]
 | succ d ih =>
  intro j acc hd hj ha
  have hjl : j < X.length := by omega
  have hw : wrap64 ((j : Int) + 1) = ((j + 1 : Nat) : Int) := succ64 (by omega)
  have hS : (strOfNums acc).size + 2 ≤ 140737488355328 := by rw [strOfNums_size]; omega
  have hb := btX X hX j hjl
  have himpl : ∀ k, impl_NoteOf.l0 (k + 1) (strOfNums X) (strOfNums acc) j = (if X[j] = 45 then (if ((j + 1 : Nat) : Int) = (X.length : Int) then impl_NoteOf.l0 k (strOfNums X) (strOfNums acc ++ (⟨#[45, 32]⟩ : ByteArray)) ((j + 1 : Nat) : Int) else (if ((j + 1 : Nat) : Int) < (X.length : Int) then (if bt (strOfNums X) ((j + 1 : Nat) : Int) = 45 then impl_NoteOf.l0 k (strOfNums X) (strOfNums acc ++ (⟨#[45, 32]⟩ : ByteArray)) ((j + 1 : Nat) : Int) else impl_NoteOf.l0 k (strOfNums X) (strOfNums acc ++ (⟨#[45]⟩ : ByteArray)) ((j + 1 : Nat) : Int)) else none)) else impl_NoteOf.l0 k (strOfNums X) (strOfNums acc ++ (⟨#[UInt8.ofNat (X[j]).toNat]⟩ : ByteArray)) ((j + 1 : Nat) : Int)) := fun k => by
   simp only [impl_NoteOf.l0, hz, hw, hb]
   rw [if_pos (by omega), if_pos (by omega), if_pos hS]
   simp only [if_pos (show (0 : Int) ≤ ((j + 1 : Nat) : Int) by omega)]
  have next : ∀ y : List Int, y.length ≤ 2 → Ev (fun k => impl_NoteOf.l0 k (strOfNums X) (strOfNums acc ++ strOfNums y) ((j + 1 : Nat) : Int)) (strOfNums (acc ++ (y ++ ins (X.drop (j + 1))))) := fun y hy => by
   have := ih (j + 1) (acc ++ y) (by omega) (by omega) (by rw [List.length_append]; omega)
   rw [nums_append, List.append_assoc] at this
   exact this
  rw [List.drop_eq_getElem_cons hjl]
  by_cases c : X[j] = 45
  ·by_cases ce : j + 1 = X.length
   ·have hi : ins (X[j] :: X.drop (j + 1)) = [45, 32] ++ ins (X.drop (j + 1)) := by
     simp only [ins]
     rw [if_pos ⟨c, Or.inl (List.drop_eq_nil_of_le (by omega))⟩, c]; rfl
    rw [hi]
    exact Ev.step (fun k => by rw [himpl, if_pos c, if_pos (by omega)]; rfl) (next [45, 32] (by decide))
   ·have cl : j + 1 < X.length := by omega
    have hb1 := btX X hX (j + 1) cl
    have hh : (X.drop (j + 1)).head? = some X[j + 1] := by rw [List.drop_eq_getElem_cons cl]; rfl
    have hn : ¬ X.drop (j + 1) = [] := by rw [List.drop_eq_getElem_cons cl]; exact List.cons_ne_nil _ _
    by_cases cn : X[j + 1] = 45
    ·have hi : ins (X[j] :: X.drop (j + 1)) = [45, 32] ++ ins (X.drop (j + 1)) := by
      simp only [ins]
      rw [if_pos ⟨c, Or.inr (by rw [hh, cn])⟩, c]; rfl
     rw [hi]
     exact Ev.step (fun k => by rw [himpl, if_pos c, if_neg (by omega), if_pos (by omega), hb1, if_pos cn]; rfl) (next [45, 32] (by decide))
    ·have hi : ins (X[j] :: X.drop (j + 1)) = [45] ++ ins (X.drop (j + 1)) := by
      simp only [ins]
      rw [if_neg (by rw [hh]; rintro ⟨_, h | h⟩; exact hn h; exact cn (Option.some.inj h)), c]; rfl
     rw [hi]
     exact Ev.step (fun k => by rw [himpl, if_pos c, if_neg (by omega), if_pos (by omega), hb1, if_neg cn]; rfl) (next [45] (by decide))
  ·have hi : ins (X[j] :: X.drop (j + 1)) = [X[j]] ++ ins (X.drop (j + 1)) := by
    simp only [ins]
    rw [if_neg (fun h => c h.1)]; rfl
   rw [hi]
   exact Ev.step (fun k => by rw [himpl, if_neg c]; rfl) (next [X[j]] (by simp))
/-! ### NoteOk by its bytes -/
theorem fine_get : ∀ (X : List Int), fine X → ∀ (i : Nat) (hi : i < X.length), X[i] = 45 → ∃ h : i + 1 < X.length, ¬ X[i + 1] = 45
 | [], _, i, hi, _ => absurd hi (by simp)
 | n :: l, h, 0, hi, e => by
  have e' : n = 45 := e
  cases l with
  | nil => exact absurd ⟨e', Or.inl rfl⟩ h.1
  | cons m l => exact ⟨by simp, fun q => h.1 ⟨e', Or.inr (by rw [List.head?_cons]; exact congrArg some q)⟩⟩
 | n :: l, h, i + 1, hi, e => by
  obtain ⟨h1, h2⟩ := fine_get l h.2 i (by simpa using hi) (by simpa using e)
  exact ⟨by simpa using h1, by simpa using h2⟩
theorem fine_of : ∀ (X : List Int), (∀ (i : Nat) (hi : i < X.length), X[i] = 45 → ∃ h : i + 1 < X.length, ¬ X[i + 1] = 45) → fine X
 | [], _ => True.intro
 | n :: l, h => by
  refine ⟨?_, fine_of l fun i hi e => ?_⟩
  ·rintro ⟨e, q⟩
   obtain ⟨h1, h2⟩ := h 0 (by simp) e
   have hl : 0 < l.length := by simpa using h1
   rcases q with q | q
   ·rw [q] at hl; simp at hl
   ·rw [List.head?_eq_getElem?, List.getElem?_eq_getElem hl] at q
    exact h2 (by simpa using Option.some.inj q)
  ·obtain ⟨h1, h2⟩ := h (i + 1) (by simpa using hi) (by simpa using e)
   exact ⟨by simpa using h1, by simpa using h2⟩
theorem ext2 (s : ByteArray) (i : Nat) (h : i + 2 ≤ s.data.toList.length) : (s.extract i (i + 2)).toList = [s.data.toList[i], s.data.toList[i + 1]] := by
 rw [Lib.extract_toList, List.drop_eq_getElem_cons (by omega), List.drop_eq_getElem_cons (by omega), show i + 2 - i = 2 by omega]
 rfl
theorem fine_iff (s : ByteArray) : (Lib.contains s.data.toList (⟨#[45, 45]⟩ : ByteArray).data.toList = false ∧ Lib.hasSuffix s.data.toList (⟨#[45]⟩ : ByteArray).data.toList = false) ↔ fine (bytesOf s) := by
 have hc := contains_tells s (⟨#[45, 45]⟩ : ByteArray)
 have hlen : (bytesOf s).length = s.data.toList.length := by unfold bytesOf; rw [List.length_map]
 have hget : ∀ (i : Nat) (h : i < s.data.toList.length), (bytesOf s)[i]'(by rw [hlen]; exact h) = 45 ↔ s.data.toList[i] = 45 := fun i h => by
  unfold bytesOf
  rw [List.getElem_map]
  generalize s.data.toList[i] = b
  constructor
  ·intro e; exact UInt8.toNat_inj.mp (Int.ofNat_inj.mp (show ((b.toNat : Nat) : Int) = (((45 : UInt8).toNat : Nat) : Int) from e))
  ·intro e; rw [e]; rfl
 have h45 : (⟨#[45, 45]⟩ : ByteArray).toList = [45, 45] := by rw [Lib.toList_data]
 have h2 : (⟨#[45, 45]⟩ : ByteArray).size = 2 := rfl
 have hsz : s.size = s.data.toList.length := rfl
 rw [h2] at hc
 constructor
 ·rintro ⟨a1, a2⟩
  refine fine_of _ fun i hi e => ?_
  rw [hlen] at hi
  rw [hget i hi] at e
  by_cases c : i + 1 < s.data.toList.length
  ·refine ⟨by rw [hlen]; exact c, ?_⟩
   rw [hget (i + 1) c]
   intro e2
   exact hc.mp a1 i (Nat.zero_le _) (by omega) (by rw [ext2 s i (by omega), h45, e, e2])
  ·rcases List.eq_nil_or_concat s.data.toList with hnil | ⟨init, x, hl⟩
   ·rw [hnil] at hi; exact absurd hi (by simp)
   ·rw [List.concat_eq_append] at hl
    rw [hl] at a2
    replace a2 : Lib.hasSuffix (init ++ [x]) [45] = false := a2
    rw [suffix_one, decide_eq_false_iff_not] at a2
    have hll : s.data.toList.length = init.length + 1 := by rw [hl]; simp
    have : s.data.toList[i]? = some x := by rw [hl, show i = init.length by omega]; simp
    rw [List.getElem?_eq_getElem hi] at this
    exact absurd (by rw [← Option.some.inj this]; exact e) a2
 ·intro hf
  constructor
  ·refine hc.mpr fun i _ hi he => ?_
   rw [ext2 s i (by omega), h45] at he
   obtain ⟨e1, e2⟩ := List.cons.inj he
   have e3 := (List.cons.inj e2).1
   obtain ⟨q1, q2⟩ := fine_get _ hf i (by rw [hlen]; omega) ((hget i (by omega)).mpr e1)
   exact q2 ((hget (i + 1) (by omega)).mpr e3)
  ·rcases List.eq_nil_or_concat s.data.toList with hnil | ⟨init, x, hl⟩
   ·rw [hnil]; rfl
   ·rw [List.concat_eq_append] at hl
    rw [hl]
    show Lib.hasSuffix (init ++ [x]) [45] = false
    rw [suffix_one, decide_eq_false_iff_not]
    intro e
    have hll : s.data.toList.length = init.length + 1 := by rw [hl]; simp
    have hx : s.data.toList[init.length]? = some x := by rw [hl]; simp
    have hi : init.length < s.data.toList.length := by omega
    rw [List.getElem?_eq_getElem hi] at hx
    obtain ⟨q1, _⟩ := fine_get _ hf init.length (by rw [hlen]; exact hi) ((hget _ hi).mpr (by rw [Option.some.inj hx]; exact e))
    rw [hlen] at q1
    omega
theorem no13_iff (s : ByteArray) : Lib.contains s.data.toList (⟨#[13]⟩ : ByteArray).data.toList = false ↔ ∀ x ∈ bytesOf s, ¬ x = 13 := by
 show Lib.contains s.data.toList [13] = false ↔ _
 rw [contains_one, decide_eq_false_iff_not]
 unfold bytesOf
 constructor
 ·intro h x hx e
  obtain ⟨b, hb, rfl⟩ := List.mem_map.mp hx
  exact h (by rw [← show b = 13 from UInt8.toNat_inj.mp (Int.ofNat_inj.mp (show ((b.toNat : Nat) : Int) = (((13 : UInt8).toNat : Nat) : Int) from e))]; exact hb)
 ·intro h hm
  exact h _ (List.mem_map.mpr ⟨13, hm, rfl⟩) rfl
theorem NoteOk_of (s : ByteArray) (hs : s.size ≤ 1048576) (ht : Ev (fun k => impl_TextOk.f k s) true) (h13 : ∀ x ∈ bytesOf s, ¬ x = 13) (hf : fine (bytesOf s)) : Ev (fun k => impl_NoteOk.f k s) true := by
 obtain ⟨a1, a2⟩ := (fine_iff s).mpr hf
 have a0 := (no13_iff s).mpr h13
 unfold impl_NoteOk.f
 rw [a0, a1, a2]
 exact Ev.ite_pos (by omega) (Ev.bind ht (Ev.now _))
theorem NoteOk_has (s : ByteArray) (hs : s.size ≤ 1048576) (h : Ev (fun k => impl_NoteOk.f k s) true) : Ev (fun k => impl_TextOk.f k s) true ∧ (∀ x ∈ bytesOf s, ¬ x = 13) ∧ fine (bytesOf s) := by
 obtain ⟨b, _, hb⟩ := TextOk_same s hs
 have h2 : Ev (fun k => impl_NoteOk.f k s) (b && !(Lib.contains s.data.toList (⟨#[13]⟩ : ByteArray).data.toList) && !(Lib.contains s.data.toList (⟨#[45, 45]⟩ : ByteArray).data.toList) && !(Lib.hasSuffix s.data.toList (⟨#[45]⟩ : ByteArray).data.toList)) := by
  unfold impl_NoteOk.f
  exact Ev.ite_pos (by omega) (Ev.bind hb (Ev.now _))
 have e := Ev.uniq h2 h
 rw [Bool.and_eq_true, Bool.and_eq_true, Bool.and_eq_true, Bool.not_eq_true', Bool.not_eq_true', Bool.not_eq_true'] at e
 obtain ⟨⟨⟨e1, e2⟩, e3⟩, e4⟩ := e
 subst e1
 exact ⟨hb, (no13_iff s).mp e2, (fine_iff s).mp ⟨e3, e4⟩⟩
theorem bytesI_of (s : ByteArray) : bytesI (bytesOf s) := by
 intro x hx
 unfold bytesOf at hx
 obtain ⟨b, _, rfl⟩ := List.mem_map.mp hx
 have := b.toNat_lt
 show (0 : Int) ≤ ((b.toNat : Nat) : Int) ∧ ((b.toNat : Nat) : Int) ≤ 255
 omega
theorem bytes_nums (X : List Int) (hX : bytesI X) : bytesOf (strOfNums X) = X := by
 unfold bytesOf strOfNums
 show (X.map _).map _ = X
 rw [List.map_map]
 refine map_same _ X fun x hx => ?_
 obtain ⟨h0, h1⟩ := hX x hx
 show (((UInt8.ofNat x.toNat).toNat : Nat) : Int) = x
 rw [UInt8.toNat_ofNat']
 omega
theorem isT_crI {n : Int} (h : isT n) : isT (crI n) := by
 unfold crI
 by_cases c : n = 13
 ·rw [if_pos c]; unfold isT; decide
 ·rw [if_neg c]; exact h
/-- A NOTE MADE STRICT IS STRICT. -/
theorem NoteOf_strict (s : ByteArray) (hs : s.size ≤ 100000) : ∃ r : ByteArray, Ev (fun k => impl_NoteOf.f k s) r ∧ Ev (fun k => impl_NoteOk.f k r) true ∧ r.size ≤ 8 * s.size := by
 obtain ⟨L, hL, hl, e⟩ := TextOf_list s (by omega)
 have hO : ∀ n ∈ L, okS n := fun n hn => isT_ok (hL n hn)
 have hM : ∀ n ∈ L.map crI, isT n := fun n hn => by
  obtain ⟨m, hm, rfl⟩ := List.mem_map.mp hn
  exact isT_crI (hL m hm)
 have hMO : ∀ n ∈ L.map crI, okS n := fun n hn => isT_ok (hM n hn)
 have hN : ∀ n ∈ ins (L.map crI), isT n := fun n hn => by
  rcases ins_mem _ n hn with h | h
  ·exact hM n h
  ·subst h; unfold isT; decide
 have hB := bytesI_pb L hO
 have hBM := bytesI_pb (L.map crI) hMO
 have h4 := flat4 L
 have h4m := flat4 (L.map crI)
 rw [List.length_map] at h4m
 have hil := ins_length ((L.map crI).flatMap pb)
 have hrp := repl_cr (strOfNums (L.flatMap pb)) (by rw [strOfNums_size]; omega)
 rw [crs_nums _ hB, crI_pb L hO] at hrp
 have hlp := NoteOf_list_loop ((L.map crI).flatMap pb) hBM (by omega) _ 0 [] rfl (Nat.zero_le _) (Nat.zero_le _)
 rw [List.nil_append, List.drop_zero] at hlp
 have hbi : bytesI (ins ((L.map crI).flatMap pb)) := fun x hx => by
  rcases ins_mem _ x hx with h | h
  ·exact hBM x h
  ·omega
 refine ⟨strOfNums (ins ((L.map crI).flatMap pb)), ?_, ?_, ?_⟩
 ·unfold impl_NoteOf.f
  exact Ev.bind e (Ev.opt hrp hlp)
 ·refine NoteOk_of _ (by rw [strOfNums_size]; omega) ?_ ?_ ?_
  ·rw [ins_pb _ hMO]
   exact TextOk_list _ hN (by rw [← ins_pb _ hMO]; omega)
  ·rw [bytes_nums _ hbi]
   intro x hx c
   rcases ins_mem _ x hx with h | h
   ·rw [← crI_pb L hO] at h
    obtain ⟨m, _, hm⟩ := List.mem_map.mp h
    unfold crI at hm
    split at hm <;> omega
   ·omega
  ·rw [bytes_nums _ hbi]
   exact fine_ins _
 ·rw [strOfNums_size]; omega
/-- A STRICT NOTE STAYS. -/
theorem NoteOf_stays (s : ByteArray) (hs : s.size ≤ 1048576) (h : Ev (fun k => impl_NoteOk.f k s) true) : Ev (fun k => impl_NoteOf.f k s) s := by
 obtain ⟨h1, h2, h3⟩ := NoteOk_has s hs h
 have e := TextOf_stays s hs h1
 have hX := bytesI_of s
 have hn := nums_bytes s
 have hlen : (bytesOf s).length = s.size := by unfold bytesOf; rw [List.length_map]; rfl
 have hrp := repl_cr s (by omega)
 have hcr : crs s = s := by
  have := crs_nums (bytesOf s) hX
  rw [map_same crI _ (fun x hx => if_neg (h2 x hx)), hn] at this
  exact this
 rw [hcr] at hrp
 have hlp := NoteOf_list_loop (bytesOf s) hX (by omega) _ 0 [] rfl (Nat.zero_le _) (Nat.zero_le _)
 rw [List.nil_append, List.drop_zero, ins_fine _ h3, hn] at hlp
 unfold impl_NoteOf.f
 exact Ev.bind e (Ev.opt hrp hlp)
end Go.Proofs.YtfjheckgigppiaaDoor.Sg
