/- The Ups and Kids of a list of items: what the program's kidsOk and the reference's l6Links tell. No conditions but the sizes. -/
import Derived.Test.YtgljgbkbjlondaaLoopBase
import Derived.Test.YtgljgbkbjlondaaTreeBase
import Derived.Test.YtgljgbkbjlondaaPl1
import Derived.Test.YtgljgbkbjlondaaPl13
import Derived.Test.YtgljgbkbjlondaaPl2
import Derived.Test.YtgljgbkbjlondaaPl3
import Derived.Test.YtgljgbkbjlondaaPl7
set_option linter.unusedVariables false
set_option linter.unusedSimpArgs false
namespace Go.Proofs.Ytgljgbkbjlondaa.Tr
open Go.RowKit Go.Proofs.Ytgljgbkbjlondaa.P Go.Proofs.Ytgljgbkbjlondaa.Evs Go.Proofs.YtgljgbkbjlondaaW.PrintWords Go.Proofs.YtgljgbkbjlondaaW.PrintLast

theorem inRange_eq (a l m : Int) : impl_inRange.f a l m = some (decide (l ≤ a ∧ a ≤ m)) := by
 unfold impl_inRange.f
 by_cases h : a ≥ l
 ·rw [if_pos h]; simp [h]
 ·rw [if_neg h]; simp; omega
theorem l1In_eq (a l m : Int) : spec_l1In.f a l m = some (decide (l ≤ a ∧ a ≤ m)) := inRange_eq a l m
/-- The sizes that the loops need. -/
def Small (L : List S50) : Prop := L.length ≤ 1048576 ∧ ∀ y ∈ L, y.f3.length ≤ 1048576 ∧ y.f6.length ≤ 1048576
/-- The item at a number, its kids, the one above it. -/
def it (L : List S50) (i : Nat) : S50 := rd_T50 L (i : Int)
def kd (L : List S50) (i : Nat) : List Nat := (it L i).f6.map Int.toNat
def upp (L : List S50) (i : Nat) : Nat := (it L i).f5.toNat
theorem it_get {L : List S50} {i : Nat} (h : i < L.length) : it L i = L[i] := rdT L _ i h
theorem it_small {L : List S50} (hL : Small L) {i : Nat} (h : i < L.length) : (it L i).f3.length ≤ 1048576 ∧ (it L i).f6.length ≤ 1048576 := by
 rw [it_get h]; exact hL.2 _ (List.getElem_mem h)
theorem rdI (xs : List Int) (i : Nat) (h : i < xs.length) : rd xs (i : Int) = xs[i] := rdT xs 0 i h
theorem ofNat_of (x : Int) (h : 0 ≤ x) : ((x.toNat : Nat) : Int) = x := Int.toNat_of_nonneg h

theorem it_toNat (L : List S50) {x : Int} (h : 0 ≤ x) : it L x.toNat = rd_T50 L x := by
 unfold it; rw [ofNat_of x h]

/-! ### counting -/
theorem Count_loop (l : List Int) (a : Int) (hl : l.length ≤ 1048576) : ∀ (d j c : Nat), l.length - j = d → j ≤ l.length → c ≤ j → Ev (fun k => spec_l6Count.l0 k l a c j) ((c + (l.drop j).count a : Nat) : Int) := by
 intro d
 induction d with
 | zero =>
  intro j c hd hj hc
  rw [List.drop_eq_nil_of_le (by omega), List.count_nil, Nat.add_zero]
  refine Ev.here fun k => ?_
  simp only [spec_l6Count.l0]; rw [if_neg (by omega)]
 | succ d ih =>
  intro j c hd hj hc
  have hjl : j < l.length := by omega
  rw [List.drop_eq_getElem_cons hjl, List.count_cons]
  by_cases e : l[j] = a
  ·have h1 := ih (j + 1) (c + 1) (by omega) (by omega) (by omega)
   rw [if_pos (by simpa using e), show c + ((l.drop (j + 1)).count a + 1) = c + 1 + (l.drop (j + 1)).count a by omega]
   refine Ev.step (fun k => ?_) h1
   simp only [spec_l6Count.l0, spec_l1Bit.f, succ64 (show j < 9223372036854775807 by omega)]
   rw [if_pos (by omega), if_pos (by omega), rdI l j hjl, if_pos (by simpa using e)]
   simp only [Option.bind_some]
   rw [w64 (i := (c : Int) + 1) (by omega) (by omega)]; rfl
  ·have h1 := ih (j + 1) c (by omega) (by omega) (by omega)
   rw [if_neg (by simpa using e), Nat.add_zero]
   refine Ev.step (fun k => ?_) h1
   simp only [spec_l6Count.l0, spec_l1Bit.f, succ64 (show j < 9223372036854775807 by omega)]
   rw [if_pos (by omega), if_pos (by omega), rdI l j hjl, if_neg (by simpa using e)]
   simp only [Option.bind_some]
   rw [w64 (i := (c : Int) + 0) (by omega) (by omega), Int.add_zero]
theorem Count_tells (l : List Int) (a : Int) (hl : l.length ≤ 1048576) : Ev (fun k => spec_l6Count.f k l a) ((l.count a : Nat) : Int) := by
 have h := Count_loop l a hl l.length 0 0 (by omega) (by omega) (by omega)
 rw [List.drop_zero, Nat.zero_add] at h
 exact h

/-! ### the reference's links -/
def KidOk (L : List S50) (i : Nat) (x : Int) : Prop := 1 ≤ x ∧ x < L.length ∧ (rd_T50 L x).f5 = i
def KidsOk (L : List S50) (i : Nat) : Prop := ∀ x, x ∈ (it L i).f6 → KidOk L i x
def UpOk (L : List S50) (i : Nat) : Prop := if i = 0 then (it L i).f5 = -1 else 0 ≤ (it L i).f5 ∧ (it L i).f5 < L.length ∧ (rd_T50 L (it L i).f5).f6.count (i : Int) = 1
theorem Links_kids (L : List S50) (hL : Small L) (i : Nat) (hi : i < L.length) :
  (KidsOk L i → ∀ r, Ev (fun k => spec_l6Links.l0 k L ((i + 1 : Nat) : Int)) r → Ev (fun k => spec_l6Links.l1 k L i 0) r) ∧ (¬ KidsOk L i → Ev (fun k => spec_l6Links.l1 k L i 0) false) := by
 obtain ⟨_, hs⟩ := it_small hL hi
 have hL1 := hL.1
 have hs' : (rd_T50 L (i : Int)).f6.length ≤ 1048576 := hs
 have hn : wrap64 ((L.length : Int) - 1) = (L.length : Int) - 1 := w64 (by omega) (by omega)
 have hx : ∀ k (j : Nat) (hj : j < (it L i).f6.length), spec_l6Links.l1 (k + 1) L i j = if decide (1 ≤ (it L i).f6[j] ∧ (it L i).f6[j] ≤ (L.length : Int) - 1) = true then (if 0 ≤ (it L i).f6[j] then (if (it L i).f6[j] < (L.length : Int) then (if (rd_T50 L (it L i).f6[j]).f5 = i then spec_l6Links.l1 k L i ((j + 1 : Nat) : Int) else some false) else none) else none) else some false := fun k j hj => by
  have hr : rd (rd_T50 L (i : Int)).f6 (j : Int) = (it L i).f6[j] := rdI _ j hj
  have hj' : j < (rd_T50 L (i : Int)).f6.length := hj
  simp only [spec_l6Links.l1, hr, hn, l1In_eq, Option.bind_some, succ64 (show j < 9223372036854775807 by omega)]
  rw [if_pos (by omega), if_pos (by omega), if_pos (by omega), if_pos (by omega)]
 have A := Ev.all (n := (it L i).f6.length) (j0 := 0) (g := fun k j => spec_l6Links.l1 k L i (j : Int)) (e := false) (ok := fun j => ∀ h : j < (it L i).f6.length, KidOk L i (it L i).f6[j]) (Nat.zero_le _)
  (fun j _ hj _ hok r hr => by
   obtain ⟨q1, q2, q3⟩ := hok hj
   refine Ev.step (fun k => ?_) hr
   rw [hx k j hj, if_pos (decide_eq_true ⟨q1, by omega⟩), if_pos (by omega), if_pos q2, if_pos q3])
  (fun j _ hj _ hok => by
   refine Ev.here fun k => ?_
   rw [hx k j hj]
   by_cases c : 1 ≤ (it L i).f6[j] ∧ (it L i).f6[j] ≤ (L.length : Int) - 1
   ·rw [if_pos (decide_eq_true c), if_pos (by omega), if_pos (by omega), if_neg (fun q => hok fun _ => ⟨c.1, by omega, q⟩)]
   ·rw [if_neg (by simpa using c)])
 have hE : ∀ r, Ev (fun k => spec_l6Links.l0 k L ((i + 1 : Nat) : Int)) r → Ev (fun k => spec_l6Links.l1 k L i ((it L i).f6.length : Int)) r := fun r hr => by
  refine Ev.step (fun k => ?_) hr
  have e : ((rd_T50 L (i : Int)).f6.length : Int) = ((it L i).f6.length : Int) := rfl
  simp only [spec_l6Links.l1, succ64 (show i < 9223372036854775807 by omega)]
  rw [if_pos (by omega), if_pos (by omega), if_neg (by omega)]
 refine ⟨fun h r hr => A.1 (fun j _ hj _ => h _ (List.getElem_mem hj)) r (hE r hr), fun h => A.2 fun hall => h fun x hx => ?_⟩
 obtain ⟨j, hj, rfl⟩ := List.getElem_of_mem hx
 exact hall j (Nat.zero_le _) hj hj
def LinksP (L : List S50) : Prop := ∀ i, i < L.length → UpOk L i ∧ KidsOk L i
theorem Links_tells (L : List S50) (hL : Small L) : (LinksP L → Ev (fun k => spec_l6Links.f k L) true) ∧ (¬ LinksP L → Ev (fun k => spec_l6Links.f k L) false) := by
 have hL1 := hL.1
 have hn : wrap64 ((L.length : Int) - 1) = (L.length : Int) - 1 := w64 (by omega) (by omega)
 have up_yes : ∀ i, i < L.length → UpOk L i → ∀ r, Ev (fun k => spec_l6Links.l1 k L i 0) r → Ev (fun k => spec_l6Links.l0 k L i) r := fun i hi hu r hr => by
  have hj : Ev (fun k => spec_l6Links.j1 k L i false) r := Ev.step (fun k => by simp only [spec_l6Links.j1]; rw [if_neg Bool.false_ne_true]) hr
  unfold UpOk at hu
  by_cases c : i = 0
  ·subst c
   rw [if_pos rfl] at hu
   unfold it at hu
   refine Ev.step (fun k => ?_) hj
   simp only [spec_l6Links.l0]
   rw [if_pos (by omega), if_pos (by omega), if_pos (by omega), if_pos hu, if_neg (by omega)]
  ·rw [if_neg c] at hu
   obtain ⟨u0, u1, u2⟩ := hu
   have hs : (rd_T50 L (it L i).f5).f6.length ≤ 1048576 := by
    have := (it_small hL (i := (it L i).f5.toNat) (by omega)).2
    rwa [it_toNat L u0] at this
   refine Ev.step (f := fun k => (spec_l6Count.f k (rd_T50 L (it L i).f5).f6 i).bind fun t => spec_l6Links.j1 k L i (t != 1)) (fun k => ?_) (Ev.bind (Count_tells _ _ hs) ?_)
   ·simp only [spec_l6Links.l0, l1In_eq, hn, Option.bind_some]
    rw [if_pos (by omega), if_pos (by omega), if_neg (by omega), if_pos (by omega)]
    change (if decide (0 ≤ (it L i).f5 ∧ (it L i).f5 ≤ (L.length : Int) - 1) = true then _ else _) = _
    rw [if_pos (decide_eq_true ⟨u0, by omega⟩)]
    change (if 0 ≤ (it L i).f5 then _ else _) = _
    rw [if_pos u0]
    change (if (it L i).f5 < (L.length : Int) then _ else _) = _
    rw [if_pos u1]
    rfl
   ·rw [u2]; exact hj
 have up_no : ∀ i, i < L.length → ¬ UpOk L i → Ev (fun k => spec_l6Links.l0 k L i) false := fun i hi hu => by
  have hj : Ev (fun k => spec_l6Links.j1 k L i true) false := Ev.here fun k => by simp only [spec_l6Links.j1]; rw [if_pos True.intro]
  unfold UpOk at hu
  by_cases c : i = 0
  ·subst c
   rw [if_pos rfl] at hu
   unfold it at hu
   refine Ev.step (fun k => ?_) hj
   simp only [spec_l6Links.l0]
   rw [if_pos (by omega), if_pos (by omega), if_pos (by omega), if_neg hu]
  ·rw [if_neg c] at hu
   by_cases u : 0 ≤ (it L i).f5 ∧ (it L i).f5 ≤ (L.length : Int) - 1
   ·have hs : (rd_T50 L (it L i).f5).f6.length ≤ 1048576 := by
     have := (it_small hL (i := (it L i).f5.toNat) (by omega)).2
     rwa [it_toNat L u.1] at this
    refine Ev.step (f := fun k => (spec_l6Count.f k (rd_T50 L (it L i).f5).f6 i).bind fun t => spec_l6Links.j1 k L i (t != 1)) (fun k => ?_) (Ev.bind (Count_tells _ _ hs) ?_)
    ·simp only [spec_l6Links.l0, l1In_eq, hn, Option.bind_some]
     rw [if_pos (by omega), if_pos (by omega), if_neg (by omega), if_pos (by omega)]
     change (if decide (0 ≤ (it L i).f5 ∧ (it L i).f5 ≤ (L.length : Int) - 1) = true then _ else _) = _
     rw [if_pos (decide_eq_true u)]
     change (if 0 ≤ (it L i).f5 then _ else _) = _
     rw [if_pos u.1]
     change (if (it L i).f5 < (L.length : Int) then _ else _) = _
     rw [if_pos (by omega)]
     rfl
    ·have u2 : ¬ (rd_T50 L (it L i).f5).f6.count (i : Int) = 1 := fun q => hu ⟨u.1, by omega, q⟩
     rw [show (((((rd_T50 L (it L i).f5).f6.count (i : Int) : Nat) : Int) != 1)) = true from by simp only [bne_iff_ne, ne_eq]; omega]; exact hj
   ·refine Ev.step (fun k => ?_) hj
    simp only [spec_l6Links.l0, l1In_eq, hn, Option.bind_some]
    rw [if_pos (by omega), if_pos (by omega), if_neg (by omega), if_pos (by omega)]
    change (if decide (0 ≤ (it L i).f5 ∧ (it L i).f5 ≤ (L.length : Int) - 1) = true then _ else _) = _
    rw [if_neg (by simpa using u)]
 have A := Ev.all (n := L.length) (j0 := 0) (g := fun k j => spec_l6Links.l0 k L (j : Int)) (e := false) (ok := fun i => UpOk L i ∧ KidsOk L i) (Nat.zero_le _)
  (fun i _ hi _ hok r hr => up_yes i hi hok.1 r ((Links_kids L hL i hi).1 hok.2 r hr))
  (fun i _ hi _ hok => by
   by_cases c : UpOk L i
   ·exact up_yes i hi c false ((Links_kids L hL i hi).2 fun q => hok ⟨c, q⟩)
   ·exact up_no i hi c)
 exact ⟨fun h => A.1 (fun i _ hi => h i hi) true (Ev.here fun k => by simp only [spec_l6Links.l0]; rw [if_neg (by omega)]), fun h => A.2 fun hall => h fun i hi => hall i (Nat.zero_le _) hi⟩

/-! ### the program's -/
/-- How often a number stands among the kids of the first i items. -/
def cnt (L : List S50) (x : Int) : Nat → Nat
 | 0 => 0
 | i + 1 => cnt L x i + (it L i).f6.count x
theorem cnt_le {L : List S50} (hL : Small L) (x : Int) : ∀ i, i ≤ L.length → cnt L x i ≤ i * 1048576
 | 0, _ => Nat.zero_le _
 | i + 1, h => by
  have h1 := cnt_le hL x i (by omega)
  have h2 := (it_small hL (i := i) (by omega)).2
  have h3 := List.count_le_length (a := x) (l := (it L i).f6)
  rw [cnt]
  omega
def seen (L : List S50) (i j : Nat) : List Int := (List.range L.length).map fun x : Nat => ((cnt L x i + ((it L i).f6.take j).count (x : Int) : Nat) : Int)
theorem seen_length (L : List S50) (i j : Nat) : (seen L i j).length = L.length := by simp [seen]
theorem seen_next (L : List S50) (i : Nat) : seen L i (it L i).f6.length = seen L (i + 1) 0 := by
 unfold seen
 apply List.map_congr_left
 intro x _
 rw [List.take_length, List.take_zero, List.count_nil, cnt]
 rfl
theorem seen_set (L : List S50) (hL : Small L) (i j : Nat) (hi : i < L.length) (hj : j < (it L i).f6.length) (h0 : 0 ≤ (it L i).f6[j]) (h1 : (it L i).f6[j] < L.length) :
  (seen L i j).set ((it L i).f6[j]).toNat (wrap64 ((rd (seen L i j) (it L i).f6[j]) + 1)) = seen L i (j + 1) := by
 obtain ⟨y, hy⟩ := Int.eq_ofNat_of_zero_le h0
 have hyl : y < L.length := by omega
 have hl1 := hL.1
 have hls := (it_small hL hi).2
 have hc := cnt_le hL (y : Int) i (by omega)
 have hc2 := List.count_le_length (a := (y : Int)) (l := (it L i).f6.take j)
 rw [List.length_take] at hc2
 have hr : rd (seen L i j) (it L i).f6[j] = ((cnt L y i + ((it L i).f6.take j).count (y : Int) : Nat) : Int) := by
  rw [hy, rdI _ y (by rw [seen_length]; exact hyl)]; simp [seen]
 rw [hr, w64 (by omega) (by omega), hy, Int.toNat_natCast]
 apply List.ext_getElem?
 intro z
 rw [List.getElem?_set, seen_length]
 by_cases e : y = z
 ·subst e
  rw [if_pos rfl, if_pos hyl]
  simp only [seen, List.getElem?_map, List.getElem?_range hyl, Option.map_some]
  rw [List.take_succ_eq_append_getElem hj, List.count_append, hy, List.count_singleton_self]
  rfl
 ·rw [if_neg e]
  by_cases hz : z < L.length
  ·simp only [seen, List.getElem?_map, List.getElem?_range hz, Option.map_some]
   rw [List.take_succ_eq_append_getElem hj, List.count_append, hy, List.count_singleton, if_neg (by simp; omega)]
   rfl
  ·rw [List.getElem?_eq_none (by rw [seen_length]; omega), List.getElem?_eq_none (by rw [seen_length]; omega)]
theorem kidsOk_kids (L : List S50) (hL : Small L) (i : Nat) (hi : i < L.length) :
  (KidsOk L i → ∀ r, Ev (fun k => impl_kidsOk.l0 k L (seen L (i + 1) 0) L (L.length : Int) ((i + 1 : Nat) : Int)) r → Ev (fun k => impl_kidsOk.l1 k L (seen L i 0) i L (L.length : Int) i (it L i).f6 ((it L i).f6.length : Int) 0) r) ∧
  (¬ KidsOk L i → Ev (fun k => impl_kidsOk.l1 k L (seen L i 0) i L (L.length : Int) i (it L i).f6 ((it L i).f6.length : Int) 0) false) := by
 obtain ⟨_, hs⟩ := it_small hL hi
 have hL1 := hL.1
 have hn : wrap64 ((L.length : Int) - 1) = (L.length : Int) - 1 := w64 (by omega) (by omega)
 have hx : ∀ k (j : Nat) (hj : j < (it L i).f6.length), impl_kidsOk.l1 (k + 1) L (seen L i j) i L (L.length : Int) i (it L i).f6 ((it L i).f6.length : Int) j = if decide (1 ≤ (it L i).f6[j] ∧ (it L i).f6[j] ≤ (L.length : Int) - 1) = true then (if 0 ≤ (it L i).f6[j] then (if (it L i).f6[j] < (L.length : Int) then (if (rd_T50 L (it L i).f6[j]).f5 = i then (if (it L i).f6[j] < ((seen L i j).length : Int) then impl_kidsOk.l1 k L ((seen L i j).set ((it L i).f6[j]).toNat (wrap64 ((rd (seen L i j) (it L i).f6[j]) + 1))) i L (L.length : Int) i (it L i).f6 ((it L i).f6.length : Int) ((j + 1 : Nat) : Int) else none) else some false) else none) else none) else some false := fun k j hj => by
  have hr : rd (it L i).f6 (j : Int) = (it L i).f6[j] := rdI _ j hj
  simp only [impl_kidsOk.l1, hr, hn, inRange_eq, Option.bind_some, succ64 (show j < 9223372036854775807 by omega)]
  rw [if_pos (by omega), if_pos (by omega), if_pos (by omega)]
 have A := Ev.all (n := (it L i).f6.length) (j0 := 0) (g := fun k j => impl_kidsOk.l1 k L (seen L i j) i L (L.length : Int) i (it L i).f6 ((it L i).f6.length : Int) (j : Int)) (e := false) (ok := fun j => ∀ h : j < (it L i).f6.length, KidOk L i (it L i).f6[j]) (Nat.zero_le _)
  (fun j _ hj _ hok r hr => by
   obtain ⟨q1, q2, q3⟩ := hok hj
   refine Ev.step (fun k => ?_) hr
   rw [hx k j hj, if_pos (decide_eq_true ⟨q1, by omega⟩), if_pos (by omega), if_pos q2, if_pos q3, if_pos (by rw [seen_length]; exact q2), seen_set L hL i j hi hj (by omega) q2])
  (fun j _ hj _ hok => by
   refine Ev.here fun k => ?_
   rw [hx k j hj]
   by_cases c : 1 ≤ (it L i).f6[j] ∧ (it L i).f6[j] ≤ (L.length : Int) - 1
   ·rw [if_pos (decide_eq_true c), if_pos (by omega), if_pos (by omega), if_neg (fun q => hok fun _ => ⟨c.1, by omega, q⟩)]
   ·rw [if_neg (by simpa using c)])
 have hE : ∀ r, Ev (fun k => impl_kidsOk.l0 k L (seen L (i + 1) 0) L (L.length : Int) ((i + 1 : Nat) : Int)) r → Ev (fun k => impl_kidsOk.l1 k L (seen L i (it L i).f6.length) i L (L.length : Int) i (it L i).f6 ((it L i).f6.length : Int) ((it L i).f6.length : Int)) r := fun r hr => by
  rw [seen_next]
  refine Ev.step (fun k => ?_) hr
  simp only [impl_kidsOk.l1, succ64 (show i < 9223372036854775807 by omega)]
  rw [if_neg (by omega)]
 refine ⟨fun h r hr => A.1 (fun j _ hj _ => h _ (List.getElem_mem hj)) r (hE r hr), fun h => A.2 fun hall => h fun x hx => ?_⟩
 obtain ⟨j, hj, rfl⟩ := List.getElem_of_mem hx
 exact hall j (Nat.zero_le _) hj hj
def KidsP (L : List S50) : Prop := (∀ i, i < L.length → KidsOk L i) ∧ ∀ x : Nat, 1 ≤ x → x < L.length → cnt L x L.length = 1
theorem kidsOk_tells (L : List S50) (hL : Small L) (h1 : 1 ≤ L.length) : (KidsP L → Ev (fun k => impl_kidsOk.f k L) true) ∧ (¬ KidsP L → Ev (fun k => impl_kidsOk.f k L) false) := by
 have hL1 := hL.1
 have A := Ev.all (n := L.length) (j0 := 0) (g := fun k i => impl_kidsOk.l0 k L (seen L i 0) L (L.length : Int) (i : Int)) (e := false) (ok := fun i => KidsOk L i) (Nat.zero_le _)
  (fun i _ hi _ hok r hr => by
   refine Ev.step (fun k => ?_) ((kidsOk_kids L hL i hi).1 hok r hr)
   simp only [impl_kidsOk.l0]; rw [if_pos (by omega), if_pos (by omega), if_pos (by omega)]; rfl)
  (fun i _ hi _ hok => by
   refine Ev.step (fun k => ?_) ((kidsOk_kids L hL i hi).2 hok)
   simp only [impl_kidsOk.l0]; rw [if_pos (by omega), if_pos (by omega), if_pos (by omega)]; rfl)
 have hx : ∀ k (x : Nat), x < L.length → impl_kidsOk.l2 (k + 1) L (seen L L.length 0) x = if cnt L x L.length = 1 then impl_kidsOk.l2 k L (seen L L.length 0) ((x + 1 : Nat) : Int) else some false := fun k x hx => by
  have hr : rd (seen L L.length 0) (x : Int) = ((cnt L x L.length : Nat) : Int) := by
   rw [rdI _ x (by rw [seen_length]; exact hx)]; simp [seen]
  simp only [impl_kidsOk.l2, hr, succ64 (show x < 9223372036854775807 by omega)]
  rw [if_pos (by omega), if_pos (by omega), if_pos (by rw [seen_length]; omega)]
  by_cases c : cnt L x L.length = 1
  ·rw [if_pos c, if_pos (by omega)]
  ·rw [if_neg c, if_neg (by omega)]
 have B := Ev.all (n := L.length) (j0 := 1) (g := fun k x => impl_kidsOk.l2 k L (seen L L.length 0) (x : Int)) (e := false) (ok := fun x => cnt L (x : Int) L.length = 1) h1
  (fun x _ hxl _ hok r hr => Ev.step (fun k => by rw [hx k x hxl, if_pos hok]) hr)
  (fun x _ hxl _ hok => Ev.here fun k => by rw [hx k x hxl, if_neg hok])
 have e0 : ∀ r, Ev (fun k => impl_kidsOk.l0 k L (seen L 0 0) L (L.length : Int) ((0 : Nat) : Int)) r → Ev (fun k => impl_kidsOk.f k L) r := fun r hr => by
  unfold impl_kidsOk.f
  refine Ev.ite_pos (by omega) (Ev.ite_pos (by omega) ?_)
  have e : List.replicate ((L.length : Int)).toNat (0 : Int) = seen L 0 0 := by
   rw [Int.toNat_natCast]
   apply List.ext_getElem?
   intro z
   by_cases hz : z < L.length
   ·simp [seen, List.getElem?_range hz, List.getElem?_replicate, hz, cnt]
   ·rw [List.getElem?_eq_none (by simp; omega), List.getElem?_eq_none (by rw [seen_length]; omega)]
  rw [e]; exact hr
 have e1 : ∀ r, Ev (fun k => impl_kidsOk.l2 k L (seen L L.length 0) ((1 : Nat) : Int)) r → Ev (fun k => impl_kidsOk.l0 k L (seen L L.length 0) L (L.length : Int) (L.length : Int)) r := fun r hr => Ev.step (fun k => by simp only [impl_kidsOk.l0]; rw [if_neg (by omega)]; rfl) hr
 have e2 : Ev (fun k => impl_kidsOk.l2 k L (seen L L.length 0) (L.length : Int)) true := Ev.here fun k => by simp only [impl_kidsOk.l2]; rw [if_neg (by omega)]
 refine ⟨fun h => e0 true (A.1 (fun i _ hi => h.1 i hi) true (e1 true (B.1 (fun x q1 q2 => h.2 x q1 q2) true e2))), fun h => e0 false ?_⟩
 by_cases c : ∀ i, 0 ≤ i → i < L.length → KidsOk L i
 ·exact A.1 c false (e1 false (B.2 fun hall => h ⟨fun i hi => c i (Nat.zero_le _) hi, hall⟩))
 ·exact A.2 c
/-- Where each kid has its Up, a number stands among the kids of its Up alone. -/
theorem cnt_up (L : List S50) (hk : ∀ i, i < L.length → KidsOk L i) (x : Nat) (hu0 : 0 ≤ (it L x).f5) : ∀ i, i ≤ L.length → cnt L x i = if (it L x).f5 < i then (rd_T50 L (it L x).f5).f6.count (x : Int) else 0
 | 0, _ => by rw [if_neg (by omega)]; rfl
 | i + 1, h => by
  rw [cnt, cnt_up L hk x hu0 i (by omega)]
  have hz : ¬ (it L x).f5 = i → (it L i).f6.count (x : Int) = 0 := fun hne => by
   rw [List.count_eq_zero]
   intro hm
   exact hne (hk i (by omega) _ hm).2.2
  by_cases c : (it L x).f5 = i
  ·rw [if_neg (by omega), if_pos (by omega), c, Nat.zero_add]; rfl
  ·rw [hz c]
   by_cases c2 : (it L x).f5 < i
   ·rw [if_pos c2, if_pos (by omega)]; rfl
   ·rw [if_neg c2, if_neg (by omega)]
/-- The two tests on links are one, where the Ups are in range. -/
theorem Links_iff (L : List S50) (h0 : (it L 0).f5 = -1) (hup : ∀ i, 1 ≤ i → i < L.length → 0 ≤ (it L i).f5 ∧ (it L i).f5 < L.length) : LinksP L ↔ KidsP L := by
 constructor
 ·intro h
  have hk : ∀ i, i < L.length → KidsOk L i := fun i hi => (h i hi).2
  refine ⟨hk, fun x h1 h2 => ?_⟩
  have hu := (h x h2).1
  unfold UpOk at hu
  rw [if_neg (by omega)] at hu
  rw [cnt_up L hk x hu.1 _ (Nat.le_refl _), if_pos hu.2.1]
  exact hu.2.2
 ·intro h i hi
  refine ⟨?_, h.1 i hi⟩
  unfold UpOk
  by_cases c : i = 0
  ·subst c; rw [if_pos rfl]; exact h0
  ·rw [if_neg c]
   obtain ⟨u0, u1⟩ := hup i (by omega) hi
   have := h.2 i (by omega) hi
   rw [cnt_up L h.1 i u0 _ (Nat.le_refl _), if_pos u1] at this
   exact ⟨u0, u1, this⟩
/-- Right links make a tree by numbers. -/
theorem Links_ok (L : List S50) (h1 : 1 ≤ L.length) (h : LinksP L) : Ok L.length (kd L) (upp L) := by
 refine ⟨h1, fun i hi k hk => ?_, fun i hi => ?_, fun k h0 hk => ?_⟩
 ·obtain ⟨x, hx, rfl⟩ := List.mem_map.mp hk
  obtain ⟨q1, q2, q3⟩ := (h i hi).2 x hx
  refine ⟨by omega, by omega, ?_⟩
  unfold upp it
  rw [ofNat_of x (by omega), q3]
  rfl
 ·unfold kd
  have hk := (h i hi).2
  have hn : (it L i).f6.Nodup := by
   rw [List.nodup_iff_count]
   intro a
   by_cases ha : a ∈ (it L i).f6
   ·obtain ⟨q1, q2, q3⟩ := hk a ha
    have hu := (h a.toNat (by omega)).1
    unfold UpOk at hu
    rw [if_neg (by omega)] at hu
    have e : (it L a.toNat).f5 = i := by unfold it; rw [ofNat_of a (by omega)]; exact q3
    rw [e, ofNat_of a (by omega)] at hu
    exact Nat.le_of_eq hu.2.2
   ·rw [List.count_eq_zero.mpr ha]; exact Nat.zero_le _
  rw [List.nodup_iff_pairwise_ne] at hn ⊢
  rw [List.pairwise_map]
  refine List.Pairwise.imp_of_mem ?_ hn
  intro a b ha hb hne e
  have q1 := (hk a ha).1
  have q2 := (hk b hb).1
  exact hne (by omega)
 ·have hu := (h k hk).1
  unfold UpOk at hu
  rw [if_neg h0] at hu
  obtain ⟨u0, u1, u2⟩ := hu
  unfold upp
  refine ⟨by omega, ?_⟩
  unfold kd
  rw [it_toNat L u0]
  have : (k : Int) ∈ (rd_T50 L (it L k).f5).f6 := by
   rw [← List.one_le_count_iff]; omega
  exact List.mem_map.mpr ⟨(k : Int), this, Int.toNat_natCast k⟩
end Go.Proofs.Ytgljgbkbjlondaa.Tr
