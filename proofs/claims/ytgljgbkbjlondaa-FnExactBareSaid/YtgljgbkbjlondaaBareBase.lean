/- The names of a list's tags: the program collects, sorts, drops what stands beside its like; the reference puts each in its place: they tell the same. No conditions but the sizes. -/
import Derived.Test.YtgljgbkbjlondaaLoopBase
import Derived.Test.YtgljgbkbjlondaaSortedBase
import Derived.Test.YtgljgbkbjlondaaPb2
import Derived.Test.YtgljgbkbjlondaaPb4
set_option linter.unusedVariables false
set_option linter.unusedSimpArgs false
namespace Go.Proofs.Ytgljgbkbjlondaa.Ba
open Go.RowKit Go.Proofs.Ytgljgbkbjlondaa.P Go.Proofs.Ytgljgbkbjlondaa.Evs Go.Proofs.Ytgljgbkbjlondaa.So Go.Proofs.YtgljgbkbjlondaaW.PrintWords Go.Proofs.YtgljgbkbjlondaaW.PrintLast

def key (b : ByteArray) : Str := b.data.toList
theorem key_inj {a b : ByteArray} (h : key a = key b) : a = b := by
 cases a; cases b
 exact congrArg ByteArray.mk (Array.toList_inj.mp h)
theorem keys_inj : ∀ {xs ys : List ByteArray}, xs.map key = ys.map key → xs = ys
 | [], [], _ => rfl
 | [], _ :: _, h => by cases h
 | _ :: _, [], h => by cases h
 | x :: xs, y :: ys, h => by
  rw [List.map_cons, List.map_cons] at h
  injection h with h1 h2
  rw [key_inj h1, keys_inj h2]
theorem toList_key (b : ByteArray) : b.toList = key b := ByteArray.toList_eq b
theorem rdB (xs : List ByteArray) (j : Nat) (h : j < xs.length) : rdOf ByteArray.empty xs (j : Int) = xs[j] := rdT xs _ j h
theorem Is_loop (s : ByteArray) (xs : List ByteArray) (hl : xs.length ≤ 1048576) : ∀ (d j : Nat), xs.length - j = d → j ≤ xs.length → Ev (fun k => spec_l7Is.l0 k s xs j) (decide (key s ∈ (xs.drop j).map key)) := by
 intro d
 induction d with
 | zero =>
  intro j hd hj
  obtain rfl : j = xs.length := by omega
  rw [List.drop_length]
  refine Ev.cast (Ev.here fun k => ?_) (a := false) (by simp)
  simp only [spec_l7Is.l0]
  rw [if_neg (by omega)]
 | succ d ih =>
  intro j hd hj
  have hjl : j < xs.length := by omega
  have w2 : wrap64 ((j : Int) + 1) = ((j + 1 : Nat) : Int) := succ64 (by omega)
  rw [List.drop_eq_getElem_cons hjl, List.map_cons]
  by_cases c : key xs[j] = key s
  ·refine Ev.cast (Ev.here fun k => ?_) (a := true) (by rw [c]; simp)
   simp only [spec_l7Is.l0, rdB xs j hjl, toList_key]
   rw [if_pos (by omega), if_pos (by omega), if_pos c]
  ·refine Ev.cast (Ev.step (fun k => ?_) (ih (j + 1) (by omega) (by omega))) (by rw [decide_eq_decide, List.mem_cons]; exact ⟨fun h => .inr h, fun h => h.resolve_left (fun e => c e.symm)⟩)
   simp only [spec_l7Is.l0, rdB xs j hjl, toList_key, w2]
   rw [if_pos (by omega), if_pos (by omega), if_neg c]
theorem Is_tells (s : ByteArray) (xs : List ByteArray) (hl : xs.length ≤ 1048576) : Ev (fun k => spec_l7Is.f k s xs) (decide (key s ∈ xs.map key)) := Is_loop s xs hl xs.length 0 (by omega) (by omega)
/-- The names of the tags of a list. -/
def nms (l : List S50) : List ByteArray := (l.filter fun y => decide (y.f0 = 2)).map fun y => y.f2
theorem nms_length (l : List S50) : (nms l).length ≤ l.length := by
 unfold nms
 rw [List.length_map]
 exact List.length_filter_le _ _
theorem nms_next (l : List S50) (j : Nat) (h : j < l.length) : nms (l.take (j + 1)) = nms (l.take j) ++ (if l[j].f0 = 2 then [l[j].f2] else []) := by
 unfold nms
 rw [List.take_add_one, List.getElem?_eq_getElem h, List.filter_append, List.map_append]
 by_cases c : l[j].f0 = 2
 ·simp [c]
 ·simp [c]
theorem rdI (L : List S50) (j : Nat) (h : j < L.length) : rd_T50 L (j : Int) = L[j] := rdT L _ j h
/-! ### the reference -/
/-- A list in strict order, of the names told so far. -/
structure Told (out names : List ByteArray) : Prop where
 strict : Strict (out.map key)
 mem : ∀ x, x ∈ out.map key ↔ x ∈ names.map key
theorem put_at (L : List S50) (s : ByteArray) (j : Nat) (out names : List ByteArray) (ho : out.length ≤ 1048576) (hT : Told out names) (hn : key s ∉ out.map key) (v : List ByteArray)
  (hnext : ∀ at_ : Nat, at_ ≤ out.length → Told (out.take at_ ++ [s] ++ out.drop at_) (names ++ [s]) → Ev (fun k => spec_Bare.l0 k L (out.take at_ ++ [s] ++ out.drop at_) ((j : Int) + 1)) v) (hj : wrap64 ((j : Int) + 1) = (j : Int) + 1) :
  ∀ (d at_ : Nat), out.length - at_ = d → at_ ≤ out.length → (∀ x, x ∈ (out.map key).take at_ → x < key s) → Ev (fun k => spec_Bare.l1 k L out j s at_) v := by
 have hput : ∀ at_ : Nat, at_ ≤ out.length → (∀ x, x ∈ (out.map key).take at_ → x < key s) → (∀ y, (out.map key)[at_]? = some y → ¬ y < key s) → Ev (fun k => spec_Bare.l0 k L ([] ++ out.take at_ ++ [s] ++ out.drop at_) ((j : Int) + 1)) v := by
  intro at_ ha h1 h2
  rw [List.nil_append]
  refine hnext at_ ha ⟨?_, fun x => ?_⟩
  ·have h := put_strict (out.map key) (key s) at_ hT.strict hn h1 h2
   rw [← List.map_take, ← List.map_drop] at h
   rw [List.map_append, List.map_append]
   exact h
  ·have h := hT.mem x
   have hsplit : x ∈ out.map key ↔ x ∈ (out.take at_).map key ∨ x ∈ (out.drop at_).map key := by rw [← List.mem_append, ← List.map_append, List.take_append_drop]
   rw [List.map_append, List.map_append, List.map_append, List.mem_append, List.mem_append, List.mem_append, ← h, hsplit]
   constructor
   ·rintro ((h | h) | h)
    ·exact .inl (.inl h)
    ·exact .inr h
    ·exact .inl (.inr h)
   ·rintro ((h | h) | h)
    ·exact .inl (.inl h)
    ·exact .inr h
    ·exact .inl (.inr h)
 intro d
 induction d with
 | zero =>
  intro at_ hd ha h1
  obtain rfl : at_ = out.length := by omega
  refine Ev.step (fun k => ?_) (hput out.length (Nat.le_refl _) h1 (fun y hy => by rw [List.getElem?_eq_none (by rw [List.length_map]; exact Nat.le_refl _)] at hy; cases hy))
  simp only [spec_Bare.l1, hj, Option.bind_some, Int.toNat_natCast]
  rw [if_neg (by omega), if_pos (by omega), if_pos (by omega), if_pos (by rw [List.length_nil, List.length_take]; omega), if_pos (by rw [List.nil_append, List.length_take]; omega), if_pos (by simp only [List.nil_append, List.length_append, List.length_take, List.length_drop, List.length_singleton]; omega)]
 | succ d ih =>
  intro at_ hd ha h1
  have hal : at_ < out.length := by omega
  have w2 : wrap64 ((at_ : Int) + 1) = ((at_ + 1 : Nat) : Int) := succ64 (by omega)
  have hkey : (out.map key)[at_]? = some (key out[at_]) := by rw [List.getElem?_map, List.getElem?_eq_getElem hal]; rfl
  by_cases c : key out[at_] < key s
  ·refine Ev.step (fun k => ?_) (ih (at_ + 1) (by omega) (by omega) (fun x hx => by
    rw [List.take_add_one, hkey, List.mem_append] at hx
    rcases hx with m | m
    ·exact h1 x m
    ·have e : x = key out[at_] := by simpa using m
     rw [e]; exact c))
   simp only [spec_Bare.l1, rdB out at_ hal, toList_key, less_eq, w2]
   rw [if_pos (by omega), if_pos (by omega), if_pos (decide_eq_true c)]
  ·refine Ev.step (fun k => ?_) (hput at_ ha h1 (fun y hy => by rw [hkey] at hy; injection hy with e; rw [← e]; exact c))
   simp only [spec_Bare.l1, rdB out at_ hal, toList_key, less_eq, hj, Option.bind_some, Int.toNat_natCast]
   rw [if_pos (by omega), if_pos (by omega), if_neg (fun h => c (of_decide_eq_true h)), if_pos (by omega), if_pos (by rw [List.length_nil, List.length_take]; omega), if_pos (by rw [List.nil_append, List.length_take]; omega), if_pos (by simp only [List.nil_append, List.length_append, List.length_take, List.length_drop, List.length_singleton]; omega)]
theorem spec_loop (L : List S50) (hL : L.length ≤ 1048576) (v : List ByteArray) (hv : ∀ out, Told out (nms L) → out = v) : ∀ (d j : Nat), L.length - j = d → j ≤ L.length → ∀ out : List ByteArray, out.length ≤ j → Told out (nms (L.take j)) → Ev (fun k => spec_Bare.l0 k L out j) v := by
 intro d
 induction d with
 | zero =>
  intro j hd hj out ho hT
  obtain rfl : j = L.length := by omega
  rw [List.take_length] at hT
  refine Ev.cast (Ev.here fun k => ?_) (hv out hT)
  simp only [spec_Bare.l0]
  rw [if_neg (by omega)]
 | succ d ih =>
  intro j hd hj out ho hT
  have hjl : j < L.length := by omega
  have w2 : wrap64 ((j : Int) + 1) = ((j + 1 : Nat) : Int) := succ64 (by omega)
  have hn := nms_next L j hjl
  by_cases c : L[j].f0 = 2
  ·rw [if_pos c] at hn
   by_cases cm : key L[j].f2 ∈ out.map key
   ·have h := ih (j + 1) (by omega) (by omega) out (by omega) ⟨hT.strict, fun x => by
     rw [hn, List.map_append, List.mem_append, hT.mem x]
     refine ⟨fun h => .inl h, fun h => h.elim id fun h => ?_⟩
     rw [show x = key L[j].f2 by simpa using h]
     exact (hT.mem _).mp cm⟩
    refine Ev.step (f := fun k => (spec_l7Is.f k L[j].f2 out).bind fun t => spec_Bare.j1 k L out j L[j].f2 t) (fun k => ?_) (Ev.bind (Is_tells L[j].f2 out (by omega)) (Ev.step (fun k => ?_) h))
    ·simp only [spec_Bare.l0, rdI L j hjl]
     rw [if_pos (by omega), if_pos (by omega), if_pos c]
    ·simp only [spec_Bare.j1, w2]
     rw [if_pos (decide_eq_true cm)]
   ·have h := put_at L L[j].f2 j out (nms (L.take j)) (by omega) hT cm v (fun at_ ha hT' => by
     rw [← hn] at hT'
     exact ih (j + 1) (by omega) (by omega) _ (by simp only [List.length_append, List.length_take, List.length_drop, List.length_singleton]; omega) hT') (by rw [w2]; rfl) out.length 0 (by omega) (by omega) (fun x hx => by rw [List.take_zero] at hx; exact absurd hx List.not_mem_nil)
    refine Ev.step (f := fun k => (spec_l7Is.f k L[j].f2 out).bind fun t => spec_Bare.j1 k L out j L[j].f2 t) (fun k => ?_) (Ev.bind (Is_tells L[j].f2 out (by omega)) (Ev.step (fun k => ?_) h))
    ·simp only [spec_Bare.l0, rdI L j hjl]
     rw [if_pos (by omega), if_pos (by omega), if_pos c]
    ·simp only [spec_Bare.j1]
     rw [if_neg (fun h => cm (of_decide_eq_true h))]
     rfl
  ·rw [if_neg c, List.append_nil] at hn
   have h := ih (j + 1) (by omega) (by omega) out (by omega) (by rw [hn]; exact hT)
   refine Ev.step (f := fun k => spec_Bare.j1 k L out j L[j].f2 true) (fun k => ?_) (Ev.step (fun k => ?_) h)
   ·simp only [spec_Bare.l0, rdI L j hjl]
    rw [if_pos (by omega), if_pos (by omega), if_neg c]
   ·simp only [spec_Bare.j1, w2]
    rw [if_pos True.intro]
/-! ### the program -/
theorem impl_loop (L : List S50) (hL : L.length ≤ 1048576) : ∀ (d j : Nat), L.length - j = d → j ≤ L.length → Ev (fun k => impl_Bare.l0 k (nms (L.take j)) L (L.length : Int) j) (nms L) := by
 intro d
 induction d with
 | zero =>
  intro j hd hj
  obtain rfl : j = L.length := by omega
  rw [List.take_length]
  refine Ev.here fun k => ?_
  simp only [impl_Bare.l0]
  rw [if_neg (by omega)]
 | succ d ih =>
  intro j hd hj
  have hjl : j < L.length := by omega
  have w2 : wrap64 ((j : Int) + 1) = ((j + 1 : Nat) : Int) := succ64 (by omega)
  have hn := nms_next L j hjl
  have hl := nms_length (L.take j)
  rw [List.length_take] at hl
  have h := ih (j + 1) (by omega) (by omega)
  by_cases c : L[j].f0 = 2
  ·rw [if_pos c] at hn
   rw [hn] at h
   refine Ev.step (fun k => ?_) h
   simp only [impl_Bare.l0, rdI L j hjl, w2]
   rw [if_pos (by omega), if_pos (by omega), if_pos (by omega), if_pos c, if_pos (by omega)]
  ·rw [if_neg c, List.append_nil] at hn
   rw [hn] at h
   refine Ev.step (fun k => ?_) h
   simp only [impl_Bare.l0, rdI L j hjl, w2]
   rw [if_pos (by omega), if_pos (by omega), if_pos (by omega), if_neg c]
theorem sorted_keys (xs : List ByteArray) : (impl_Bare.sorted xs).map key = Go.Lib.compact ((xs.map key).mergeSort fun x y => decide (x ≤ y)) := by
 unfold impl_Bare.sorted
 rw [List.map_map]
 exact (List.map_congr_left (fun x _ => rfl)).trans (List.map_id _)
theorem sorted_told (xs : List ByteArray) : Told (impl_Bare.sorted xs) xs := ⟨by rw [sorted_keys]; exact sorted_strict _, fun x => by rw [sorted_keys]; exact sorted_mem _ x⟩
theorem told_one {a b names : List ByteArray} (ha : Told a names) (hb : Told b names) : a = b := keys_inj (strict_ext _ _ ha.strict hb.strict fun x => (ha.mem x).trans (hb.mem x).symm)
theorem sorted_length (xs : List ByteArray) : (impl_Bare.sorted xs).length ≤ xs.length := by
 unfold impl_Bare.sorted
 rw [List.length_map]
 refine Nat.le_trans (Go.Lib.compact_length_le _) ?_
 rw [List.length_mergeSort, List.length_map]
 exact Nat.le_refl _
theorem Bare_same (L : List S50) (hL : L.length ≤ 1048576) : ∃ v : List ByteArray, v.length ≤ 1048576 ∧ Ev (fun k => spec_Bare.f k L) v ∧ Ev (fun k => impl_Bare.f k L) v := by
 have hn := nms_length L
 refine ⟨impl_Bare.sorted (nms L), Nat.le_trans (sorted_length _) (by omega), ?_, ?_⟩
 ·exact spec_loop L hL _ (fun out hT => told_one hT (sorted_told _)) L.length 0 (by omega) (by omega) [] (Nat.le_refl _) ⟨List.Pairwise.nil, fun x => by rw [List.take_zero]; exact Iff.rfl⟩
 ·unfold impl_Bare.f
  have h := impl_loop L hL L.length 0 (by omega) (by omega)
  rw [List.take_zero] at h
  exact Ev.bind h (Ev.ite_pos (by omega) (Ev.now _))
end Go.Proofs.Ytgljgbkbjlondaa.Ba
