/- Marks: the laws' own code writes numbers and texts that count up into a row of items: it ends, with a number above 0. No conditions but the sizes. -/
import Derived.Test.YtgljgbkbjlondaaMarkAttrBase
import Derived.Test.YtgljgbkbjlondaaMarkIntBase
import Derived.Test.YtgljgbkbjlondaaPb7
set_option linter.unusedVariables false
set_option linter.unusedSimpArgs false
namespace Go.Proofs.Ytgljgbkbjlondaa.Mk
open Go.RowKit Go.Proofs.Ytgljgbkbjlondaa.P Go.Proofs.Ytgljgbkbjlondaa.Evs Go.Proofs.YtgljgbkbjlondaaW.PrintWords Go.Proofs.YtgljgbkbjlondaaW.PrintLast

theorem markItemS_loop (n : Nat) (hn : n ≤ 1048576) : ∀ (d j : Nat) (xs : List S50) (c : Nat), n - j = d → j ≤ n → xs.length = n → (∀ y ∈ xs.drop j, y.f3.length ≤ 1048576 ∧ y.f6.length ≤ 1048576) → c + d * 3145738 ≤ 1152921504600000000 →
  ∃ (r : Nat) (ys : List S50), Ev (fun k => laws_markItemS.l0 k xs (c : Int) j) ((r : Int), ys) := by
 intro d
 induction d with
 | zero =>
  intro j xs c hd hj hx _ _
  refine ⟨c, xs, Ev.here fun k => ?_⟩
  simp only [laws_markItemS.l0]
  rw [if_neg (by rw [hx]; omega)]
 | succ d ih =>
  intro j xs c hd hj hx hall hc
  have hjl : j < xs.length := by omega
  have hrd : rd_T50 xs (j : Int) = xs[j] := rdT _ _ j hjl
  obtain ⟨ha, hb⟩ := hall xs[j] (by rw [List.drop_eq_getElem_cons hjl]; exact List.mem_cons_self)
  have t1 := mt_tells (c + 2) (by omega)
  have t2 := markAttrS_tells xs[j].f3 (c + 3) ha (by omega)
  have t3 := mt_tells (c + 3 + 2 * xs[j].f3.length) (by omega)
  have t4 := markIntS_tells xs[j].f6 (c + 5 + 2 * xs[j].f3.length) hb (by omega)
  have b1 : c + 1 < 9223372036854775807 := by omega
  have b2 : c + 3 + 2 * xs[j].f3.length + 3 < 9223372036854775807 := by omega
  have b3 : j < 9223372036854775807 := by omega
  have b4 : (j : Int) < (xs.length : Int) := by omega
  have B5 := Aside0.mk (show c + 2 < 9223372036854775807 by omega)
  have E1 := Aside0.mk (show c + 3 + 2 * xs[j].f3.length + 1 = c + 4 + 2 * xs[j].f3.length by omega)
  have E2 := Aside0.mk (show c + 4 + 2 * xs[j].f3.length + 1 = c + 5 + 2 * xs[j].f3.length by omega)
  have E3 := Aside0.mk (show c + 4 + 2 * xs[j].f3.length < 9223372036854775807 by omega)
  obtain ⟨r, ys, er⟩ := ih (j + 1) (xs.set j (⟨(c : Int), ((c + 1 : Nat) : Int), mt (c + 2), mas (c + 3) xs[j].f3.length, mt (c + 3 + 2 * xs[j].f3.length), ((c + 4 + 2 * xs[j].f3.length : Nat) : Int), mis (c + 5 + 2 * xs[j].f3.length) xs[j].f6.length⟩ : S50)) (c + 5 + 2 * xs[j].f3.length + xs[j].f6.length) (by omega) (by omega) (by rw [List.length_set]; exact hx)
   (fun y hy => hall y (by rw [List.drop_set_of_lt (by omega)] at hy; rw [List.drop_eq_getElem_cons hjl]; exact List.mem_cons_of_mem _ hy)) (by omega)
  have w1 : wrap64 ((c : Int) + 1) = ((c + 1 : Nat) : Int) := succ64 (Nat.lt_of_succ_lt b1)
  have w2 : wrap64 (((c + 1 : Nat) : Int) + 1) = ((c + 2 : Nat) : Int) := succ64 b1
  have w3 : wrap64 (((c + 2 : Nat) : Int) + 1) = ((c + 3 : Nat) : Int) := succ64 B5.out
  have w4 : wrap64 (((c + 3 + 2 * xs[j].f3.length : Nat) : Int) + 1) = ((c + 4 + 2 * xs[j].f3.length : Nat) : Int) := (succ64 (Nat.lt_of_succ_lt (Nat.lt_of_succ_lt (Nat.lt_of_succ_lt b2)))).trans (congrArg Nat.cast (show c + 3 + 2 * xs[j].f3.length + 1 = c + 4 + 2 * xs[j].f3.length from E1.out))
  have w5 : wrap64 (((c + 4 + 2 * xs[j].f3.length : Nat) : Int) + 1) = ((c + 5 + 2 * xs[j].f3.length : Nat) : Int) := (succ64 (E3.out)).trans (congrArg Nat.cast (show c + 4 + 2 * xs[j].f3.length + 1 = c + 5 + 2 * xs[j].f3.length from E2.out))
  have w6 : wrap64 ((j : Int) + 1) = ((j + 1 : Nat) : Int) := succ64 b3
  refine ⟨r, ys, Ev.step (f := fun k => (laws_markText.f k ((c + 2 : Nat) : Int)).bind fun t => (laws_markAttrS.f k xs[j].f3 ((c + 3 : Nat) : Int)).bind fun b => (laws_markText.f k b.1).bind fun t2 => (laws_markIntS.f k xs[j].f6 (wrap64 (wrap64 (b.1 + 1) + 1))).bind fun d => laws_markItemS.l0 k (xs.set j (⟨(c : Int), ((c + 1 : Nat) : Int), t, b.2, t2, wrap64 (b.1 + 1), d.2⟩ : S50)) d.1 ((j + 1 : Nat) : Int)) (fun k => ?_) (Ev.bind t1 (Ev.bind t2 (Ev.bind t3 ?_)))⟩
  ·simp only [laws_markItemS.l0, hrd, w1, w2, w3, w6, Int.toNat_natCast]
   rw [if_pos b4, if_pos (Int.natCast_nonneg j)]
  ·simp only [w4, w5]
   exact Ev.bind t4 er
theorem markItemS_tells (xs : List S50) (hl : xs.length ≤ 1048576) (hx : ∀ y ∈ xs, y.f3.length ≤ 1048576 ∧ y.f6.length ≤ 1048576) : ∃ r : Nat, Ev (fun k => laws_markItemS.f k xs 1) (r : Int) := by
 obtain ⟨r, ys, e⟩ := markItemS_loop xs.length hl xs.length 0 xs 1 (by omega) (by omega) rfl (by rw [List.drop_zero]; exact hx) (by omega)
 refine ⟨r, ?_⟩
 unfold laws_markItemS.f laws_markItemS.g
 exact Ev.bind e (Ev.now _)
end Go.Proofs.Ytgljgbkbjlondaa.Mk
