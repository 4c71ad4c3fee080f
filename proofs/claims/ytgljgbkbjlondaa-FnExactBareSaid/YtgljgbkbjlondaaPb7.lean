-- WRITTEN BY hprint.py, this session's own program, over the kit's printer: not typed by hand; Lean checks it
import Derived.Test.YtgljgbkbjlondaaPb0
import Derived.Test.YtgljgbkbjlondaaPb6
namespace Go.Proofs.Ytgljgbkbjlondaa.P
open Go.RowKit Go.Proofs.YtgljgbkbjlondaaW.PrintWords Go.Proofs.YtgljgbkbjlondaaW.PrintLast Go.Proofs.YtgljgbkbjlondaaW.PrintMore
attribute [local go_sem] max2_int min2_int max_two min_two max_three min_three max_four min_four   -- for this text's walks alone
set_option linter.unusedVariables false
set_option linter.unusedSimpArgs false

/-! ### laws_markItemS: function 11 (by hand) -/
section
open Go.Proofs.YtgljgbkbjlondaaW.PrintMore
theorem typed_own {α : Type} {d : Kd α} {e base : Nat} {ok : Nat → Prop} {w : World} {v : Value} {xs : List α} (hE : d.E = []) (h : d.R e w base ok v xs) (k : Nat) (hk : v.ownBlock = some k) : ∃ cells, w.heap[k]? = some (.cells cells e (0, 0)) := by
 obtain ⟨_, _, _, q, hq, cells, hc⟩ := (Kd.R_bound h).1 k hk
 rw [hE, List.mem_singleton] at hq
 subst hq
 exact ⟨cells, hc⟩
/-- A row of elements of one type is as it was behind a call that wrote another one's own block. -/
theorem other_type {α β : Type} {d : Kd α} {d2 : Kd β} {e e2 base : Nat} {ok ok2 S : Nat → Prop} {w w1 : World} {v v2 : Value} {xs : List α} {ys : List β} (hE : d.E = []) (hE2 : d2.E = []) (hne : e ≠ e2) (h : d.R e w base ok v xs) (h2 : d2.R e2 w base ok2 v2 ys) (hk : Kept w w1 (fun k => some k = v2.ownBlock ∧ S k)) : d.R e w1 base ok v xs := by
 refine Kd.R_mono (Kd.R_step (Kd.R_bound h) (fun k hk1 hlt => hk.2 k hlt (fun hp => ?_))) (fun k hk => hk.1)
 obtain ⟨_, _, _, q, hq, cells, hc⟩ := hk1
 rw [hE, List.mem_singleton] at hq
 subst hq
 obtain ⟨cells2, hc2⟩ := typed_own hE2 h2 k hp.1.symm
 rw [hc] at hc2
 injection hc2 with hc2
 injection hc2 with _ h3 _
 exact hne h3
/-- The attributes of item i, lent. -/
theorem S_attrs {w : World} {base : Nat} {ok : Nat → Prop} {g n cap : Nat} {xs : List S50} (hS : Kd.S k50 50 w base ok (.slice (some ⟨g, 0, none⟩) n cap) xs) (i : Int) (h0 : 0 ≤ i) (h1 : i < n) :
  ∃ v3, w.cell? ⟨g, i.toNat * 7 + 3, none⟩ = some v3 ∧ Kd.R k71 71 w base (fun k => some k = v3.ownBlock ∧ ok k) v3 (rd_T50 xs i).f3 ∧
   ∀ (w1 : World) (ok2 : Nat → Prop) (r2 : List S71), Kd.R k71 71 w1 base ok2 v3 r2 → Kept w w1 (fun k => some k = v3.ownBlock ∧ ok k) →
    Kd.S k50 50 w1 base ok (.slice (some ⟨g, 0, none⟩) n cap) (xs.set i.toNat (⟨(rd_T50 xs i).f0, (rd_T50 xs i).f1, (rd_T50 xs i).f2, r2, (rd_T50 xs i).f4, (rd_T50 xs i).f5, (rd_T50 xs i).f6⟩ : S50)) := by
 obtain ⟨oki, c, hcl, hM, hcc, hoki, hH⟩ := Kd.S_lend hS z50 i h0 h1
 obtain ⟨v3, v6, rfl, g3, g6⟩ := k50_openM hM
 refine ⟨v3, hcc 3 v3 rfl, Kd.R_mono (Kd.R_tight2 rfl g3) (fun k hk => ⟨hk.1, (hoki k hk.2).1⟩), fun w1 ok2 r2 hr hk => ?_⟩
 have hH1 := Kd.H_step (w1 := w1) hH (fun k hok hn hlt => hk.2 k hlt (fun hp => hn (g3.1 k hp.1.symm)))
 have g3' := Kd.R_mono (Kd.R_tight rfl hr) (fun k hk => g3.1 k hk.symm)
 have g6' := other_type rfl rfl (by decide) g6 g3 hk
 exact Kd.H_back hH1 (k50_mkM w1 base oki (⟨(rd_T50 xs i).f0, (rd_T50 xs i).f1, (rd_T50 xs i).f2, r2, (rd_T50 xs i).f4, (rd_T50 xs i).f5, (rd_T50 xs i).f6⟩ : S50) g3' g6') (fun _ hk => hk)
/-- The kids of item i, lent. -/
theorem S_kids {w : World} {base : Nat} {ok : Nat → Prop} {g n cap : Nat} {xs : List S50} (hS : Kd.S k50 50 w base ok (.slice (some ⟨g, 0, none⟩) n cap) xs) (i : Int) (h0 : 0 ≤ i) (h1 : i < n) :
  ∃ v6, w.cell? ⟨g, i.toNat * 7 + 6, none⟩ = some v6 ∧ Kd.R (Kd.int .i64) 3 w base (fun k => some k = v6.ownBlock ∧ ok k) v6 (rd_T50 xs i).f6 ∧
   ∀ (w1 : World) (ok2 : Nat → Prop) (r2 : List Int), Kd.R (Kd.int .i64) 3 w1 base ok2 v6 r2 → Kept w w1 (fun k => some k = v6.ownBlock ∧ ok k) →
    Kd.S k50 50 w1 base ok (.slice (some ⟨g, 0, none⟩) n cap) (xs.set i.toNat (⟨(rd_T50 xs i).f0, (rd_T50 xs i).f1, (rd_T50 xs i).f2, (rd_T50 xs i).f3, (rd_T50 xs i).f4, (rd_T50 xs i).f5, r2⟩ : S50)) := by
 obtain ⟨oki, c, hcl, hM, hcc, hoki, hH⟩ := Kd.S_lend hS z50 i h0 h1
 obtain ⟨v3, v6, rfl, g3, g6⟩ := k50_openM hM
 refine ⟨v6, hcc 6 v6 rfl, Kd.R_mono (Kd.R_tight2 rfl g6) (fun k hk => ⟨hk.1, (hoki k hk.2).1⟩), fun w1 ok2 r2 hr hk => ?_⟩
 have hH1 := Kd.H_step (w1 := w1) hH (fun k hok hn hlt => hk.2 k hlt (fun hp => hn (g6.1 k hp.1.symm)))
 have g6' := Kd.R_mono (Kd.R_tight rfl hr) (fun k hk => g6.1 k hk.symm)
 have g3' := other_type rfl rfl (by decide) g3 g6 hk
 exact Kd.H_back hH1 (k50_mkM w1 base oki (⟨(rd_T50 xs i).f0, (rd_T50 xs i).f1, (rd_T50 xs i).f2, (rd_T50 xs i).f3, (rd_T50 xs i).f4, (rd_T50 xs i).f5, r2⟩ : S50) g3' g6') (fun _ hk => hk)
/-- A plain field of item i is written: the cells of the item as they were are told to the caller. -/
theorem S_put {w : World} {base : Nat} {ok : Nat → Prop} {g n cap : Nat} {xs : List S50} (hS : Kd.S k50 50 w base ok (.slice (some ⟨g, 0, none⟩) n cap) xs) (i : Int) (h0 : 0 ≤ i) (h1 : i < n) (j : Nat) (hj : j < 7) (u : Value) (x' : S50)
  (hM' : ∀ (ok' : Nat → Prop) (v3 v6 : Value), Kd.R k71 71 w base ok' v3 (rd_T50 xs i).f3 → Kd.R (Kd.int .i64) 3 w base ok' v6 (rd_T50 xs i).f6 →
   k50.M w base ok' x' ((([.int .i64 (rd_T50 xs i).f0, .int .i64 (rd_T50 xs i).f1, .string (rd_T50 xs i).f2, v3, .string (rd_T50 xs i).f4, .int .i64 (rd_T50 xs i).f5, v6] : List Value).take j) ++ [u] ++ (([.int .i64 (rd_T50 xs i).f0, .int .i64 (rd_T50 xs i).f1, .string (rd_T50 xs i).f2, v3, .string (rd_T50 xs i).f4, .int .i64 (rd_T50 xs i).f5, v6] : List Value).drop (j + 1)))) :
  Kd.S k50 50 (w.setCell ⟨g, i.toNat * 7 + j, none⟩ u) base ok (.slice (some ⟨g, 0, none⟩) n cap) (xs.set i.toNat x') ∧ w.grownBy (w.setCell ⟨g, i.toNat * 7 + j, none⟩ u) (some g) := by
 obtain ⟨oki, c, hcl, hM, hcc, hfr, hoki, hH⟩ := Kd.S_elem hS z50 i h0 h1
 obtain ⟨v3, v6, rfl, g3, g6⟩ := k50_openM hM
 exact Kd.S_seg (okg := fun _ => False) (okp := oki) (Kd.H_mono hH (fun k hk => ⟨hk, fun h => h⟩)) h0 h1 (seg := [u]) (j := j) hj (x' := x') (hM' oki v3 v6 g3 g6) (fun k hk => Or.inl hk) (fun k hk => hk.elim)
theorem S_put0 {w : World} {base : Nat} {ok : Nat → Prop} {g n cap : Nat} {xs : List S50} (hS : Kd.S k50 50 w base ok (.slice (some ⟨g, 0, none⟩) n cap) xs) (i : Int) (h0 : 0 ≤ i) (h1 : i < n) (a : Int) :
  Kd.S k50 50 (w.setCell ⟨g, i.toNat * 7 + 0, none⟩ (.int .i64 a)) base ok (.slice (some ⟨g, 0, none⟩) n cap) (xs.set i.toNat (⟨a, (rd_T50 xs i).f1, (rd_T50 xs i).f2, (rd_T50 xs i).f3, (rd_T50 xs i).f4, (rd_T50 xs i).f5, (rd_T50 xs i).f6⟩ : S50)) ∧ w.grownBy (w.setCell ⟨g, i.toNat * 7 + 0, none⟩ (.int .i64 a)) (some g) :=
 S_put hS i h0 h1 0 (by decide) (.int .i64 a) (⟨a, (rd_T50 xs i).f1, (rd_T50 xs i).f2, (rd_T50 xs i).f3, (rd_T50 xs i).f4, (rd_T50 xs i).f5, (rd_T50 xs i).f6⟩ : S50) (fun ok' v3 v6 g3 g6 => k50_mkM w base ok' (⟨a, (rd_T50 xs i).f1, (rd_T50 xs i).f2, (rd_T50 xs i).f3, (rd_T50 xs i).f4, (rd_T50 xs i).f5, (rd_T50 xs i).f6⟩ : S50) g3 g6)
theorem S_put1 {w : World} {base : Nat} {ok : Nat → Prop} {g n cap : Nat} {xs : List S50} (hS : Kd.S k50 50 w base ok (.slice (some ⟨g, 0, none⟩) n cap) xs) (i : Int) (h0 : 0 ≤ i) (h1 : i < n) (a : Int) :
  Kd.S k50 50 (w.setCell ⟨g, i.toNat * 7 + 1, none⟩ (.int .i64 a)) base ok (.slice (some ⟨g, 0, none⟩) n cap) (xs.set i.toNat (⟨(rd_T50 xs i).f0, a, (rd_T50 xs i).f2, (rd_T50 xs i).f3, (rd_T50 xs i).f4, (rd_T50 xs i).f5, (rd_T50 xs i).f6⟩ : S50)) ∧ w.grownBy (w.setCell ⟨g, i.toNat * 7 + 1, none⟩ (.int .i64 a)) (some g) :=
 S_put hS i h0 h1 1 (by decide) (.int .i64 a) (⟨(rd_T50 xs i).f0, a, (rd_T50 xs i).f2, (rd_T50 xs i).f3, (rd_T50 xs i).f4, (rd_T50 xs i).f5, (rd_T50 xs i).f6⟩ : S50) (fun ok' v3 v6 g3 g6 => k50_mkM w base ok' (⟨(rd_T50 xs i).f0, a, (rd_T50 xs i).f2, (rd_T50 xs i).f3, (rd_T50 xs i).f4, (rd_T50 xs i).f5, (rd_T50 xs i).f6⟩ : S50) g3 g6)
theorem S_put2 {w : World} {base : Nat} {ok : Nat → Prop} {g n cap : Nat} {xs : List S50} (hS : Kd.S k50 50 w base ok (.slice (some ⟨g, 0, none⟩) n cap) xs) (i : Int) (h0 : 0 ≤ i) (h1 : i < n) (a : ByteArray) :
  Kd.S k50 50 (w.setCell ⟨g, i.toNat * 7 + 2, none⟩ (.string a)) base ok (.slice (some ⟨g, 0, none⟩) n cap) (xs.set i.toNat (⟨(rd_T50 xs i).f0, (rd_T50 xs i).f1, a, (rd_T50 xs i).f3, (rd_T50 xs i).f4, (rd_T50 xs i).f5, (rd_T50 xs i).f6⟩ : S50)) ∧ w.grownBy (w.setCell ⟨g, i.toNat * 7 + 2, none⟩ (.string a)) (some g) :=
 S_put hS i h0 h1 2 (by decide) (.string a) (⟨(rd_T50 xs i).f0, (rd_T50 xs i).f1, a, (rd_T50 xs i).f3, (rd_T50 xs i).f4, (rd_T50 xs i).f5, (rd_T50 xs i).f6⟩ : S50) (fun ok' v3 v6 g3 g6 => k50_mkM w base ok' (⟨(rd_T50 xs i).f0, (rd_T50 xs i).f1, a, (rd_T50 xs i).f3, (rd_T50 xs i).f4, (rd_T50 xs i).f5, (rd_T50 xs i).f6⟩ : S50) g3 g6)
theorem S_put4 {w : World} {base : Nat} {ok : Nat → Prop} {g n cap : Nat} {xs : List S50} (hS : Kd.S k50 50 w base ok (.slice (some ⟨g, 0, none⟩) n cap) xs) (i : Int) (h0 : 0 ≤ i) (h1 : i < n) (a : ByteArray) :
  Kd.S k50 50 (w.setCell ⟨g, i.toNat * 7 + 4, none⟩ (.string a)) base ok (.slice (some ⟨g, 0, none⟩) n cap) (xs.set i.toNat (⟨(rd_T50 xs i).f0, (rd_T50 xs i).f1, (rd_T50 xs i).f2, (rd_T50 xs i).f3, a, (rd_T50 xs i).f5, (rd_T50 xs i).f6⟩ : S50)) ∧ w.grownBy (w.setCell ⟨g, i.toNat * 7 + 4, none⟩ (.string a)) (some g) :=
 S_put hS i h0 h1 4 (by decide) (.string a) (⟨(rd_T50 xs i).f0, (rd_T50 xs i).f1, (rd_T50 xs i).f2, (rd_T50 xs i).f3, a, (rd_T50 xs i).f5, (rd_T50 xs i).f6⟩ : S50) (fun ok' v3 v6 g3 g6 => k50_mkM w base ok' (⟨(rd_T50 xs i).f0, (rd_T50 xs i).f1, (rd_T50 xs i).f2, (rd_T50 xs i).f3, a, (rd_T50 xs i).f5, (rd_T50 xs i).f6⟩ : S50) g3 g6)
theorem S_put5 {w : World} {base : Nat} {ok : Nat → Prop} {g n cap : Nat} {xs : List S50} (hS : Kd.S k50 50 w base ok (.slice (some ⟨g, 0, none⟩) n cap) xs) (i : Int) (h0 : 0 ≤ i) (h1 : i < n) (a : Int) :
  Kd.S k50 50 (w.setCell ⟨g, i.toNat * 7 + 5, none⟩ (.int .i64 a)) base ok (.slice (some ⟨g, 0, none⟩) n cap) (xs.set i.toNat (⟨(rd_T50 xs i).f0, (rd_T50 xs i).f1, (rd_T50 xs i).f2, (rd_T50 xs i).f3, (rd_T50 xs i).f4, a, (rd_T50 xs i).f6⟩ : S50)) ∧ w.grownBy (w.setCell ⟨g, i.toNat * 7 + 5, none⟩ (.int .i64 a)) (some g) :=
 S_put hS i h0 h1 5 (by decide) (.int .i64 a) (⟨(rd_T50 xs i).f0, (rd_T50 xs i).f1, (rd_T50 xs i).f2, (rd_T50 xs i).f3, (rd_T50 xs i).f4, a, (rd_T50 xs i).f6⟩ : S50) (fun ok' v3 v6 g3 g6 => k50_mkM w base ok' (⟨(rd_T50 xs i).f0, (rd_T50 xs i).f1, (rd_T50 xs i).f2, (rd_T50 xs i).f3, (rd_T50 xs i).f4, a, (rd_T50 xs i).f6⟩ : S50) g3 g6)

/-! ### the same of a row whose item i has been written already -/
theorem rd_set (xs : List S50) (x : S50) (i : Int) (h0 : 0 ≤ i) (h1 : i < (xs.length : Int)) : rd_T50 (xs.set i.toNat x) i = x := by
 unfold rd_T50
 rw [List.getD_eq_getElem?_getD, List.getElem?_set_self (by omega)]
 rfl
theorem S_next1 {w : World} {base : Nat} {ok : Nat → Prop} {g n cap : Nat} {xs : List S50} {x : S50} {i : Int} (hS : Kd.S k50 50 w base ok (.slice (some ⟨g, 0, none⟩) n cap) (xs.set i.toNat x)) (h0 : 0 ≤ i) (h1 : i < n) (hl : i < (xs.length : Int)) (a : Int) :
  Kd.S k50 50 (w.setCell ⟨g, i.toNat * 7 + 1, none⟩ (.int .i64 a)) base ok (.slice (some ⟨g, 0, none⟩) n cap) (xs.set i.toNat (⟨x.f0, a, x.f2, x.f3, x.f4, x.f5, x.f6⟩ : S50)) ∧ w.grownBy (w.setCell ⟨g, i.toNat * 7 + 1, none⟩ (.int .i64 a)) (some g) := by
 have h := S_put1 hS i h0 h1 a
 rw [rd_set xs x i h0 hl, List.set_set] at h
 exact h
theorem S_next2 {w : World} {base : Nat} {ok : Nat → Prop} {g n cap : Nat} {xs : List S50} {x : S50} {i : Int} (hS : Kd.S k50 50 w base ok (.slice (some ⟨g, 0, none⟩) n cap) (xs.set i.toNat x)) (h0 : 0 ≤ i) (h1 : i < n) (hl : i < (xs.length : Int)) (a : ByteArray) :
  Kd.S k50 50 (w.setCell ⟨g, i.toNat * 7 + 2, none⟩ (.string a)) base ok (.slice (some ⟨g, 0, none⟩) n cap) (xs.set i.toNat (⟨x.f0, x.f1, a, x.f3, x.f4, x.f5, x.f6⟩ : S50)) ∧ w.grownBy (w.setCell ⟨g, i.toNat * 7 + 2, none⟩ (.string a)) (some g) := by
 have h := S_put2 hS i h0 h1 a
 rw [rd_set xs x i h0 hl, List.set_set] at h
 exact h
theorem S_next4 {w : World} {base : Nat} {ok : Nat → Prop} {g n cap : Nat} {xs : List S50} {x : S50} {i : Int} (hS : Kd.S k50 50 w base ok (.slice (some ⟨g, 0, none⟩) n cap) (xs.set i.toNat x)) (h0 : 0 ≤ i) (h1 : i < n) (hl : i < (xs.length : Int)) (a : ByteArray) :
  Kd.S k50 50 (w.setCell ⟨g, i.toNat * 7 + 4, none⟩ (.string a)) base ok (.slice (some ⟨g, 0, none⟩) n cap) (xs.set i.toNat (⟨x.f0, x.f1, x.f2, x.f3, a, x.f5, x.f6⟩ : S50)) ∧ w.grownBy (w.setCell ⟨g, i.toNat * 7 + 4, none⟩ (.string a)) (some g) := by
 have h := S_put4 hS i h0 h1 a
 rw [rd_set xs x i h0 hl, List.set_set] at h
 exact h
theorem S_next5 {w : World} {base : Nat} {ok : Nat → Prop} {g n cap : Nat} {xs : List S50} {x : S50} {i : Int} (hS : Kd.S k50 50 w base ok (.slice (some ⟨g, 0, none⟩) n cap) (xs.set i.toNat x)) (h0 : 0 ≤ i) (h1 : i < n) (hl : i < (xs.length : Int)) (a : Int) :
  Kd.S k50 50 (w.setCell ⟨g, i.toNat * 7 + 5, none⟩ (.int .i64 a)) base ok (.slice (some ⟨g, 0, none⟩) n cap) (xs.set i.toNat (⟨x.f0, x.f1, x.f2, x.f3, x.f4, a, x.f6⟩ : S50)) ∧ w.grownBy (w.setCell ⟨g, i.toNat * 7 + 5, none⟩ (.int .i64 a)) (some g) := by
 have h := S_put5 hS i h0 h1 a
 rw [rd_set xs x i h0 hl, List.set_set] at h
 exact h
theorem S_attrs' {w : World} {base : Nat} {ok : Nat → Prop} {g n cap : Nat} {xs : List S50} {x : S50} {i : Int} (hS : Kd.S k50 50 w base ok (.slice (some ⟨g, 0, none⟩) n cap) (xs.set i.toNat x)) (h0 : 0 ≤ i) (h1 : i < n) (hl : i < (xs.length : Int)) :
  ∃ v3, w.cell? ⟨g, i.toNat * 7 + 3, none⟩ = some v3 ∧ Kd.R k71 71 w base (fun k => some k = v3.ownBlock ∧ ok k) v3 x.f3 ∧
   ∀ (w1 : World) (ok2 : Nat → Prop) (r2 : List S71), Kd.R k71 71 w1 base ok2 v3 r2 → Kept w w1 (fun k => some k = v3.ownBlock ∧ ok k) →
    Kd.S k50 50 w1 base ok (.slice (some ⟨g, 0, none⟩) n cap) (xs.set i.toNat (⟨x.f0, x.f1, x.f2, r2, x.f4, x.f5, x.f6⟩ : S50)) := by
 obtain ⟨v3, hc, hr, hb⟩ := S_attrs hS i h0 h1
 rw [rd_set xs x i h0 hl] at hr hb
 refine ⟨v3, hc, hr, fun w1 ok2 r2 h2 hk => ?_⟩
 have h := hb w1 ok2 r2 h2 hk
 rw [List.set_set] at h
 exact h
theorem S_kids' {w : World} {base : Nat} {ok : Nat → Prop} {g n cap : Nat} {xs : List S50} {x : S50} {i : Int} (hS : Kd.S k50 50 w base ok (.slice (some ⟨g, 0, none⟩) n cap) (xs.set i.toNat x)) (h0 : 0 ≤ i) (h1 : i < n) (hl : i < (xs.length : Int)) :
  ∃ v6, w.cell? ⟨g, i.toNat * 7 + 6, none⟩ = some v6 ∧ Kd.R (Kd.int .i64) 3 w base (fun k => some k = v6.ownBlock ∧ ok k) v6 x.f6 ∧
   ∀ (w1 : World) (ok2 : Nat → Prop) (r2 : List Int), Kd.R (Kd.int .i64) 3 w1 base ok2 v6 r2 → Kept w w1 (fun k => some k = v6.ownBlock ∧ ok k) →
    Kd.S k50 50 w1 base ok (.slice (some ⟨g, 0, none⟩) n cap) (xs.set i.toNat (⟨x.f0, x.f1, x.f2, x.f3, x.f4, x.f5, r2⟩ : S50)) := by
 obtain ⟨v6, hc, hr, hb⟩ := S_kids hS i h0 h1
 rw [rd_set xs x i h0 hl] at hr hb
 refine ⟨v6, hc, hr, fun w1 ok2 r2 h2 hk => ?_⟩
 have h := hb w1 ok2 r2 h2 hk
 rw [List.set_set] at h
 exact h
/-- What a store into field j of item i meets. -/
theorem S_cells {w : World} {base : Nat} {ok : Nat → Prop} {g n cap : Nat} {xs : List S50} (hS : Kd.S k50 50 w base ok (.slice (some ⟨g, 0, none⟩) n cap) xs) (i : Int) (h0 : 0 ≤ i) (h1 : i < n) (j : Nat) (hj : j < 7) :
  (∃ v, w.cell? ⟨g, i.toNat * 7 + j, none⟩ = some v) ∧ w.frozen? ⟨g, i.toNat * 7 + j, none⟩ = false := by
 obtain ⟨oki, c, hcl, hM, hcc, hfr, _, _⟩ := Kd.S_elem hS z50 i h0 h1
 obtain ⟨v3, v6, rfl, _, _⟩ := k50_openM hM
 refine ⟨?_, hfr j⟩
 match j, hj with
 | 0, _ => exact ⟨_, hcc 0 _ rfl⟩
 | 1, _ => exact ⟨_, hcc 1 _ rfl⟩
 | 2, _ => exact ⟨_, hcc 2 _ rfl⟩
 | 3, _ => exact ⟨_, hcc 3 _ rfl⟩
 | 4, _ => exact ⟨_, hcc 4 _ rfl⟩
 | 5, _ => exact ⟨_, hcc 5 _ rfl⟩
 | 6, _ => exact ⟨_, hcc 6 _ rfl⟩

def laws_markItemS.l0 : Nat → List S50 → Int → Int → Option (Int × List S50)
 | 0, _, _, _ => none
 | k + 1, x0, x1, x5 => if x5 < (x0.length : Int) then (if 0 ≤ x5 then ((laws_markText.f k (wrap64 (wrap64 (x1 + 1) + 1))).bind fun t => (laws_markAttrS.f k (rd_T50 x0 x5).f3 (wrap64 (wrap64 (wrap64 (x1 + 1) + 1) + 1))).bind fun b => (laws_markText.f k b.1).bind fun t2 => (laws_markIntS.f k (rd_T50 x0 x5).f6 (wrap64 (wrap64 (b.1 + 1) + 1))).bind fun d => laws_markItemS.l0 k (x0.set x5.toNat (⟨x1, wrap64 (x1 + 1), t, b.2, t2, wrap64 (b.1 + 1), d.2⟩ : S50)) d.1 (wrap64 (x5 + 1))) else none) else some (x1, x0)
def laws_markItemS.g (k : Nat) (l0 : List S50) (a1 : Int) : Option (Int × List S50) := laws_markItemS.l0 k l0 a1 0
def laws_markItemS.f (k : Nat) (l0 : List S50) (a1 : Int) : Option Int := (laws_markItemS.g k l0 a1).bind fun r => some r.1
theorem laws_markItemS.mono_l : ∀ k, (∀ y0 y1 y2, LeO (laws_markItemS.l0 k y0 y1 y2) (laws_markItemS.l0 (k + 1) y0 y1 y2))
 | 0 => fun _ _ _ r h => by simp [laws_markItemS.l0] at h
 | k + 1 => by
  have ih0 := laws_markItemS.mono_l k
  intro y0 y1 y2
  unfold laws_markItemS.l0
  repeat' first
   | (with_reducible exact ih0 _ _ _)
   | (with_reducible exact laws_markText.mono _ _)
   | (with_reducible exact laws_markAttrS.mono _ _ _)
   | (with_reducible exact laws_markIntS.mono _ _ _)
   | (with_reducible exact LeO.refl _)
   | (with_reducible exact LeO.none _)
   | (with_reducible refine LeO.ite ?_ ?_)
   | (with_reducible refine LeO.bind ?_ (fun _ => ?_))
theorem laws_markItemS.mono : ∀ a0 a1 k, LeO (laws_markItemS.f k a0 a1) (laws_markItemS.f (k + 1) a0 a1) := fun a0 a1 k => LeO.bind (laws_markItemS.mono_l k _ _ _) (fun _ => LeO.refl _)
set_option maxHeartbeats 8000000 in
set_option maxRecDepth 100000 in
theorem laws_markItemS.calls_g (k : Nat) (P0_ : Nat → Prop) (u9000_ : Value) (l0 : List S50) (a1 : Int) (r1 : Int) (r2 : List S50) (w0 w : World) (hB : Below w0.heap.size w0 w) (ho0 : Kd.S k50 50 w w0.heap.size P0_ u9000_ l0) (h : laws_markItemS.g k l0 a1 = some (r1, r2)) :
  Calls Try.prog 11 #[u9000_, .int .i64 a1] w fun e w' => e = .returned (.int .i64 r1) ∧ Kd.S k50 50 w' w0.heap.size (fun k_ => (P0_ k_ ∨ w.heap.size ≤ k_)) u9000_ r2 ∧ Below w0.heap.size w0 w' ∧ Kept w w' (fun k_ => P0_ k_) := by
 have HO0 := Aside0.mk (show Kd.S k50 50 w w0.heap.size (fun k_ => (P0_ k_ ∨ w.heap.size ≤ k_)) u9000_ l0 from Kd.S_mono ho0 (fun k_ hk => (.inl hk)))
 have HK := Aside0.mk (Kept.refl w (fun k_ => P0_ k_))
 have HW0 := Aside0.mk hB.size
 have HB := Aside0.mk hB
 clear hB
 have H : (laws_markItemS.l0 k l0 a1 0) = some (r1, r2) := h
 clear h
 have H' := Aside0.mk H
 clear H
 go_enter Try.func11, Try.ntmps11
 go_wp2
 go_loopg [1, 5] k (fun kq v1 v5 w' => ∃ (x0_1 : List S50) (x1_1 : Int) (x5_1 : Int), v1 = .int .i64 x1_1 ∧ v5 = .int .i64 x5_1 ∧ Aside0 (laws_markItemS.l0 kq x0_1 x1_1 x5_1 = some (r1, r2)) ∧ Aside0 (kq ≤ k) ∧ Aside0 (Kd.S k50 50 w' w0.heap.size (fun k_ => (P0_ k_ ∨ w.heap.size ≤ k_)) u9000_ x0_1) ∧ Aside0 (Kept w w' (fun k_ => P0_ k_)) ∧ Aside0 (Below w0.heap.size w0 w'))
 case atStart => exact ⟨l0, a1, 0, rfl, rfl, H', ⟨Nat.le_refl _⟩, HO0, HK, HB⟩
 case round =>
  clear H'
  obtain ⟨x0_1, x1_1, x5_1, rfl, rfl, HA, HK1, HO_0, HK, HB⟩ := hrel
  cases gk with
  | zero => exact absurd HA.out (by simp [laws_markItemS.l0])
  | succ k1 =>
   have H := HA.out
   clear HA
   simp only [laws_markItemS.l0] at H
   by_cases c3 : x5_1 < (x0_1.length : Int)
   ·rw [if_pos c3] at H
    by_cases c5 : 0 ≤ x5_1
    case neg => rw [if_neg c5] at H; exact absurd H (by simp)
    rw [if_pos c5] at H
    obtain ⟨t, A4, H⟩ := Option.bind_eq_some_iff.mp H
    obtain ⟨⟨b1, b2⟩, A5, H⟩ := Option.bind_eq_some_iff.mp H
    obtain ⟨t2, A6, H⟩ := Option.bind_eq_some_iff.mp H
    obtain ⟨⟨d1, d2⟩, A7, H⟩ := Option.bind_eq_some_iff.mp H
    try dsimp only at A4 A5 A6 A7 H
    replace A4 := Aside0.mk A4
    replace A5 := Aside0.mk A5
    replace A6 := Aside0.mk A6
    replace A7 := Aside0.mk A7
    have H' := Aside0.mk H
    clear H
    obtain ⟨Ao9, co9, eo9⟩ := Kd.S_slice HO_0.out
    subst eo9
    obtain ⟨go6, co6, eo6, gb6, gl6, cl6, HG6⟩ := Kd.R_form (Kd.S_R HO_0.out) (by omega)
    (first | cases eo6 | (injection eo6 with ea_ en_ ec_; (first | subst ea_ | (injection ea_ with ea_; subst ea_)); subst ec_; clear en_))
    have GB6 := Aside0.mk gb6
    clear gb6 gl6 HG6
    have OK6 := Aside0.mk (show (P0_ go6 ∨ w.heap.size ≤ go6) from ((Kd.S_R HO_0.out).1 _ rfl))
    have C3 := Aside0.mk c3
    have C5 := Aside0.mk c5
    have c3b0 := decide_eq_true c3
    have c5b0 := decide_eq_true c5
    replace c3 := eq_true c3
    replace c5 := eq_true c5
    obtain ⟨⟨vc0, hx0⟩, hf0⟩ := S_cells HO_0.out x5_1 C5.out C3.out 0 (by decide)
    replace hx0 : wr.cell? ⟨go6, x5_1.toNat * 7, none⟩ = some vc0 := hx0; replace hf0 : wr.frozen? ⟨go6, x5_1.toNat * 7, none⟩ = false := hf0
    go_wp2_with (first | ((with_reducible refine gate_store (t := 3) (p := 16) rfl ?_); refine store_event (t := 3) (p := 16) (v := ?vo_w11) (w1 := (wr.setCell ⟨go6, x5_1.toNat * 7, none⟩ (.int .i64 x1_1))) ?hg ?ho ?hn ?hr ?_; (case ho => rfl); (case hg => rfl); (case hn => rfl); (case hr => first | (go_simp; done) | (go_simp; rfl)); intro w11 hw; have HP := S_put0 HO_0.out x5_1 C5.out C3.out (x1_1); have hg : wr.grownBy w11 (some go6) := (by rw [hw]; exact HP.2); have n0_ := Aside0.mk (show Kd.S k50 50 w11 w0.heap.size (fun k_ => (P0_ k_ ∨ w.heap.size ≤ k_)) (.slice (some ⟨go6, 0, none⟩) x0_1.length co9) (x0_1.set x5_1.toNat (⟨x1_1, (rd_T50 x0_1 x5_1).f1, (rd_T50 x0_1 x5_1).f2, (rd_T50 x0_1 x5_1).f3, (rd_T50 x0_1 x5_1).f4, (rd_T50 x0_1 x5_1).f5, (rd_T50 x0_1 x5_1).f6⟩ : S50)) from (by rw [hw]; exact HP.1)); clear HP; have n1_ := Aside0.mk ((by rw [hw]; exact below_set (HB.out) GB6.out : Below w0.heap.size w0 w11)); have n2_ := Aside0.mk (Kept.of_grown (S := (fun k_ => P0_ k_)) hg HK.out (fun k_ e_ => (by cases e_; exact OK6.out))); clear HO_0; clear HB; clear HK; have HO_0 := n0_; have HB := n1_; have HK := n2_; clear n0_ n1_ n2_; clear hg hw; clear hx0 hf0; obtain ⟨⟨vc1, hx1⟩, hf1⟩ := S_cells HO_0.out x5_1 C5.out C3.out 1 (by decide); replace hx1 : w11.cell? ⟨go6, x5_1.toNat * 7 + 1, none⟩ = some vc1 := hx1; replace hf1 : w11.frozen? ⟨go6, x5_1.toNat * 7 + 1, none⟩ = false := hf1) | ((with_reducible refine gate_store (t := 3) (p := 23) rfl ?_); refine store_event (t := 3) (p := 23) (v := ?vo_w12) (w1 := (w11.setCell ⟨go6, x5_1.toNat * 7 + 1, none⟩ (.int .i64 (wrap64 (x1_1 + 1))))) ?hg ?ho ?hn ?hr ?_; (case ho => rfl); (case hg => rfl); (case hn => rfl); (case hr => first | (go_simp; done) | (go_simp; rfl)); intro w12 hw; have HP := S_next1 HO_0.out C5.out C3.out C3.out ((wrap64 (x1_1 + 1))); have hg : w11.grownBy w12 (some go6) := (by rw [hw]; exact HP.2); have n0_ := Aside0.mk (show Kd.S k50 50 w12 w0.heap.size (fun k_ => (P0_ k_ ∨ w.heap.size ≤ k_)) (.slice (some ⟨go6, 0, none⟩) x0_1.length co9) (x0_1.set x5_1.toNat (⟨x1_1, (wrap64 (x1_1 + 1)), (rd_T50 x0_1 x5_1).f2, (rd_T50 x0_1 x5_1).f3, (rd_T50 x0_1 x5_1).f4, (rd_T50 x0_1 x5_1).f5, (rd_T50 x0_1 x5_1).f6⟩ : S50)) from (by rw [hw]; exact HP.1)); clear HP; have n1_ := Aside0.mk ((by rw [hw]; exact below_set (HB.out) GB6.out : Below w0.heap.size w0 w12)); have n2_ := Aside0.mk (Kept.of_grown (S := (fun k_ => P0_ k_)) hg HK.out (fun k_ e_ => (by cases e_; exact OK6.out))); clear HO_0; clear HB; clear HK; have HO_0 := n0_; have HB := n1_; have HK := n2_; clear n0_ n1_ n2_; clear hg hw; clear hx1 hf1) | ((with_reducible refine gate_callee (f := 26) rfl ?_); refine goesL_ (some 29) rfl rfl Try.func26 (by kernel_rfl) rfl #[.int .i64 (wrap64 (wrap64 (x1_1 + 1) + 1))] rfl (by (try simp only [List.map_toArray, List.map_cons, List.map_nil]); first | done | rfl) ?_; (with_reducible refine (laws_markText.calls k1 (wrap64 (wrap64 (x1_1 + 1) + 1)) t _ A4.out).mono ?_); rintro e w13 ⟨rfl, hb⟩; refine ⟨_, rfl, ?_⟩; have n0_ := Aside0.mk (Kd.S_below HO_0.out hb); have n1_ := Aside0.mk (Kept.below (S := (fun k_ => P0_ k_)) HK.out hb); have n2_ := Aside0.mk (below_step HB.out hb); clear HO_0; clear HK; clear HB; have HO_0 := n0_; have HK := n1_; have HB := n2_; clear n0_ n1_ n2_; clear hb; obtain ⟨⟨vc2, hx2⟩, hf2⟩ := S_cells HO_0.out x5_1 C5.out C3.out 2 (by decide); replace hx2 : w13.cell? ⟨go6, x5_1.toNat * 7 + 2, none⟩ = some vc2 := hx2; replace hf2 : w13.frozen? ⟨go6, x5_1.toNat * 7 + 2, none⟩ = false := hf2) | ((with_reducible refine gate_store (t := 9) (p := 31) rfl ?_); refine store_event (t := 9) (p := 31) (v := ?vo_w14) (w1 := (w13.setCell ⟨go6, x5_1.toNat * 7 + 2, none⟩ (.string t))) ?hg ?ho ?hn ?hr ?_; (case ho => rfl); (case hg => rfl); (case hn => rfl); (case hr => first | (go_simp; done) | (go_simp; rfl)); intro w14 hw; have HP := S_next2 HO_0.out C5.out C3.out C3.out (t); have hg : w13.grownBy w14 (some go6) := (by rw [hw]; exact HP.2); have n0_ := Aside0.mk (show Kd.S k50 50 w14 w0.heap.size (fun k_ => (P0_ k_ ∨ w.heap.size ≤ k_)) (.slice (some ⟨go6, 0, none⟩) x0_1.length co9) (x0_1.set x5_1.toNat (⟨x1_1, (wrap64 (x1_1 + 1)), t, (rd_T50 x0_1 x5_1).f3, (rd_T50 x0_1 x5_1).f4, (rd_T50 x0_1 x5_1).f5, (rd_T50 x0_1 x5_1).f6⟩ : S50)) from (by rw [hw]; exact HP.1)); clear HP; have n1_ := Aside0.mk ((by rw [hw]; exact below_set (HB.out) GB6.out : Below w0.heap.size w0 w14)); have n2_ := Aside0.mk (Kept.of_grown (S := (fun k_ => P0_ k_)) hg HK.out (fun k_ e_ => (by cases e_; exact OK6.out))); clear HO_0; clear HB; clear HK; have HO_0 := n0_; have HB := n1_; have HK := n2_; clear n0_ n1_ n2_; clear hg hw; clear hx2 hf2; obtain ⟨v3, hx3, hv_, hn_⟩ := S_attrs' HO_0.out C5.out C3.out C3.out; have HV3 := Aside0.mk hv_; have HN3 := Aside0.mk hn_; clear hv_ hn_) | ((with_reducible refine gate_callee (f := 27) rfl ?_); refine goesL_ (some 40) rfl rfl Try.func27 (by kernel_rfl) rfl #[v3, .int .i64 (wrap64 (wrap64 (wrap64 (x1_1 + 1) + 1) + 1))] rfl (by (try simp only [List.map_toArray, List.map_cons, List.map_nil]); first | done | rfl) ?_; (with_reducible refine (laws_markAttrS.calls k1 (fun k => some k = (v3 : Value).ownBlock ∧ (P0_ k ∨ w.heap.size ≤ k)) v3 ((rd_T50 x0_1 x5_1).f3) (wrap64 (wrap64 (wrap64 (x1_1 + 1) + 1) + 1)) b1 b2 w0 _ ?side1 ?side2 A5.out).mono ?_); (case side1 => exact HB.out); (case side2 => exact HV3.out); rintro e w15 ⟨rfl, hy0, hb, hkp⟩; refine ⟨_, rfl, ?_⟩; have n0_ := Aside0.mk (HN3.out _ _ _ hy0 hkp); have n1_ := Aside0.mk (HK.out.then_ hkp (fun k_ h_ => h_.2)); have n2_ := Aside0.mk hb; clear HO_0; clear HK; clear HB; have HO_0 := n0_; have HK := n1_; have HB := n2_; clear n0_ n1_ n2_; clear hb hkp hy0; clear HV3 HN3 hx3) | ((with_reducible refine gate_callee (f := 26) rfl ?_); refine goesL_ (some 44) rfl rfl Try.func26 (by kernel_rfl) rfl #[.int .i64 (b1)] rfl (by (try simp only [List.map_toArray, List.map_cons, List.map_nil]); first | done | rfl) ?_; (with_reducible refine (laws_markText.calls k1 (b1) t2 _ A6.out).mono ?_); rintro e w16 ⟨rfl, hb⟩; refine ⟨_, rfl, ?_⟩; have n0_ := Aside0.mk (Kd.S_below HO_0.out hb); have n1_ := Aside0.mk (Kept.below (S := (fun k_ => P0_ k_)) HK.out hb); have n2_ := Aside0.mk (below_step HB.out hb); clear HO_0; clear HK; clear HB; have HO_0 := n0_; have HK := n1_; have HB := n2_; clear n0_ n1_ n2_; clear hb; obtain ⟨⟨vc4, hx4⟩, hf4⟩ := S_cells HO_0.out x5_1 C5.out C3.out 4 (by decide); replace hx4 : w16.cell? ⟨go6, x5_1.toNat * 7 + 4, none⟩ = some vc4 := hx4; replace hf4 : w16.frozen? ⟨go6, x5_1.toNat * 7 + 4, none⟩ = false := hf4) | ((with_reducible refine gate_store (t := 9) (p := 46) rfl ?_); refine store_event (t := 9) (p := 46) (v := ?vo_w17) (w1 := (w16.setCell ⟨go6, x5_1.toNat * 7 + 4, none⟩ (.string t2))) ?hg ?ho ?hn ?hr ?_; (case ho => rfl); (case hg => rfl); (case hn => rfl); (case hr => first | (go_simp; done) | (go_simp; rfl)); intro w17 hw; have HP := S_next4 HO_0.out C5.out C3.out C3.out (t2); have hg : w16.grownBy w17 (some go6) := (by rw [hw]; exact HP.2); have n0_ := Aside0.mk (show Kd.S k50 50 w17 w0.heap.size (fun k_ => (P0_ k_ ∨ w.heap.size ≤ k_)) (.slice (some ⟨go6, 0, none⟩) x0_1.length co9) (x0_1.set x5_1.toNat (⟨x1_1, (wrap64 (x1_1 + 1)), t, b2, t2, (rd_T50 x0_1 x5_1).f5, (rd_T50 x0_1 x5_1).f6⟩ : S50)) from (by rw [hw]; exact HP.1)); clear HP; have n1_ := Aside0.mk ((by rw [hw]; exact below_set (HB.out) GB6.out : Below w0.heap.size w0 w17)); have n2_ := Aside0.mk (Kept.of_grown (S := (fun k_ => P0_ k_)) hg HK.out (fun k_ e_ => (by cases e_; exact OK6.out))); clear HO_0; clear HB; clear HK; have HO_0 := n0_; have HB := n1_; have HK := n2_; clear n0_ n1_ n2_; clear hg hw; clear hx4 hf4; obtain ⟨⟨vc5, hx5⟩, hf5⟩ := S_cells HO_0.out x5_1 C5.out C3.out 5 (by decide); replace hx5 : w17.cell? ⟨go6, x5_1.toNat * 7 + 5, none⟩ = some vc5 := hx5; replace hf5 : w17.frozen? ⟨go6, x5_1.toNat * 7 + 5, none⟩ = false := hf5) | ((with_reducible refine gate_store (t := 3) (p := 53) rfl ?_); refine store_event (t := 3) (p := 53) (v := ?vo_w18) (w1 := (w17.setCell ⟨go6, x5_1.toNat * 7 + 5, none⟩ (.int .i64 (wrap64 (b1 + 1))))) ?hg ?ho ?hn ?hr ?_; (case ho => rfl); (case hg => rfl); (case hn => rfl); (case hr => first | (go_simp; done) | (go_simp; rfl)); intro w18 hw; have HP := S_next5 HO_0.out C5.out C3.out C3.out ((wrap64 (b1 + 1))); have hg : w17.grownBy w18 (some go6) := (by rw [hw]; exact HP.2); have n0_ := Aside0.mk (show Kd.S k50 50 w18 w0.heap.size (fun k_ => (P0_ k_ ∨ w.heap.size ≤ k_)) (.slice (some ⟨go6, 0, none⟩) x0_1.length co9) (x0_1.set x5_1.toNat (⟨x1_1, (wrap64 (x1_1 + 1)), t, b2, t2, (wrap64 (b1 + 1)), (rd_T50 x0_1 x5_1).f6⟩ : S50)) from (by rw [hw]; exact HP.1)); clear HP; have n1_ := Aside0.mk ((by rw [hw]; exact below_set (HB.out) GB6.out : Below w0.heap.size w0 w18)); have n2_ := Aside0.mk (Kept.of_grown (S := (fun k_ => P0_ k_)) hg HK.out (fun k_ e_ => (by cases e_; exact OK6.out))); clear HO_0; clear HB; clear HK; have HO_0 := n0_; have HB := n1_; have HK := n2_; clear n0_ n1_ n2_; clear hg hw; clear hx5 hf5; obtain ⟨v6, hx6, hv_, hn_⟩ := S_kids' HO_0.out C5.out C3.out C3.out; have HV6 := Aside0.mk hv_; have HN6 := Aside0.mk hn_; clear hv_ hn_) | ((with_reducible refine gate_callee (f := 28) rfl ?_); refine goesL_ (some 62) rfl rfl Try.func28 (by kernel_rfl) rfl #[v6, .int .i64 (wrap64 (wrap64 (b1 + 1) + 1))] rfl (by (try simp only [List.map_toArray, List.map_cons, List.map_nil]); first | done | rfl) ?_; (with_reducible refine (laws_markIntS.calls k1 (fun k => some k = (v6 : Value).ownBlock ∧ (P0_ k ∨ w.heap.size ≤ k)) v6 ((rd_T50 x0_1 x5_1).f6) (wrap64 (wrap64 (b1 + 1) + 1)) d1 d2 w0 _ ?side1 ?side2 A7.out).mono ?_); (case side1 => exact HB.out); (case side2 => exact HV6.out); rintro e w19 ⟨rfl, hy0, hb, hkp⟩; refine ⟨_, rfl, ?_⟩; have n0_ := Aside0.mk (HN6.out _ _ _ hy0 hkp); have n1_ := Aside0.mk (HK.out.then_ hkp (fun k_ h_ => h_.2)); have n2_ := Aside0.mk hb; clear HO_0; clear HK; clear HB; have HO_0 := n0_; have HK := n1_; have HB := n2_; clear n0_ n1_ n2_; clear hb hkp hy0; clear HV6 HN6 hx6))
    go_roundg k1
    case measure => have := HK1.out; omega
    case rel => exact ⟨_, d1, wrap64 (x5_1 + 1), ab6, ab6, H', ⟨by have := HK1.out; omega⟩, HO_0, HK, HB⟩
   ·rw [if_neg c3] at H
    have c3b0 := decide_eq_false c3
    clear c3
    simp only [Option.some.injEq, Prod.mk.injEq] at H
    obtain ⟨rfl, rfl⟩ := H
    obtain ⟨Ao16, co16, eo16⟩ := Kd.S_slice HO_0.out
    subst eo16
    go_wp2
    go_ret
    exact ⟨by first | rfl | (simp; done), HO_0.out, HB.out, HK.out⟩
theorem laws_markItemS.calls (k : Nat) (P0_ : Nat → Prop) (u9000_ : Value) (l0 : List S50) (a1 : Int) (r1 : Int) (w0 w : World) (hB : Below w0.heap.size w0 w) (ho0 : Kd.S k50 50 w w0.heap.size P0_ u9000_ l0) (h : laws_markItemS.f k l0 a1 = some r1) :
  Calls Try.prog 11 #[u9000_, .int .i64 a1] w fun e w' => e = .returned (.int .i64 r1) ∧ (∃ r2, Kd.S k50 50 w' w0.heap.size (fun k_ => (P0_ k_ ∨ w.heap.size ≤ k_)) u9000_ r2) ∧ Below w0.heap.size w0 w' ∧ Kept w w' (fun k_ => P0_ k_) := by
 obtain ⟨⟨s1, s2⟩, h1, h2⟩ := Option.bind_eq_some_iff.mp h
 obtain rfl := Option.some.inj h2
 exact (laws_markItemS.calls_g k P0_ u9000_ l0 a1 s1 s2 w0 w hB ho0 h1).mono fun e w' ⟨q1, q2, q3, q4⟩ => ⟨q1, ⟨s2, q2⟩, q3, q4⟩
/-- Where a made row's blocks lie. -/
theorem R_in {α : Type} {d : Kd α} {e b : Nat} {ok : Nat → Prop} {w : World} {v : Value} {xs : List α} (h : d.R e w b ok v xs) : ∃ lo hi : Nat, d.R e w b (fun k => lo ≤ k ∧ k < hi) v xs ∧ b ≤ lo ∧ hi ≤ w.heap.size :=
 ⟨b, w.heap.size, Kd.R_mono (Kd.R_bound h) (fun k hk => ⟨hk.2.1, hk.2.2.1⟩), Nat.le_refl _, Nat.le_refl _⟩
theorem S_in {α : Type} {d : Kd α} {e b : Nat} {ok : Nat → Prop} {w : World} {v : Value} {xs : List α} (h : Kd.S d e w b ok v xs) : ∃ lo hi : Nat, Kd.S d e w b (fun k => lo ≤ k ∧ k < hi) v xs ∧ b ≤ lo ∧ hi ≤ w.heap.size :=
 ⟨b, w.heap.size, Kd.S_mono (Kd.S_bound h) (fun k hk => ⟨hk.2.1, hk.2.2.1⟩), Nat.le_refl _, Nat.le_refl _⟩
end


end Go.Proofs.Ytgljgbkbjlondaa.P
