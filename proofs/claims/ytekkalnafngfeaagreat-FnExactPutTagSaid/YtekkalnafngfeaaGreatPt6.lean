-- WRITTEN BY this session's own programs
import Derived.Test.YtekkalnafngfeaaGreatPt27
import Derived.Test.YtekkalnafngfeaaGreatVPtw
import Derived.Test.YtekkalnafngfeaaGreatPt36
import Derived.Test.YtekkalnafngfeaaGreatPt22
namespace Go.Proofs.YtekkalnafngfeaaGreat.P
open Go Go.RowKit Go.Proofs.YtekkalnafngfeaaGreatW.PrintWords Go.Proofs.YtekkalnafngfeaaGreatW.PrintLast Go.Proofs.YtekkalnafngfeaaGreatW.PrintMore
set_option linter.unusedVariables false
set_option linter.unusedSimpArgs false
set_option maxHeartbeats 8000000
set_option maxRecDepth 100000
/-- Three rows of one's own, their blocks in U, none in two of them. -/
def OwnP (w : World) (base : Nat) (U : Nat → Prop) (v0 v1 v2 : Value) (s0 : List S53) (s1 s2 : List Int) : Prop :=
 ∃ P0 P1 P2 : Nat → Prop, Kd.S k53 53 w base P0 v0 s0 ∧ Kd.R (Kd.int .i64) 3 w base P1 v1 s1 ∧ Kd.R (Kd.int .i64) 3 w base P2 v2 s2 ∧ (∀ k, P0 k → U k ∧ ¬ P1 k ∧ ¬ P2 k) ∧ (∀ k, P1 k → U k ∧ ¬ P2 k) ∧ (∀ k, P2 k → U k)
section
variable {w w1 w0 : World} {base g : Nat} {U U' S : Nat → Prop} {v0 v1 v2 : Value} {s0 : List S53} {s1 s2 : List Int} {h b : Int}
theorem OwnP.mono (H : OwnP w base U v0 v1 v2 s0 s1 s2) (hU : ∀ k, U k → U' k) : OwnP w base U' v0 v1 v2 s0 s1 s2 := by
 obtain ⟨P0, P1, P2, h0, h1, h2, d0, d1, d2⟩ := H
 exact ⟨P0, P1, P2, h0, h1, h2, fun k hk => ⟨hU k (d0 k hk).1, (d0 k hk).2⟩, fun k hk => ⟨hU k (d1 k hk).1, (d1 k hk).2⟩, fun k hk => hU k (d2 k hk)⟩
theorem OwnP.kept (H : OwnP w base U v0 v1 v2 s0 s1 s2) (hk : Kept w w1 S) (hS : ∀ k, U k → ¬ S k) : OwnP w1 base U v0 v1 v2 s0 s1 s2 := by
 obtain ⟨P0, P1, P2, h0, h1, h2, d0, d1, d2⟩ := H
 exact ⟨P0, P1, P2, Kd.S_kept h0 hk (fun k q => hS k (d0 k q).1), Kd.R_kept h1 hk (fun k q => hS k (d1 k q).1), Kd.R_kept h2 hk (fun k q => hS k (d2 k q)), d0, d1, d2⟩
theorem OwnP.below (H : OwnP w base U v0 v1 v2 s0 s1 s2) (hb : Below w.heap.size w w1) : OwnP w1 base U v0 v1 v2 s0 s1 s2 := H.kept (Kept.of_below hb (fun _ => False)) (fun _ _ hk => hk)
theorem OwnP.far (H : OwnP w base U v0 v1 v2 s0 s1 s2) {p : Addr} (hp : ∀ k, U k → k ≠ p.block) (u : Value) : OwnP (w.setCell p u) base U v0 v1 v2 s0 s1 s2 :=
 H.kept (Kept.setCell (S := fun k => k = p.block) (Kept.refl w _) (Or.inl rfl) u) (fun k hk => hp k hk)
theorem OwnP.bound (H : OwnP w base U v0 v1 v2 s0 s1 s2) : OwnP w base (fun k => U k ∧ base ≤ k ∧ k < w.heap.size) v0 v1 v2 s0 s1 s2 := by
 obtain ⟨P0, P1, P2, h0, h1, h2, d0, d1, d2⟩ := H
 exact ⟨_, _, _, Kd.S_bound h0, Kd.R_bound h1, Kd.R_bound h2, fun k hk => ⟨⟨(d0 k hk.1).1, hk.2.1, hk.2.2.1⟩, fun h => (d0 k hk.1).2.1 h.1, fun h => (d0 k hk.1).2.2 h.1⟩, fun k hk => ⟨⟨(d1 k hk.1).1, hk.2.1, hk.2.2.1⟩, fun h => (d1 k hk.1).2 h.1⟩, fun k hk => ⟨d2 k hk.1, hk.2.1, hk.2.2.1⟩⟩
theorem OwnP.lower {base' : Nat} (H : OwnP w base U v0 v1 v2 s0 s1 s2) (hb : base' ≤ base) : OwnP w base' U v0 v1 v2 s0 s1 s2 := by
 obtain ⟨P0, P1, P2, h0, h1, h2, d0, d1, d2⟩ := H
 exact ⟨P0, P1, P2, Kd.S_lower h0 hb, Kd.R_lower h1 hb, Kd.R_lower h2 hb, d0, d1, d2⟩
theorem OwnP.slices (H : OwnP w base U v0 v1 v2 s0 s1 s2) : ∃ (A0 : Option Addr) (c0 : Nat) (A1 : Option Addr) (c1 : Nat) (A2 : Option Addr) (c2 : Nat), v0 = .slice A0 s0.length c0 ∧ v1 = .slice A1 s1.length c1 ∧ v2 = .slice A2 s2.length c2 ∧ (s0.length ≤ c0 ∧ Kd.C k53 w A0 s0.length s0) ∧ (s1.length ≤ c1 ∧ Kd.C (Kd.int .i64) w A1 s1.length s1) ∧ (s2.length ≤ c2 ∧ Kd.C (Kd.int .i64) w A2 s2.length s2) := by
 obtain ⟨P0, P1, P2, h0, h1, h2, d0, d1, d2⟩ := H
 obtain ⟨A0, c0, e0, l0, r0⟩ := Kd.S_reads h0
 obtain ⟨A1, c1, e1, l1, r1⟩ := Kd.R_reads h1
 obtain ⟨A2, c2, e2, l2, r2⟩ := Kd.R_reads h2
 exact ⟨A0, c0, A1, c1, A2, c2, e0, e1, e2, ⟨l0, r0⟩, ⟨l1, r1⟩, ⟨l2, r2⟩⟩
theorem OwnP.reads {A0 A1 A2 : Option Addr} {n0 n1 n2 c0 c1 c2 : Nat} (H : OwnP w base U (.slice A0 n0 c0) (.slice A1 n1 c1) (.slice A2 n2 c2) s0 s1 s2) : (n0 = s0.length ∧ n0 ≤ c0 ∧ Kd.C k53 w A0 s0.length s0) ∧ (n1 = s1.length ∧ n1 ≤ c1 ∧ Kd.C (Kd.int .i64) w A1 s1.length s1) ∧ (n2 = s2.length ∧ n2 ≤ c2 ∧ Kd.C (Kd.int .i64) w A2 s2.length s2) := by
 obtain ⟨P0, P1, P2, h0, h1, h2, d0, d1, d2⟩ := H
 obtain ⟨e0, l0, r0⟩ := Kd.S_reads' h0
 obtain ⟨e1, l1, r1⟩ := Kd.R_reads' h1
 obtain ⟨e2, l2, r2⟩ := Kd.R_reads' h2
 subst e0 e1 e2
 exact ⟨⟨rfl, l0, r0⟩, ⟨rfl, l1, r1⟩, ⟨rfl, l2, r2⟩⟩
/-- What a copy's contract tells. -/
theorem OwnP.of_copy (h0 : Kd.S k53 53 w base (fun k_ => some k_ ≠ (v1 : Value).ownBlock ∧ some k_ ≠ (v2 : Value).ownBlock) v0 s0) (h1 : Kd.R (Kd.int .i64) 3 w base (fun k_ => some k_ ≠ (v2 : Value).ownBlock) v1 s1) (h2 : Kd.R (Kd.int .i64) 3 w base (fun k_ => some k_ ≠ (v1 : Value).ownBlock) v2 s2) : OwnP w base (fun k => base ≤ k ∧ k < w.heap.size) v0 v1 v2 s0 s1 s2 := by
 refine ⟨_, _, _, Kd.S_bound h0, Kd.R_bound (Kd.R_tight rfl h1), Kd.R_bound (Kd.R_tight rfl h2), fun k hk => ⟨⟨hk.2.1, hk.2.2.1⟩, fun h => hk.1.1 h.1, fun h => hk.1.2 h.1⟩, fun k hk => ⟨⟨hk.2.1, hk.2.2.1⟩, fun h => ?_⟩, fun k hk => ⟨hk.2.1, hk.2.2.1⟩⟩
 exact h1.1 k hk.1.symm h.1
theorem OwnP.to_copy (H : OwnP w base U v0 v1 v2 s0 s1 s2) : Kd.S k53 53 w base (fun k_ => some k_ ≠ (v1 : Value).ownBlock ∧ some k_ ≠ (v2 : Value).ownBlock) v0 s0 ∧ Kd.R (Kd.int .i64) 3 w base (fun k_ => some k_ ≠ (v2 : Value).ownBlock) v1 s1 ∧ Kd.R (Kd.int .i64) 3 w base (fun k_ => some k_ ≠ (v1 : Value).ownBlock) v2 s2 := by
 obtain ⟨P0, P1, P2, h0, h1, h2, d0, d1, d2⟩ := H
 refine ⟨Kd.S_mono h0 (fun k hk => ⟨fun e => (d0 k hk).2.1 (h1.1 k e.symm), fun e => (d0 k hk).2.2 (h2.1 k e.symm)⟩), Kd.R_mono h1 (fun k hk e => (d1 k hk).2 (h2.1 k e.symm)), Kd.R_mono h2 (fun k hk e => (d1 k (h1.1 k e.symm)).2 hk)⟩
/-- The first row changed by a call that writes its blocks and new ones alone. -/
theorem OwnP.items (H : OwnP w base U v0 v1 v2 s0 s1 s2) : ∃ P0 : Nat → Prop, (∀ k, P0 k → U k) ∧ Kd.S k53 53 w base P0 v0 s0 ∧ ∀ (w1 : World) (v0' : Value) (s0' : List S53), Kd.S k53 53 w1 base (fun k => P0 k ∨ w.heap.size ≤ k) v0' s0' → Kept w w1 P0 → OwnP w1 base (fun k => U k ∨ w.heap.size ≤ k) v0' v1 v2 s0' s1 s2 := by
 obtain ⟨P0, P1, P2, h0, h1, h2, d0, d1, d2⟩ := H
 refine ⟨P0, fun k hk => (d0 k hk).1, h0, fun w1 v0' s0' hs hk => ?_⟩
 refine ⟨_, _, _, hs, Kd.R_kept (Kd.R_bound h1) hk (fun k q q0 => (d0 k q0).2.1 q.1), Kd.R_kept (Kd.R_bound h2) hk (fun k q q0 => (d0 k q0).2.2 q.1), ?_, ?_, ?_⟩
 ·rintro k (q | q)
  ·exact ⟨Or.inl (d0 k q).1, fun h => (d0 k q).2.1 h.1, fun h => (d0 k q).2.2 h.1⟩
  ·exact ⟨Or.inr q, fun h => Nat.lt_irrefl _ (Nat.lt_of_lt_of_le h.2.2.1 q), fun h => Nat.lt_irrefl _ (Nat.lt_of_lt_of_le h.2.2.1 q)⟩
 ·exact fun k q => ⟨Or.inl (d1 k q.1).1, fun h => (d1 k q.1).2 h.1⟩
 ·exact fun k q => Or.inl (d2 k q.1)
/-- The same, the second row. -/
theorem OwnP.open_ (H : OwnP w base U v0 v1 v2 s0 s1 s2) : ∃ P1 : Nat → Prop, (∀ k, P1 k → U k) ∧ Kd.R (Kd.int .i64) 3 w base P1 v1 s1 ∧ ∀ (w1 : World) (v1' : Value) (s1' : List Int), Kd.R (Kd.int .i64) 3 w1 base (fun k => P1 k ∨ w.heap.size ≤ k) v1' s1' → Kept w w1 P1 → OwnP w1 base (fun k => U k ∨ w.heap.size ≤ k) v0 v1' v2 s0 s1' s2 := by
 obtain ⟨P0, P1, P2, h0, h1, h2, d0, d1, d2⟩ := H
 refine ⟨P1, fun k hk => (d1 k hk).1, h1, fun w1 v1' s1' hs hk => ?_⟩
 refine ⟨_, _, _, Kd.S_kept (Kd.S_bound h0) hk (fun k q q0 => (d0 k q.1).2.1 q0), hs, Kd.R_kept (Kd.R_bound h2) hk (fun k q q0 => (d1 k q0).2 q.1), ?_, ?_, ?_⟩
 ·refine fun k q => ⟨Or.inl (d0 k q.1).1, ?_, fun h => (d0 k q.1).2.2 h.1⟩
  rintro (h | h)
  ·exact (d0 k q.1).2.1 h
  ·exact Nat.lt_irrefl _ (Nat.lt_of_lt_of_le q.2.2.1 h)
 ·rintro k (q | q)
  ·exact ⟨Or.inl (d1 k q).1, fun h => (d1 k q).2 h.1⟩
  ·exact ⟨Or.inr q, fun h => Nat.lt_irrefl _ (Nat.lt_of_lt_of_le h.2.2.1 q)⟩
 ·exact fun k q => Or.inl (d2 k q.1)
/-- The same, the third row. -/
theorem OwnP.forms (H : OwnP w base U v0 v1 v2 s0 s1 s2) : ∃ P2 : Nat → Prop, (∀ k, P2 k → U k) ∧ Kd.R (Kd.int .i64) 3 w base P2 v2 s2 ∧ ∀ (w1 : World) (v2' : Value) (s2' : List Int), Kd.R (Kd.int .i64) 3 w1 base (fun k => P2 k ∨ w.heap.size ≤ k) v2' s2' → Kept w w1 P2 → OwnP w1 base (fun k => U k ∨ w.heap.size ≤ k) v0 v1 v2' s0 s1 s2' := by
 obtain ⟨P0, P1, P2, h0, h1, h2, d0, d1, d2⟩ := H
 refine ⟨P2, d2, h2, fun w1 v2' s2' hs hk => ?_⟩
 refine ⟨_, _, _, Kd.S_kept (Kd.S_bound h0) hk (fun k q q0 => (d0 k q.1).2.2 q0), Kd.R_kept (Kd.R_bound h1) hk (fun k q q0 => (d1 k q.1).2 q0), hs, ?_, ?_, ?_⟩
 ·refine fun k q => ⟨Or.inl (d0 k q.1).1, fun h => (d0 k q.1).2.1 h.1, ?_⟩
  rintro (h | h)
  ·exact (d0 k q.1).2.2 h
  ·exact Nat.lt_irrefl _ (Nat.lt_of_lt_of_le q.2.2.1 h)
 ·refine fun k q => ⟨Or.inl (d1 k q.1).1, ?_⟩
  rintro (h | h)
  ·exact (d1 k q.1).2 h
  ·exact Nat.lt_irrefl _ (Nat.lt_of_lt_of_le q.2.2.1 h)
 ·rintro k (q | q)
  ·exact Or.inl (d2 k q)
  ·exact Or.inr q
/-- A page stored whole into a box. -/
theorem set5_blk {t : TypeId} {a0 a1 a2 a3 a4 u0 u1 u2 u3 u4 : Value} (H : w.heap[g]? = some (.cells #[a0, a1, a2, a3, a4] t (0, 0))) :
  (((((w.setCell ⟨g, 0, none⟩ u0).setCell ⟨g, 1, none⟩ u1).setCell ⟨g, 2, none⟩ u2).setCell ⟨g, 3, none⟩ u3).setCell ⟨g, 4, none⟩ u4).heap[g]? = some (.cells #[u0, u1, u2, u3, u4] t (0, 0)) := by
 have h0 := blk_put H 0 u0 (cs' := #[u0, a1, a2, a3, a4]) rfl
 have h1 := blk_put h0 1 u1 (cs' := #[u0, u1, a2, a3, a4]) rfl
 have h2 := blk_put h1 2 u2 (cs' := #[u0, u1, u2, a3, a4]) rfl
 have h3 := blk_put h2 3 u3 (cs' := #[u0, u1, u2, u3, a4]) rfl
 exact blk_put h3 4 u4 rfl
theorem set5_kept (w : World) (g : Nat) (u0 u1 u2 u3 u4 : Value) : Kept w (((((w.setCell ⟨g, 0, none⟩ u0).setCell ⟨g, 1, none⟩ u1).setCell ⟨g, 2, none⟩ u2).setCell ⟨g, 3, none⟩ u3).setCell ⟨g, 4, none⟩ u4) (fun k => k = g) :=
 Kept.setCell (p := ⟨g, 4, none⟩) (Kept.setCell (p := ⟨g, 3, none⟩) (Kept.setCell (p := ⟨g, 2, none⟩) (Kept.setCell (p := ⟨g, 1, none⟩) (Kept.setCell (p := ⟨g, 0, none⟩) (Kept.refl w (fun k => k = g)) (Or.inl rfl) u0) (Or.inl rfl) u1) (Or.inl rfl) u2) (Or.inl rfl) u3) (Or.inl rfl) u4
theorem set5_below {u0 u1 u2 u3 u4 : Value} (H : Below w0.heap.size w0 w) (hg : w0.heap.size ≤ g) : Below w0.heap.size w0 (((((w.setCell ⟨g, 0, none⟩ u0).setCell ⟨g, 1, none⟩ u1).setCell ⟨g, 2, none⟩ u2).setCell ⟨g, 3, none⟩ u3).setCell ⟨g, 4, none⟩ u4) :=
 below_set (below_set (below_set (below_set (below_set H hg) hg) hg) hg) hg
/-- A box's cells, and that none is frozen. -/
theorem cl5 {t : TypeId} {a b c d e : Value} (H : Aside0 (w.heap[g]? = some (.cells #[a, b, c, d, e] t (0, 0)))) : w.cell? ⟨g, 0, none⟩ = some a ∧ w.cell? ⟨g, 1, none⟩ = some b ∧ w.cell? ⟨g, 2, none⟩ = some c ∧ w.cell? ⟨g, 3, none⟩ = some d ∧ w.cell? ⟨g, 4, none⟩ = some e :=
 ⟨(blk_cell H.out 0).trans rfl, (blk_cell H.out 1).trans rfl, (blk_cell H.out 2).trans rfl, (blk_cell H.out 3).trans rfl, (blk_cell H.out 4).trans rfl⟩
theorem cl7 {t : TypeId} {a b c d e f h : Value} (H : Aside0 (w.heap[g]? = some (.cells #[a, b, c, d, e, f, h] t (0, 0)))) : w.cell? ⟨g, 0, none⟩ = some a ∧ w.cell? ⟨g, 1, none⟩ = some b ∧ w.cell? ⟨g, 2, none⟩ = some c ∧ w.cell? ⟨g, 3, none⟩ = some d ∧ w.cell? ⟨g, 4, none⟩ = some e ∧ w.cell? ⟨g, 5, none⟩ = some f ∧ w.cell? ⟨g, 6, none⟩ = some h :=
 ⟨(blk_cell H.out 0).trans rfl, (blk_cell H.out 1).trans rfl, (blk_cell H.out 2).trans rfl, (blk_cell H.out 3).trans rfl, (blk_cell H.out 4).trans rfl, (blk_cell H.out 5).trans rfl, (blk_cell H.out 6).trans rfl⟩
theorem fz5 {t : TypeId} {cs : Array Value} (H : Aside0 (w.heap[g]? = some (.cells cs t (0, 0)))) : w.frozen? ⟨g, 0, none⟩ = false ∧ w.frozen? ⟨g, 1, none⟩ = false ∧ w.frozen? ⟨g, 2, none⟩ = false ∧ w.frozen? ⟨g, 3, none⟩ = false ∧ w.frozen? ⟨g, 4, none⟩ = false :=
 ⟨blk_frozen H.out 0, blk_frozen H.out 1, blk_frozen H.out 2, blk_frozen H.out 3, blk_frozen H.out 4⟩
theorem fz7 {t : TypeId} {cs : Array Value} (H : Aside0 (w.heap[g]? = some (.cells cs t (0, 0)))) : w.frozen? ⟨g, 0, none⟩ = false ∧ w.frozen? ⟨g, 1, none⟩ = false ∧ w.frozen? ⟨g, 2, none⟩ = false ∧ w.frozen? ⟨g, 3, none⟩ = false ∧ w.frozen? ⟨g, 4, none⟩ = false ∧ w.frozen? ⟨g, 5, none⟩ = false ∧ w.frozen? ⟨g, 6, none⟩ = false :=
 ⟨blk_frozen H.out 0, blk_frozen H.out 1, blk_frozen H.out 2, blk_frozen H.out 3, blk_frozen H.out 4, blk_frozen H.out 5, blk_frozen H.out 6⟩
/-- Whole stores, by what they leave. -/
abbrev st5 (w : World) (g : Nat) (u0 u1 u2 u3 u4 : Value) : World := ((((w.setCell ⟨g, 0, none⟩ u0).setCell ⟨g, 1, none⟩ u1).setCell ⟨g, 2, none⟩ u2).setCell ⟨g, 3, none⟩ u3).setCell ⟨g, 4, none⟩ u4
section
variable {W : World} {g' : Nat} {o : Obj} {u0 u1 u2 u3 u4 u5 u6 : Value} {t : TypeId}
theorem kS5 (hw : W = st5 w g u0 u1 u2 u3 u4) (B : Aside0 (w.heap[g']? = some o)) (n : g' ≠ g) : Aside0 (W.heap[g']? = some o) := ⟨by rw [hw]; exact blk_kept B.out (set5_kept _ _ _ _ _ _ _) n⟩
theorem sS5 {a0 a1 a2 a3 a4 : Value} (hw : W = st5 w g u0 u1 u2 u3 u4) (B : Aside0 (w.heap[g]? = some (.cells #[a0, a1, a2, a3, a4] t (0, 0)))) : Aside0 (W.heap[g]? = some (.cells #[u0, u1, u2, u3, u4] t (0, 0))) := ⟨by rw [hw]; exact set5_blk B.out⟩
theorem bS5 (hw : W = st5 w g u0 u1 u2 u3 u4) (B : Aside0 (Below w0.heap.size w0 w)) (n : w0.heap.size ≤ g) : Aside0 (Below w0.heap.size w0 W) := ⟨by rw [hw]; exact set5_below B.out n⟩
theorem pS5 (hw : W = st5 w g u0 u1 u2 u3 u4) (H : Aside0 (OwnP w base U v0 v1 v2 s0 s1 s2)) (n : ∀ k, U k → ¬ k = g) : Aside0 (OwnP W base U v0 v1 v2 s0 s1 s2) := ⟨by rw [hw]; exact H.out.kept (set5_kept _ _ _ _ _ _ _) n⟩
theorem rS5 {α : Type} {d : Kd α} {e : Nat} {xs : List α} (hw : W = st5 w g u0 u1 u2 u3 u4) (H : Aside0 (d.R e w base U v0 xs)) (n : ∀ k, U k → ¬ k = g) : Aside0 (d.R e W base U v0 xs) := ⟨by rw [hw]; exact Kd.R_kept H.out (set5_kept _ _ _ _ _ _ _) n⟩
theorem zS5 (hw : W = st5 w g u0 u1 u2 u3 u4) : w.heap.size ≤ W.heap.size := by rw [hw]; exact (set5_kept w g u0 u1 u2 u3 u4).1
theorem kS1 {p : Addr} {cs : Array Value} (hw : W = w.setCell p u0) (B : Aside0 (w.heap[g']? = some (.cells cs t (0, 0)))) (n : g' ≠ p.block) : Aside0 (W.heap[g']? = some (.cells cs t (0, 0))) := ⟨by rw [hw]; exact blk_far B.out n _⟩
theorem bS1 {j : Nat} (hw : W = w.setCell ⟨g, j, none⟩ u0) (B : Aside0 (Below w0.heap.size w0 w)) (n : w0.heap.size ≤ g) : Aside0 (Below w0.heap.size w0 W) := ⟨by rw [hw]; exact below_set B.out n⟩
theorem pS1 {p : Addr} (hw : W = w.setCell p u0) (H : Aside0 (OwnP w base U v0 v1 v2 s0 s1 s2)) (n : ∀ k, U k → k ≠ p.block) : Aside0 (OwnP W base U v0 v1 v2 s0 s1 s2) := ⟨by rw [hw]; exact H.out.far n _⟩
theorem bb {w1 : World} (B : Aside0 (w.heap[g]? = some o)) (hb : Below w.heap.size w w1) : Aside0 (w1.heap[g]? = some o) := ⟨blk_below B.out hb⟩
theorem ob {w1 : World} (H : Aside0 (OwnP w base U v0 v1 v2 s0 s1 s2)) (hb : Below w.heap.size w w1) : Aside0 (OwnP w1 base U v0 v1 v2 s0 s1 s2) := ⟨H.out.below hb⟩
theorem rb {α : Type} {d : Kd α} {e : Nat} {xs : List α} {w1 : World} (H : Aside0 (d.R e w base U v0 xs)) (hb : Below w.heap.size w w1) : Aside0 (d.R e w1 base U v0 xs) := ⟨Kd.R_below H.out hb⟩
theorem xb {w1 : World} (H : Aside0 (Below w0.heap.size w0 w)) (hb : Below w.heap.size w w1) : Aside0 (Below w0.heap.size w0 w1) := ⟨below_step H.out hb⟩
theorem gE (H : Aside0 (Below w0.heap.size w0 w)) (hg : g = w.heap.size) : Aside0 (w0.heap.size ≤ g) := ⟨by rw [hg]; exact below_size H.out⟩
theorem nE (B : Aside0 (w.heap[g']? = some o)) (hg : g = w.heap.size) : Aside0 (g' ≠ g) := ⟨by rw [hg]; exact Nat.ne_of_lt (blk_lt B.out)⟩
theorem oadd {p q : Prop} (H : Aside0 p) (h : q) : Aside0 (p ∧ q) := ⟨⟨H.out, h⟩⟩
end
section
variable {P : Program} {md : Region.Mode} {ops : Array Oper} {Q : Exit → Act → World → Prop} {S : World → Prop} {ds : List Nat} {fuel : Nat} {l l' : Array Bool} {a a' : Act} {oi : Oper} {v : Value} {W : World}
/-- A region's steps in short: an operation that yields in every world; one that reads what is held; the act written out. -/
theorem pk_ (i n : Nat) (h : wpAnyLast P md ops Q S ds fuel l' a' W) (hi : ops[i]? = some oi := by rfl) (hN : oi.dst = some n := by rfl)
  (hl : l.setIfInBounds i true = l' := by simp only [List.setIfInBounds_toArray, List.set_cons_zero, List.set_cons_succ]; rfl) (hc : anyB md ops l l' i = true := by kernel_rfl)
  (hy : Yields P ops oi v a := by exact Or.inl ⟨by rfl, by intro w'; go_simp; with_reducible rfl⟩)
  (ha : a.put (some n) v = a' := by simp only [Act.put, List.setIfInBounds_toArray, List.set_cons_zero, List.set_cons_succ, i64_w, i32_w]; rfl)
  (hQ : ∀ c a w, Q (.panic c) (a.put oi.dst v) w → Q (.panic c) a w := by exact fun _ _ _ h => h) : wpAnyLast P md ops Q S ds (fuel + 1) l a W := pure_ l' hi hN hc hQ hy ha h
theorem tk2_ (i n : Nat) (hS : S W) (h : wpAnyLast P md ops Q S ds fuel l' a' W) (hi : ops[i]? = some oi := by rfl) (hN : oi.dst = some n := by rfl)
  (hl : l.setIfInBounds i true = l' := by simp only [List.setIfInBounds_toArray, List.set_cons_zero, List.set_cons_succ]; rfl) (hc : takeB md ops ds l l' i = true := by kernel_rfl)
  (hy : YieldsIf P ops S oi v a := by exact Or.inl ⟨by rfl, by intro w' hs_; obtain ⟨hA_, hB_⟩ := hs_; (first | obtain ⟨_, _, _, _, _⟩ := cl5 ⟨hA_⟩ | obtain ⟨_, _, _, _, _, _, _⟩ := cl7 ⟨hA_⟩); (first | obtain ⟨_, _, _, _, _⟩ := cl5 ⟨hB_⟩ | obtain ⟨_, _, _, _, _, _, _⟩ := cl7 ⟨hB_⟩); go_simp; with_reducible rfl⟩)
  (ha : a.put (some n) v = a' := by simp only [Act.put, List.setIfInBounds_toArray, List.set_cons_zero, List.set_cons_succ, i64_w, i32_w]; rfl)
  (hQ : ∀ c a w, Q (.panic c) (a.put oi.dst v) w → Q (.panic c) a w := by exact fun _ _ _ h => h) : wpAnyLast P md ops Q S ds (fuel + 1) l a W := take_ l' hi hN hc hQ hy hS ha h
theorem tk3_ (i n : Nat) (hS : S W) (h : wpAnyLast P md ops Q S ds fuel l' a' W) (hi : ops[i]? = some oi := by rfl) (hN : oi.dst = some n := by rfl)
  (hl : l.setIfInBounds i true = l' := by simp only [List.setIfInBounds_toArray, List.set_cons_zero, List.set_cons_succ]; rfl) (hc : takeB md ops ds l l' i = true := by kernel_rfl)
  (hy : YieldsIf P ops S oi v a := by exact Or.inl ⟨by rfl, by intro w' hs_; (repeat (have s_ := And.left hs_; replace hs_ := And.right hs_)); go_simp; with_reducible rfl⟩)
  (ha : a.put (some n) v = a' := by simp only [Act.put, List.setIfInBounds_toArray, List.set_cons_zero, List.set_cons_succ, i64_w, i32_w]; rfl)
  (hQ : ∀ c a w, Q (.panic c) (a.put oi.dst v) w → Q (.panic c) a w := by exact fun _ _ _ h => h) : wpAnyLast P md ops Q S ds (fuel + 1) l a W := take_ l' hi hN hc hQ hy hS ha h
theorem nk_ (n : Nat) {d : Option Tmp} (h : wpAnyLast P md ops Q S ds fuel l a' W) (hd : d = some n := by rfl)
  (ha : a.put (some n) v = a' := by simp only [Act.put, List.setIfInBounds_toArray, List.set_cons_zero, List.set_cons_succ, i64_w, i32_w]; rfl) : wpAnyLast P md ops Q S ds fuel l (a.put d v) W := by
 subst hd; exact norm_ ha h
end
/-- Blocks made in a time. -/
def Bt (a b k : Nat) : Prop := a ≤ k ∧ k < b
/-- A page in a box of one's own. -/
def PgS (base : Nat) (w : World) (U : Nat → Prop) (g : Nat) (s0 : List S53) (s1 s2 : List Int) (h b : Int) : Prop :=
 ∃ v0 v1 v2 : Value, w.heap[g]? = some (.cells #[v0, v1, v2, .int .i64 h, .int .i64 b] 31 (0, 0)) ∧ base ≤ g ∧ (∀ k, U k → k ≠ g) ∧ OwnP w base U v0 v1 v2 s0 s1 s2
theorem PgS.isS (H : PgS base w U g s0 s1 s2 h b) : IsS31 w w g s0 s1 s2 h b := by
 obtain ⟨v0, v1, v2, hg, hb, hu, ho⟩ := H
 obtain ⟨A0, c0, A1, c1, A2, c2, rfl, rfl, rfl, ⟨l0, r0⟩, ⟨l1, r1⟩, ⟨l2, r2⟩⟩ := ho.slices
 exact ⟨A0, c0, A1, c1, A2, c2, hg, ⟨trivial, l0, l1, l2⟩, r0, r1, r2⟩
theorem PgS.below (H : PgS base w U g s0 s1 s2 h b) (hb : Below w.heap.size w w1) : PgS base w1 U g s0 s1 s2 h b := by
 obtain ⟨v0, v1, v2, hg, hb', hu, ho⟩ := H
 exact ⟨v0, v1, v2, blk_below hg hb, hb', hu, ho.below hb⟩
theorem PgS.mono (H : PgS base w U g s0 s1 s2 h b) (hU : ∀ k, U k → U' k) (hg : ∀ k, U' k → k ≠ g) : PgS base w U' g s0 s1 s2 h b := by
 obtain ⟨v0, v1, v2, hg', hb', hu, ho⟩ := H
 exact ⟨v0, v1, v2, hg', hb', hg, ho.mono hU⟩
theorem PgS.lt (H : PgS base w U g s0 s1 s2 h b) : g < w.heap.size := by
 obtain ⟨v0, v1, v2, hg', hb', hu, ho⟩ := H
 exact blk_lt hg'
end
attribute [local go_sem] max2_int min2_int max_two min_two max_three min_three max_four min_four
/-- Where a number goes in: at its place, or last where the place is out of range. -/
def hang_at (at_ : Int) (n : Nat) : Nat := if 0 ≤ at_ ∧ at_ ≤ (n : Int) then at_.toNat else n
def impl_hang.f (l0 : List S53) (a1 a2 : Int) (a3_0 a3_1 : Int) (a3_2 : ByteArray) (l3_3 : List S56) (a3_4 : ByteArray) : Option (List S53 × Int) :=
 (impl_copyAttrs.f l3_3).bind fun t => if l0.length < 1353245080339 ∧ 0 ≤ a1 ∧ a1 < ((l0 ++ [(⟨a3_0, a3_1, a3_2, t, a3_4, a1, ([] : List Int)⟩ : S53)]).length : Int) ∧ (rd_T53 (l0 ++ [(⟨a3_0, a3_1, a3_2, t, a3_4, a1, ([] : List Int)⟩ : S53)]) a1).f6.length < 17592186044415 then
  some ((l0 ++ [(⟨a3_0, a3_1, a3_2, t, a3_4, a1, ([] : List Int)⟩ : S53)]).set a1.toNat ⟨(rd_T53 (l0 ++ [(⟨a3_0, a3_1, a3_2, t, a3_4, a1, ([] : List Int)⟩ : S53)]) a1).f0, (rd_T53 (l0 ++ [(⟨a3_0, a3_1, a3_2, t, a3_4, a1, ([] : List Int)⟩ : S53)]) a1).f1, (rd_T53 (l0 ++ [(⟨a3_0, a3_1, a3_2, t, a3_4, a1, ([] : List Int)⟩ : S53)]) a1).f2, (rd_T53 (l0 ++ [(⟨a3_0, a3_1, a3_2, t, a3_4, a1, ([] : List Int)⟩ : S53)]) a1).f3, (rd_T53 (l0 ++ [(⟨a3_0, a3_1, a3_2, t, a3_4, a1, ([] : List Int)⟩ : S53)]) a1).f4, (rd_T53 (l0 ++ [(⟨a3_0, a3_1, a3_2, t, a3_4, a1, ([] : List Int)⟩ : S53)]) a1).f5, (rd_T53 (l0 ++ [(⟨a3_0, a3_1, a3_2, t, a3_4, a1, ([] : List Int)⟩ : S53)]) a1).f6.take (hang_at a2 (rd_T53 (l0 ++ [(⟨a3_0, a3_1, a3_2, t, a3_4, a1, ([] : List Int)⟩ : S53)]) a1).f6.length) ++ (l0.length : Int) :: (rd_T53 (l0 ++ [(⟨a3_0, a3_1, a3_2, t, a3_4, a1, ([] : List Int)⟩ : S53)]) a1).f6.drop (hang_at a2 (rd_T53 (l0 ++ [(⟨a3_0, a3_1, a3_2, t, a3_4, a1, ([] : List Int)⟩ : S53)]) a1).f6.length)⟩, (l0.length : Int)) else none
theorem impl_hang.calls (P0_ : Nat → Prop) (v0 : Value) (l0 : List S53) (a1 a2 : Int) (a3_0 a3_1 : Int) (a3_2 : ByteArray) (A3_3 : Option Addr) (c3_3 : Nat) (l3_3 : List S56) (a3_4 : ByteArray) (a3_5 : Int) (A3_6 : Option Addr) (n3_6 c3_6 : Nat) (r1 : List S53) (r2 : Int) (w0 w : World) (hB : Below w0.heap.size w0 w) (ho : Kd.S k53 53 w w0.heap.size P0_ v0 l0) (hr3 : Kd.C k56 w A3_3 l3_3.length l3_3) (hc3 : l3_3.length ≤ c3_3) (h : impl_hang.f l0 a1 a2 a3_0 a3_1 a3_2 l3_3 a3_4 = some (r1, r2)) :
  Calls Tryz.prog 98 #[v0, .int .i64 a1, .int .i64 a2, .agg #[.int .i64 a3_0, .int .i64 a3_1, .string a3_2, .slice A3_3 l3_3.length c3_3, .string a3_4, .int .i64 a3_5, .slice A3_6 n3_6 c3_6]] w fun e w' => ∃ v1_ : Value, e = .returned (.tuple #[v1_, .int .i64 r2]) ∧ Kd.S k53 53 w' w0.heap.size (fun k => P0_ k ∨ w.heap.size ≤ k) v1_ r1 ∧ Below w0.heap.size w0 w' ∧ Kept w w' P0_ := by
 unfold impl_hang.f at h
 replace h := Option.bind_eq_some_iff.mp h
 obtain ⟨t, A60, h⟩ := h
 generalize hx : (⟨a3_0, a3_1, a3_2, t, a3_4, a1, ([] : List Int)⟩ : S53) = x at h
 generalize hy : l0 ++ [x] = y at h
 split at h
 case isFalse => exact absurd h (by simp)
 case isTrue hc =>
 obtain ⟨cl, p1, q1, c6⟩ := hc
 have cle : (y.length : Int) = l0.length + 1 := by rw [← hy]; simp
 have CLE := am cle
 clear cle
 have A6 := am A60
 clear A60
 have CL := am cl
 have C6 := am c6
 clear cl c6
 have HX := am hx
 have HY := am hy
 clear hx hy
 obtain ⟨A0, c0, rfl⟩ := Kd.S_slice ho
 have HS : Aside0 (Kd.S k53 53 w w0.heap.size (fun k => P0_ k ∧ k < w.heap.size) (.slice A0 l0.length c0) l0) := ⟨Kd.S_mono (Kd.S_bound ho) (fun k hk => ⟨hk.1, hk.2.2.1⟩)⟩
 have HL := am (Kd.S_lt ho)
 have HB := am hB
 have HW0 := am hB.size
 have HK := am (Kept.refl w P0_)
 have HR3 := am hr3
 have HC3 := am hc3
 clear ho hB hr3 hc3
 have P1 := am p1
 have Q1 := am q1
 clear p1 q1
 by_cases cin : 0 ≤ a2 ∧ a2 ≤ ((rd_T53 y a1).f6.length : Int)
 ·obtain ⟨n2, rfl⟩ : ∃ n : Nat, a2 = (n : Int) := ⟨a2.toNat, by omega⟩
  have HI := am (show n2 ≤ (rd_T53 y a1).f6.length by omega)
  have HIN := am (show impl_inRange.f (n2 : Int) 0 ((rd_T53 y a1).f6.length : Int) = some true by unfold impl_inRange.f; rw [if_pos cin.1, decide_eq_true cin.2])
  rw [show hang_at (n2 : Int) (rd_T53 y a1).f6.length = n2 by unfold hang_at; rw [if_pos cin]; rfl] at h
  clear cin
  simp only [Option.some.injEq, Prod.mk.injEq] at h
  obtain ⟨rfl, rfl⟩ := h
  obtain ⟨r6, hr6_⟩ : ∃ r : List Int, r = (rd_T53 y a1).f6.take n2 ++ (l0.length : Int) :: (rd_T53 y a1).f6.drop n2 := ⟨_, rfl⟩
  rw [← hr6_]
  have HRR := am hr6_
  clear hr6_
  go_enter Tryz.func98, Tryz.ntmps98
  go_wp2_with (first | ((with_reducible refine gd_ 7 ?_); refine bx_ 7 (cs := #[.int .i64 a3_0, .int .i64 a3_1, .string a3_2, .slice A3_3 l3_3.length c3_3, .string a3_4, .int .i64 a3_5, .slice A3_6 n3_6 c3_6]) 53 ?_; intro gb hg w1 hbox hb; have GE := am (show w.heap.size ≤ gb by rw [hg]; exact HK.out.1); replace HS := am (Kd.S_below HS.out hb); replace HB := am (below_step HB.out hb); replace HK := am (Kept.below HK.out hb); replace HR3 := am (Kd.C_below HR3.out hb); have BK := am hbox; clear hb hbox hg; obtain ⟨hczz_0, hczz_1, hczz_2, hczz_3, hczz_4, hczz_5, hczz_6⟩ := cl7 BK; obtain ⟨hfzz_0, hfzz_1, hfzz_2, hfzz_3, hfzz_4, hfzz_5, hfzz_6⟩ := fz7 BK) | ((with_reducible refine gf_ 86 ?_); refine gx_ Tryz.func86 (impl_copyAttrs.calls _ _ l3_3 t _ HR3.out HC3.out A6.out) ?_; rintro v3 w2 ⟨ho0, hb⟩; obtain ⟨Ao, co, eo⟩ := Kd.R_slice ho0; subst eo; have HA : Aside0 (Kd.R k56 56 w2 w0.heap.size (fun k => w.heap.size ≤ k ∧ k ≠ gb) (.slice Ao t.length co) t) := ⟨Kd.R_lower (Kd.R_mono (Kd.R_bound ho0) (fun k hk => ⟨Nat.le_trans HK.out.1 hk.2.1, fun e_ => by have := blk_lt BK.out; have := hk.2.1; omega⟩)) (below_size HB.out)⟩; replace HS := am (Kd.S_below HS.out hb); replace HB := am (below_step HB.out hb); replace HK := am (Kept.below HK.out hb); replace BK := am (blk_below BK.out hb); clear ho0 hb HR3; obtain ⟨hcza_0, hcza_1, hcza_2, hcza_3, hcza_4, hcza_5, hcza_6⟩ := cl7 BK; obtain ⟨hfza_0, hfza_1, hfza_2, hfza_3, hfza_4, hfza_5, hfza_6⟩ := fz7 BK) | ((with_reducible refine gate_store (t := 3) (p := 18) rfl ?_); refine store_event (t := 3) (p := 18) (v := ?vo18) (w1 := (w2.setCell ⟨gb, 5, none⟩ (.int .i64 a1))) ?hg ?ho ?hn ?hr ?_; (case ho => rfl); (case hg => rfl); (case hn => rfl); (case hr => first | (go_simp; done) | (go_simp; rfl)); intro w3 hw; replace HA : Aside0 (Kd.R k56 56 w3 w0.heap.size (fun k => w.heap.size ≤ k ∧ k ≠ gb) (.slice Ao t.length co) t) := ⟨by rw [hw]; exact Kd.R_far HA.out (p := ⟨gb, 5, none⟩) (fun _ hk => hk.2) _⟩; replace HS : Aside0 (Kd.S k53 53 w3 w0.heap.size (fun k => P0_ k ∧ k < w.heap.size) (.slice A0 l0.length c0) l0) := ⟨by rw [hw]; exact Kd.S_far HS.out (p := ⟨gb, 5, none⟩) (fun k hk e_ => by have h1_ := hk.2; have h2_ := GE.out; rw [show k = gb from e_] at h1_; omega) _⟩; replace BK : Aside0 (w3.heap[gb]? = some (.cells #[.int .i64 a3_0, .int .i64 a3_1, .string a3_2, .slice A3_3 l3_3.length c3_3, .string a3_4, .int .i64 a1, .slice A3_6 n3_6 c3_6] 53 (0, 0))) := ⟨by rw [hw]; exact blk_put (cs := #[.int .i64 a3_0, .int .i64 a3_1, .string a3_2, .slice A3_3 l3_3.length c3_3, .string a3_4, .int .i64 a3_5, .slice A3_6 n3_6 c3_6]) BK.out 5 _ rfl⟩; replace HB : Aside0 (Below w0.heap.size w0 w3) := ⟨by rw [hw]; exact below_set HB.out (Nat.le_trans HW0.out GE.out)⟩; replace HK : Aside0 (Kept w w3 P0_) := ⟨by rw [hw]; exact Kept.setCell HK.out (Or.inr GE.out) _⟩; clear hw; obtain ⟨hczb0_0, hczb0_1, hczb0_2, hczb0_3, hczb0_4, hczb0_5, hczb0_6⟩ := cl7 BK; obtain ⟨hfzb0_0, hfzb0_1, hfzb0_2, hfzb0_3, hfzb0_4, hfzb0_5, hfzb0_6⟩ := fz7 BK) | ((with_reducible refine gate_store (t := 23) (p := 19) rfl ?_); refine store_event (t := 23) (p := 19) (v := ?vo19) (w1 := (w3.setCell ⟨gb, 6, none⟩ (.slice none 0 0))) ?hg ?ho ?hn ?hr ?_; (case ho => rfl); (case hg => rfl); (case hn => rfl); (case hr => first | (go_simp; done) | (go_simp; rfl)); intro w4 hw; replace HA : Aside0 (Kd.R k56 56 w4 w0.heap.size (fun k => w.heap.size ≤ k ∧ k ≠ gb) (.slice Ao t.length co) t) := ⟨by rw [hw]; exact Kd.R_far HA.out (p := ⟨gb, 6, none⟩) (fun _ hk => hk.2) _⟩; replace HS : Aside0 (Kd.S k53 53 w4 w0.heap.size (fun k => P0_ k ∧ k < w.heap.size) (.slice A0 l0.length c0) l0) := ⟨by rw [hw]; exact Kd.S_far HS.out (p := ⟨gb, 6, none⟩) (fun k hk e_ => by have h1_ := hk.2; have h2_ := GE.out; rw [show k = gb from e_] at h1_; omega) _⟩; replace BK : Aside0 (w4.heap[gb]? = some (.cells #[.int .i64 a3_0, .int .i64 a3_1, .string a3_2, .slice A3_3 l3_3.length c3_3, .string a3_4, .int .i64 a1, .slice none 0 0] 53 (0, 0))) := ⟨by rw [hw]; exact blk_put (cs := #[.int .i64 a3_0, .int .i64 a3_1, .string a3_2, .slice A3_3 l3_3.length c3_3, .string a3_4, .int .i64 a1, .slice A3_6 n3_6 c3_6]) BK.out 6 _ rfl⟩; replace HB : Aside0 (Below w0.heap.size w0 w4) := ⟨by rw [hw]; exact below_set HB.out (Nat.le_trans HW0.out GE.out)⟩; replace HK : Aside0 (Kept w w4 P0_) := ⟨by rw [hw]; exact Kept.setCell HK.out (Or.inr GE.out) _⟩; clear hw; obtain ⟨hczb1_0, hczb1_1, hczb1_2, hczb1_3, hczb1_4, hczb1_5, hczb1_6⟩ := cl7 BK; obtain ⟨hfzb1_0, hfzb1_1, hfzb1_2, hfzb1_3, hfzb1_4, hfzb1_5, hfzb1_6⟩ := fz7 BK) | ((with_reducible refine gate_store (t := 34) (p := 20) rfl ?_); refine store_event (t := 34) (p := 20) (v := ?vo20) (w1 := (w4.setCell ⟨gb, 3, none⟩ (.slice Ao t.length co))) ?hg ?ho ?hn ?hr ?_; (case ho => rfl); (case hg => rfl); (case hn => rfl); (case hr => first | (go_simp; done) | (go_simp; rfl)); intro w5 hw; replace HA : Aside0 (Kd.R k56 56 w5 w0.heap.size (fun k => w.heap.size ≤ k ∧ k ≠ gb) (.slice Ao t.length co) t) := ⟨by rw [hw]; exact Kd.R_far HA.out (p := ⟨gb, 3, none⟩) (fun _ hk => hk.2) _⟩; replace HS : Aside0 (Kd.S k53 53 w5 w0.heap.size (fun k => P0_ k ∧ k < w.heap.size) (.slice A0 l0.length c0) l0) := ⟨by rw [hw]; exact Kd.S_far HS.out (p := ⟨gb, 3, none⟩) (fun k hk e_ => by have h1_ := hk.2; have h2_ := GE.out; rw [show k = gb from e_] at h1_; omega) _⟩; replace BK : Aside0 (w5.heap[gb]? = some (.cells #[.int .i64 a3_0, .int .i64 a3_1, .string a3_2, .slice Ao t.length co, .string a3_4, .int .i64 a1, .slice none 0 0] 53 (0, 0))) := ⟨by rw [hw]; exact blk_put (cs := #[.int .i64 a3_0, .int .i64 a3_1, .string a3_2, .slice A3_3 l3_3.length c3_3, .string a3_4, .int .i64 a1, .slice none 0 0]) BK.out 3 _ rfl⟩; replace HB : Aside0 (Below w0.heap.size w0 w5) := ⟨by rw [hw]; exact below_set HB.out (Nat.le_trans HW0.out GE.out)⟩; replace HK : Aside0 (Kept w w5 P0_) := ⟨by rw [hw]; exact Kept.setCell HK.out (Or.inr GE.out) _⟩; clear hw; obtain ⟨hczb2_0, hczb2_1, hczb2_2, hczb2_3, hczb2_4, hczb2_5, hczb2_6⟩ := cl7 BK; obtain ⟨hfzb2_0, hfzb2_1, hfzb2_2, hfzb2_3, hfzb2_4, hfzb2_5, hfzb2_6⟩ := fz7 BK) | ((with_reducible refine gate_builtin (b := .append) (xs := #[.tmp 21, .tmp 23]) rfl ?_); at_builtin; refine Kd.S_append k53 (w0 := w0) w0.heap.size rfl (.tmp 21) (.tmp 23) 29 53 (.agg #[(.int .i64 0), (.int .i64 0), (.string ⟨#[]⟩), (.slice none 0 0), (.string ⟨#[]⟩), (.int .i64 0), (.slice none 0 0)]) 104 rfl Tryz.underlying29 info53 rfl (by decide) (by omega) (.slice A0 l0.length c0) l0 x [.int .i64 a3_0, .int .i64 a3_1, .string a3_2, .slice Ao t.length co, .string a3_4, .int .i64 a1, .slice none 0 0] (fun k => P0_ k ∨ w.heap.size ≤ k) (fun k => some k = (.slice Ao t.length co : Value).ownBlock) rfl rfl ?aP ?aK ?aF ?aO ?aB ?aS ?aL ?_; (case aP => rw [← HX.out]; exact k53_mkM _ _ _ (⟨a3_0, a3_1, a3_2, t, a3_4, a1, ([] : List Int)⟩ : S53) (Kd.R_tight rfl HA.out) (Kd.R_nil _ _ _ _ _)); (case aK => exact fun k hk => ⟨Or.inr (HA.out.1 k hk.symm).1, fun e_ => by have h1_ := HL.out k e_.symm; have h2_ := (HA.out.1 k hk.symm).1; omega⟩); (case aB => exact HB.out); (case aF => exact fun k hk => Or.inr (Nat.le_trans HK.out.1 hk)); (case aO => exact Kd.S_mono HS.out (fun k hk => ⟨Or.inl hk.1, fun e_ => by have h1_ := hk.2; have h2_ := (HA.out.1 k e_.symm).1; omega⟩)); (case aS => exact below_size HB.out); (case aL => have := CL.out; omega); intro v6 w6 ho hb hg hat; rw [HY.out] at ho; replace HK := am (Kept.of_grown (S := P0_) hg HK.out (fun k e_ => Or.inl ((Kd.S_R HS.out).1 k e_).1)); replace HB := am hb; have HO := am ho; clear hg hb ho hat BK HA HS; obtain ⟨g, cap, eg, gb2, gl, cells, HG⟩ := Kd.S_form HO.out (by have := CLE.out; omega); subst eg; have HGP := am ((Kd.S_R HO.out).1 g rfl); have GB := am gb2; have GL := am gl; clear gb2 gl HG; obtain ⟨A6_, c6_, hx6, hf6, hl6, hr6, hback⟩ := S_kids_store HO.out a1 P1.out Q1.out (fun k hk => Or.inr (Nat.le_trans HK.out.1 hk)) GL.out; have HR6 := am hr6; have HBK := am hback; have HF6 := am (hf6 6); have HX6 := am hx6; clear hr6 hback hf6; have p1_ := eq_true P1.out; have q1_ := eq_true Q1.out) | ((with_reducible refine gf_ 87 ?_); refine gc_ Tryz.func87 (impl_inRange.calls (n2 : Int) 0 ((rd_T53 y a1).f6.length : Int) true _ HIN.out) ?_; rintro w' ⟨nd, rfl⟩; (try (rw [drewN_self w6]))) | ((with_reducible refine gate_callee (f := 111) rfl ?_); refine goesL_ (some 43) rfl rfl Tryz.func111 (by kernel_rfl) rfl #[.slice A6_ (rd_T53 y a1).f6.length c6_, .int .i64 (n2 : Int), .slice (some ⟨w6.heap.size, 0, none⟩) 1 1] rfl ab5 ?_; refine Calls.mono (insert_calls Tryz.slices_Insert_laid rfl (xs := (rd_T53 y a1).f6) (i := n2) (k := (l0.length : Int)) (vb := w6.heap.size) (base := w0.heap.size) (ok := (fun k => (some k = (.slice A6_ (rd_T53 y a1).f6.length c6_ : Value).ownBlock ∧ (P0_ k ∨ w.heap.size ≤ k) ∧ k ≠ g) ∨ w6.heap.size ≤ k)) ?i1 C6.out ?i2 ?i3 ?i4 ?i5 ?i6) ?_; (case i1 => exact HI.out); (case i2 => (with_reducible repeat (first | apply Kd.R_alloc | apply Kd.R_drewN | apply Kd.R_drew)); exact HR6.out); (case i3 => exact Nat.le_trans (below_size HB.out) (Nat.le_of_lt (alloc_size _ _))); (case i4 => exact blk_new _ _); (case i5 => exact fun e_ => by have := Kd.R_lt HR6.out _ e_.symm; omega); (case i6 => exact fun q hq => Or.inr (Nat.le_trans (Nat.le_of_lt (alloc_size _ _)) hq)); rintro e w8 ⟨v8, rfl, hR, hown, hfr, hsz, hos, htp, hou⟩; refine ⟨_, rfl, ?_⟩; rw [← HRR.out] at hR; obtain ⟨Av, cv, ev⟩ := Kd.R_slice hR; subst ev; have h68 : w6.heap.size ≤ w8.heap.size := Nat.le_trans (Nat.le_of_lt (alloc_size _ _)) hsz; have h6 : ∀ q, q < w6.heap.size → some q ≠ (.slice A6_ (rd_T53 y a1).f6.length c6_ : Value).ownBlock → w8.heap[q]? = w6.heap[q]? := (fun q hq hne => (hfr q (Nat.lt_trans hq (alloc_size _ _)) hne).trans (Below.heap_alloc _ _ q hq)); have hK6 : Kept w6 w8 (fun k => some k = (.slice A6_ (rd_T53 y a1).f6.length c6_ : Value).ownBlock) := ⟨h68, fun q hq hne => h6 q hq hne⟩; have HST := am (HBK.out w8 _ _ hR hK6); have gne : some g ≠ (.slice A6_ (rd_T53 y a1).f6.length c6_ : Value).ownBlock := (fun e_ => (HR6.out.1 g e_.symm).elim (fun h_ => h_.2.2 rfl) (fun h_ => by have := GL.out; omega)); have hg8 := h6 g GL.out gne; have hx8 : w8.cell? ⟨g, a1.toNat * 7 + 6, none⟩ = some (.slice A6_ (rd_T53 y a1).f6.length c6_) := cell_kept HX6.out hK6 gne; have hf8 : w8.frozen? ⟨g, a1.toNat * 7 + 6, none⟩ = false := (by have := HF6.out; unfold World.frozen? at this ⊢; rw [hg8]; exact this); replace HK := am (Kept.then_ HK.out hK6 (fun k e_ => (HR6.out.1 k e_.symm).elim (fun h_ => h_.2.1) (fun h_ => Or.inr (Nat.le_trans HK.out.1 h_)))); replace HB : Aside0 (Below w0.heap.size w0 w8) := ⟨⟨hos.trans HB.out.os, htp.trans HB.out.tape, hou.trans HB.out.output, Nat.le_trans HB.out.size h68, fun q hq => (h6 q (Nat.lt_of_lt_of_le hq (below_size HB.out)) (fun e_ => by have := Kd.R_base HR6.out q e_.symm; omega)).trans (HB.out.block q hq)⟩⟩; clear hown hfr hsz hos htp hou h6 hK6 hg8 hR) | ((with_reducible refine gate_store (t := 23) (p := 45) rfl ?_); refine store_event (t := 23) (p := 45) (v := ?vo45) (w1 := (w8.setCell ⟨g, a1.toNat * 7 + 6, none⟩ (.slice Av r6.length cv))) ?hg ?ho ?hn ?hr ?_; (case ho => rfl); (case hg => rfl); (case hn => rfl); (case hr => first | (go_simp; done) | (go_simp; rfl)); intro w9 hw; have HZ : Aside0 (Below w0.heap.size w0 w9) := ⟨by rw [hw]; exact below_set HB.out GB.out⟩; have HKZ : Aside0 (Kept w w9 P0_) := ⟨by rw [hw]; exact Kept.setCell HK.out HGP.out _⟩; rw [← hw] at HST; clear hw))
  go_ret2
  exact ⟨_, by first | rfl | (simp [errW_none, errW_some] <;> rfl), HST.out.1, HZ.out, HKZ.out⟩
 ·have HI := am (Nat.le_refl (rd_T53 y a1).f6.length)
  have HIN := am (show impl_inRange.f a2 0 ((rd_T53 y a1).f6.length : Int) = some false by unfold impl_inRange.f; by_cases c0_ : 0 ≤ a2; (rw [if_pos c0_, decide_eq_false (fun h_ => cin ⟨c0_, h_⟩)]); (rw [if_neg c0_]))
  rw [show hang_at a2 (rd_T53 y a1).f6.length = (rd_T53 y a1).f6.length by unfold hang_at; rw [if_neg cin]] at h
  clear cin
  simp only [Option.some.injEq, Prod.mk.injEq] at h
  obtain ⟨rfl, rfl⟩ := h
  obtain ⟨r6, hr6_⟩ : ∃ r : List Int, r = (rd_T53 y a1).f6.take (rd_T53 y a1).f6.length ++ (l0.length : Int) :: (rd_T53 y a1).f6.drop (rd_T53 y a1).f6.length := ⟨_, rfl⟩
  rw [← hr6_]
  have HRR := am hr6_
  clear hr6_
  go_enter Tryz.func98, Tryz.ntmps98
  go_wp2_with (first | ((with_reducible refine gd_ 7 ?_); refine bx_ 7 (cs := #[.int .i64 a3_0, .int .i64 a3_1, .string a3_2, .slice A3_3 l3_3.length c3_3, .string a3_4, .int .i64 a3_5, .slice A3_6 n3_6 c3_6]) 53 ?_; intro gb hg w1 hbox hb; have GE := am (show w.heap.size ≤ gb by rw [hg]; exact HK.out.1); replace HS := am (Kd.S_below HS.out hb); replace HB := am (below_step HB.out hb); replace HK := am (Kept.below HK.out hb); replace HR3 := am (Kd.C_below HR3.out hb); have BK := am hbox; clear hb hbox hg; obtain ⟨hczz_0, hczz_1, hczz_2, hczz_3, hczz_4, hczz_5, hczz_6⟩ := cl7 BK; obtain ⟨hfzz_0, hfzz_1, hfzz_2, hfzz_3, hfzz_4, hfzz_5, hfzz_6⟩ := fz7 BK) | ((with_reducible refine gf_ 86 ?_); refine gx_ Tryz.func86 (impl_copyAttrs.calls _ _ l3_3 t _ HR3.out HC3.out A6.out) ?_; rintro v3 w2 ⟨ho0, hb⟩; obtain ⟨Ao, co, eo⟩ := Kd.R_slice ho0; subst eo; have HA : Aside0 (Kd.R k56 56 w2 w0.heap.size (fun k => w.heap.size ≤ k ∧ k ≠ gb) (.slice Ao t.length co) t) := ⟨Kd.R_lower (Kd.R_mono (Kd.R_bound ho0) (fun k hk => ⟨Nat.le_trans HK.out.1 hk.2.1, fun e_ => by have := blk_lt BK.out; have := hk.2.1; omega⟩)) (below_size HB.out)⟩; replace HS := am (Kd.S_below HS.out hb); replace HB := am (below_step HB.out hb); replace HK := am (Kept.below HK.out hb); replace BK := am (blk_below BK.out hb); clear ho0 hb HR3; obtain ⟨hcza_0, hcza_1, hcza_2, hcza_3, hcza_4, hcza_5, hcza_6⟩ := cl7 BK; obtain ⟨hfza_0, hfza_1, hfza_2, hfza_3, hfza_4, hfza_5, hfza_6⟩ := fz7 BK) | ((with_reducible refine gate_store (t := 3) (p := 18) rfl ?_); refine store_event (t := 3) (p := 18) (v := ?vo18) (w1 := (w2.setCell ⟨gb, 5, none⟩ (.int .i64 a1))) ?hg ?ho ?hn ?hr ?_; (case ho => rfl); (case hg => rfl); (case hn => rfl); (case hr => first | (go_simp; done) | (go_simp; rfl)); intro w3 hw; replace HA : Aside0 (Kd.R k56 56 w3 w0.heap.size (fun k => w.heap.size ≤ k ∧ k ≠ gb) (.slice Ao t.length co) t) := ⟨by rw [hw]; exact Kd.R_far HA.out (p := ⟨gb, 5, none⟩) (fun _ hk => hk.2) _⟩; replace HS : Aside0 (Kd.S k53 53 w3 w0.heap.size (fun k => P0_ k ∧ k < w.heap.size) (.slice A0 l0.length c0) l0) := ⟨by rw [hw]; exact Kd.S_far HS.out (p := ⟨gb, 5, none⟩) (fun k hk e_ => by have h1_ := hk.2; have h2_ := GE.out; rw [show k = gb from e_] at h1_; omega) _⟩; replace BK : Aside0 (w3.heap[gb]? = some (.cells #[.int .i64 a3_0, .int .i64 a3_1, .string a3_2, .slice A3_3 l3_3.length c3_3, .string a3_4, .int .i64 a1, .slice A3_6 n3_6 c3_6] 53 (0, 0))) := ⟨by rw [hw]; exact blk_put (cs := #[.int .i64 a3_0, .int .i64 a3_1, .string a3_2, .slice A3_3 l3_3.length c3_3, .string a3_4, .int .i64 a3_5, .slice A3_6 n3_6 c3_6]) BK.out 5 _ rfl⟩; replace HB : Aside0 (Below w0.heap.size w0 w3) := ⟨by rw [hw]; exact below_set HB.out (Nat.le_trans HW0.out GE.out)⟩; replace HK : Aside0 (Kept w w3 P0_) := ⟨by rw [hw]; exact Kept.setCell HK.out (Or.inr GE.out) _⟩; clear hw; obtain ⟨hczb0_0, hczb0_1, hczb0_2, hczb0_3, hczb0_4, hczb0_5, hczb0_6⟩ := cl7 BK; obtain ⟨hfzb0_0, hfzb0_1, hfzb0_2, hfzb0_3, hfzb0_4, hfzb0_5, hfzb0_6⟩ := fz7 BK) | ((with_reducible refine gate_store (t := 23) (p := 19) rfl ?_); refine store_event (t := 23) (p := 19) (v := ?vo19) (w1 := (w3.setCell ⟨gb, 6, none⟩ (.slice none 0 0))) ?hg ?ho ?hn ?hr ?_; (case ho => rfl); (case hg => rfl); (case hn => rfl); (case hr => first | (go_simp; done) | (go_simp; rfl)); intro w4 hw; replace HA : Aside0 (Kd.R k56 56 w4 w0.heap.size (fun k => w.heap.size ≤ k ∧ k ≠ gb) (.slice Ao t.length co) t) := ⟨by rw [hw]; exact Kd.R_far HA.out (p := ⟨gb, 6, none⟩) (fun _ hk => hk.2) _⟩; replace HS : Aside0 (Kd.S k53 53 w4 w0.heap.size (fun k => P0_ k ∧ k < w.heap.size) (.slice A0 l0.length c0) l0) := ⟨by rw [hw]; exact Kd.S_far HS.out (p := ⟨gb, 6, none⟩) (fun k hk e_ => by have h1_ := hk.2; have h2_ := GE.out; rw [show k = gb from e_] at h1_; omega) _⟩; replace BK : Aside0 (w4.heap[gb]? = some (.cells #[.int .i64 a3_0, .int .i64 a3_1, .string a3_2, .slice A3_3 l3_3.length c3_3, .string a3_4, .int .i64 a1, .slice none 0 0] 53 (0, 0))) := ⟨by rw [hw]; exact blk_put (cs := #[.int .i64 a3_0, .int .i64 a3_1, .string a3_2, .slice A3_3 l3_3.length c3_3, .string a3_4, .int .i64 a1, .slice A3_6 n3_6 c3_6]) BK.out 6 _ rfl⟩; replace HB : Aside0 (Below w0.heap.size w0 w4) := ⟨by rw [hw]; exact below_set HB.out (Nat.le_trans HW0.out GE.out)⟩; replace HK : Aside0 (Kept w w4 P0_) := ⟨by rw [hw]; exact Kept.setCell HK.out (Or.inr GE.out) _⟩; clear hw; obtain ⟨hczb1_0, hczb1_1, hczb1_2, hczb1_3, hczb1_4, hczb1_5, hczb1_6⟩ := cl7 BK; obtain ⟨hfzb1_0, hfzb1_1, hfzb1_2, hfzb1_3, hfzb1_4, hfzb1_5, hfzb1_6⟩ := fz7 BK) | ((with_reducible refine gate_store (t := 34) (p := 20) rfl ?_); refine store_event (t := 34) (p := 20) (v := ?vo20) (w1 := (w4.setCell ⟨gb, 3, none⟩ (.slice Ao t.length co))) ?hg ?ho ?hn ?hr ?_; (case ho => rfl); (case hg => rfl); (case hn => rfl); (case hr => first | (go_simp; done) | (go_simp; rfl)); intro w5 hw; replace HA : Aside0 (Kd.R k56 56 w5 w0.heap.size (fun k => w.heap.size ≤ k ∧ k ≠ gb) (.slice Ao t.length co) t) := ⟨by rw [hw]; exact Kd.R_far HA.out (p := ⟨gb, 3, none⟩) (fun _ hk => hk.2) _⟩; replace HS : Aside0 (Kd.S k53 53 w5 w0.heap.size (fun k => P0_ k ∧ k < w.heap.size) (.slice A0 l0.length c0) l0) := ⟨by rw [hw]; exact Kd.S_far HS.out (p := ⟨gb, 3, none⟩) (fun k hk e_ => by have h1_ := hk.2; have h2_ := GE.out; rw [show k = gb from e_] at h1_; omega) _⟩; replace BK : Aside0 (w5.heap[gb]? = some (.cells #[.int .i64 a3_0, .int .i64 a3_1, .string a3_2, .slice Ao t.length co, .string a3_4, .int .i64 a1, .slice none 0 0] 53 (0, 0))) := ⟨by rw [hw]; exact blk_put (cs := #[.int .i64 a3_0, .int .i64 a3_1, .string a3_2, .slice A3_3 l3_3.length c3_3, .string a3_4, .int .i64 a1, .slice none 0 0]) BK.out 3 _ rfl⟩; replace HB : Aside0 (Below w0.heap.size w0 w5) := ⟨by rw [hw]; exact below_set HB.out (Nat.le_trans HW0.out GE.out)⟩; replace HK : Aside0 (Kept w w5 P0_) := ⟨by rw [hw]; exact Kept.setCell HK.out (Or.inr GE.out) _⟩; clear hw; obtain ⟨hczb2_0, hczb2_1, hczb2_2, hczb2_3, hczb2_4, hczb2_5, hczb2_6⟩ := cl7 BK; obtain ⟨hfzb2_0, hfzb2_1, hfzb2_2, hfzb2_3, hfzb2_4, hfzb2_5, hfzb2_6⟩ := fz7 BK) | ((with_reducible refine gate_builtin (b := .append) (xs := #[.tmp 21, .tmp 23]) rfl ?_); at_builtin; refine Kd.S_append k53 (w0 := w0) w0.heap.size rfl (.tmp 21) (.tmp 23) 29 53 (.agg #[(.int .i64 0), (.int .i64 0), (.string ⟨#[]⟩), (.slice none 0 0), (.string ⟨#[]⟩), (.int .i64 0), (.slice none 0 0)]) 104 rfl Tryz.underlying29 info53 rfl (by decide) (by omega) (.slice A0 l0.length c0) l0 x [.int .i64 a3_0, .int .i64 a3_1, .string a3_2, .slice Ao t.length co, .string a3_4, .int .i64 a1, .slice none 0 0] (fun k => P0_ k ∨ w.heap.size ≤ k) (fun k => some k = (.slice Ao t.length co : Value).ownBlock) rfl rfl ?aP ?aK ?aF ?aO ?aB ?aS ?aL ?_; (case aP => rw [← HX.out]; exact k53_mkM _ _ _ (⟨a3_0, a3_1, a3_2, t, a3_4, a1, ([] : List Int)⟩ : S53) (Kd.R_tight rfl HA.out) (Kd.R_nil _ _ _ _ _)); (case aK => exact fun k hk => ⟨Or.inr (HA.out.1 k hk.symm).1, fun e_ => by have h1_ := HL.out k e_.symm; have h2_ := (HA.out.1 k hk.symm).1; omega⟩); (case aB => exact HB.out); (case aF => exact fun k hk => Or.inr (Nat.le_trans HK.out.1 hk)); (case aO => exact Kd.S_mono HS.out (fun k hk => ⟨Or.inl hk.1, fun e_ => by have h1_ := hk.2; have h2_ := (HA.out.1 k e_.symm).1; omega⟩)); (case aS => exact below_size HB.out); (case aL => have := CL.out; omega); intro v6 w6 ho hb hg hat; rw [HY.out] at ho; replace HK := am (Kept.of_grown (S := P0_) hg HK.out (fun k e_ => Or.inl ((Kd.S_R HS.out).1 k e_).1)); replace HB := am hb; have HO := am ho; clear hg hb ho hat BK HA HS; obtain ⟨g, cap, eg, gb2, gl, cells, HG⟩ := Kd.S_form HO.out (by have := CLE.out; omega); subst eg; have HGP := am ((Kd.S_R HO.out).1 g rfl); have GB := am gb2; have GL := am gl; clear gb2 gl HG; obtain ⟨A6_, c6_, hx6, hf6, hl6, hr6, hback⟩ := S_kids_store HO.out a1 P1.out Q1.out (fun k hk => Or.inr (Nat.le_trans HK.out.1 hk)) GL.out; have HR6 := am hr6; have HBK := am hback; have HF6 := am (hf6 6); have HX6 := am hx6; clear hr6 hback hf6; have p1_ := eq_true P1.out; have q1_ := eq_true Q1.out) | ((with_reducible refine gf_ 87 ?_); refine gc_ Tryz.func87 (impl_inRange.calls a2 0 ((rd_T53 y a1).f6.length : Int) false _ HIN.out) ?_; rintro w' ⟨nd, rfl⟩; (try (rw [drewN_self w6]))) | ((with_reducible refine gate_callee (f := 111) rfl ?_); refine goesL_ (some 43) rfl rfl Tryz.func111 (by kernel_rfl) rfl #[.slice A6_ (rd_T53 y a1).f6.length c6_, .int .i64 ((rd_T53 y a1).f6.length : Int), .slice (some ⟨w6.heap.size, 0, none⟩) 1 1] rfl ab5 ?_; refine Calls.mono (insert_calls Tryz.slices_Insert_laid rfl (xs := (rd_T53 y a1).f6) (i := (rd_T53 y a1).f6.length) (k := (l0.length : Int)) (vb := w6.heap.size) (base := w0.heap.size) (ok := (fun k => (some k = (.slice A6_ (rd_T53 y a1).f6.length c6_ : Value).ownBlock ∧ (P0_ k ∨ w.heap.size ≤ k) ∧ k ≠ g) ∨ w6.heap.size ≤ k)) ?i1 C6.out ?i2 ?i3 ?i4 ?i5 ?i6) ?_; (case i1 => exact HI.out); (case i2 => (with_reducible repeat (first | apply Kd.R_alloc | apply Kd.R_drewN | apply Kd.R_drew)); exact HR6.out); (case i3 => exact Nat.le_trans (below_size HB.out) (Nat.le_of_lt (alloc_size _ _))); (case i4 => exact blk_new _ _); (case i5 => exact fun e_ => by have := Kd.R_lt HR6.out _ e_.symm; omega); (case i6 => exact fun q hq => Or.inr (Nat.le_trans (Nat.le_of_lt (alloc_size _ _)) hq)); rintro e w8 ⟨v8, rfl, hR, hown, hfr, hsz, hos, htp, hou⟩; refine ⟨_, rfl, ?_⟩; rw [← HRR.out] at hR; obtain ⟨Av, cv, ev⟩ := Kd.R_slice hR; subst ev; have h68 : w6.heap.size ≤ w8.heap.size := Nat.le_trans (Nat.le_of_lt (alloc_size _ _)) hsz; have h6 : ∀ q, q < w6.heap.size → some q ≠ (.slice A6_ (rd_T53 y a1).f6.length c6_ : Value).ownBlock → w8.heap[q]? = w6.heap[q]? := (fun q hq hne => (hfr q (Nat.lt_trans hq (alloc_size _ _)) hne).trans (Below.heap_alloc _ _ q hq)); have hK6 : Kept w6 w8 (fun k => some k = (.slice A6_ (rd_T53 y a1).f6.length c6_ : Value).ownBlock) := ⟨h68, fun q hq hne => h6 q hq hne⟩; have HST := am (HBK.out w8 _ _ hR hK6); have gne : some g ≠ (.slice A6_ (rd_T53 y a1).f6.length c6_ : Value).ownBlock := (fun e_ => (HR6.out.1 g e_.symm).elim (fun h_ => h_.2.2 rfl) (fun h_ => by have := GL.out; omega)); have hg8 := h6 g GL.out gne; have hx8 : w8.cell? ⟨g, a1.toNat * 7 + 6, none⟩ = some (.slice A6_ (rd_T53 y a1).f6.length c6_) := cell_kept HX6.out hK6 gne; have hf8 : w8.frozen? ⟨g, a1.toNat * 7 + 6, none⟩ = false := (by have := HF6.out; unfold World.frozen? at this ⊢; rw [hg8]; exact this); replace HK := am (Kept.then_ HK.out hK6 (fun k e_ => (HR6.out.1 k e_.symm).elim (fun h_ => h_.2.1) (fun h_ => Or.inr (Nat.le_trans HK.out.1 h_)))); replace HB : Aside0 (Below w0.heap.size w0 w8) := ⟨⟨hos.trans HB.out.os, htp.trans HB.out.tape, hou.trans HB.out.output, Nat.le_trans HB.out.size h68, fun q hq => (h6 q (Nat.lt_of_lt_of_le hq (below_size HB.out)) (fun e_ => by have := Kd.R_base HR6.out q e_.symm; omega)).trans (HB.out.block q hq)⟩⟩; clear hown hfr hsz hos htp hou h6 hK6 hg8 hR) | ((with_reducible refine gate_store (t := 23) (p := 45) rfl ?_); refine store_event (t := 23) (p := 45) (v := ?vo45) (w1 := (w8.setCell ⟨g, a1.toNat * 7 + 6, none⟩ (.slice Av r6.length cv))) ?hg ?ho ?hn ?hr ?_; (case ho => rfl); (case hg => rfl); (case hn => rfl); (case hr => first | (go_simp; done) | (go_simp; rfl)); intro w9 hw; have HZ : Aside0 (Below w0.heap.size w0 w9) := ⟨by rw [hw]; exact below_set HB.out GB.out⟩; have HKZ : Aside0 (Kept w w9 P0_) := ⟨by rw [hw]; exact Kept.setCell HK.out HGP.out _⟩; rw [← hw] at HST; clear hw))
  go_ret2
  exact ⟨_, by first | rfl | (simp [errW_none, errW_some] <;> rfl), HST.out.1, HZ.out, HKZ.out⟩
def impl_Page_tagAt.f (k : Nat) (s0 : List S53) (s1 s2 : List Int) (h b up at_ : Int) (a1 : Int) (a2 : ByteArray) (l3 : List S56) (a4 : ByteArray) (a5 : Int) (op : Bool) : Option (Int × List S53 × List Int) :=
 (impl_Page_hasRoom.f s0 s1 s2 h b).bind fun t => if t.1 = true then (impl_itemOk.f k 2 a1 a2 l3 a4 a5 []).bind fun u => if u = true then (impl_hang.f s0 up at_ 2 a1 a2 l3 a4).bind fun z => if op = true ∧ (s1.length : Int) < 40 then some (z.2, z.1, s1 ++ [z.2]) else some (z.2, z.1, s1) else some (0, s0, s1) else some (0, s0, s1)
theorem impl_Page_tagAt.calls (k : Nat) (U : Nat → Prop) (g : Nat) (s0 : List S53) (s1 s2 : List Int) (h b up at_ : Int) (a0 a1 : Int) (a2 : ByteArray) (A3 : Option Addr) (c3 : Nat) (l3 : List S56) (a4 : ByteArray) (a5 : Int) (op : Bool) (r0 : Int) (r1 : List S53) (r2 : List Int) (w0 w : World) (hP : PgS w0.heap.size w U g s0 s1 s2 h b) (hB : Below w0.heap.size w0 w) (hr3 : Kd.C k56 w A3 l3.length l3) (hc3 : l3.length ≤ c3) (H : impl_Page_tagAt.f k s0 s1 s2 h b up at_ a1 a2 l3 a4 a5 op = some (r0, r1, r2)) :
  Calls Tryz.prog 67 #[.pointer (some ⟨g, 0, none⟩), .int .i64 up, .int .i64 at_, .agg #[.int .i64 a0, .int .i64 a1, .string a2, .slice A3 l3.length c3, .string a4, .int .i64 a5, .slice none 0 0], .bool op] w fun e w' => e = .returned (.int .i64 r0) ∧ PgS w0.heap.size w' (fun k => U k ∨ w.heap.size ≤ k) g r1 r2 s2 h b ∧ Below w0.heap.size w0 w' ∧ Kept w w' (fun k => U k ∨ k = g) := by
 unfold impl_Page_tagAt.f at H
 obtain ⟨⟨t, t3, t4⟩, ht, H⟩ := Option.bind_eq_some_iff.mp H
 dsimp only at H
 obtain ⟨v0, v1, v2, hg, hgb, hU, hO⟩ := hP
 obtain ⟨A0, c0, A1, c1, A2, c2, rfl, rfl, rfl, R0, R1, R2⟩ := hO.slices
 have HO := am (hO.bound.mono (U' := fun k => U k ∧ k < w.heap.size) (fun k hk => ⟨hk.1, hk.2.2⟩))
 have HU : Aside0 (∀ k, U k ∧ k < w.heap.size → k ≠ g) := ⟨fun k hk => hU k hk.1⟩
 have HUU := am hU
 have HGL := am (blk_lt hg)
 have BG := am hg
 have HGB := am hgb
 have HP : Aside0 (PgS w0.heap.size w (fun k => U k ∧ k < w.heap.size) g s0 s1 s2 h b) := ⟨⟨_, _, _, hg, hgb, HU.out, HO.out⟩⟩
 have HB := am hB
 have HX := am (Below.refl w.heap.size w)
 have HR3 := am hr3
 have HC3 := am hc3
 have AT := am ht
 clear hO hg hgb hU hB hr3 hc3 R0 R1 R2 ht
 have HEND : Aside0 (∀ k, U k ∨ w.heap.size ≤ k → k ≠ g) := ⟨fun k hk => hk.elim (fun q => HUU.out k q) (fun q => by have := HGL.out; omega)⟩
 cases t with
 | false =>
  rw [if_neg (by simp)] at H
  simp only [Option.some.injEq, Prod.mk.injEq] at H
  obtain ⟨rfl, rfl, rfl⟩ := H
  go_enter Tryz.func67, Tryz.ntmps67
  go_wp2_with (first | ((with_reducible refine gd_ 8 ?_); refine bx_ 8 (cs := #[.int .i64 a0, .int .i64 a1, .string a2, .slice A3 l3.length c3, .string a4, .int .i64 a5, .slice none 0 0]) 53 ?_; intro gb hg w1 hbox hb; have GE := am (show w.heap.size ≤ gb by rw [hg]; exact Nat.le_refl _); replace HX := am (below_step HX.out hb); have BK := am hbox; clear hb hbox hg; obtain ⟨hczz_0, hczz_1, hczz_2, hczz_3, hczz_4, hczz_5, hczz_6⟩ := cl7 BK; obtain ⟨hfzz_0, hfzz_1, hfzz_2, hfzz_3, hfzz_4, hfzz_5, hfzz_6⟩ := fz7 BK) | ((with_reducible refine gate_store (t := 3) (p := 12) rfl ?_); refine store_event (t := 3) (p := 12) (v := ?vo4) (w1 := (w1.setCell ⟨gb, 0, none⟩ (.int .i64 2))) ?hg ?ho ?hn ?hr ?_; (case ho => rfl); (case hg => rfl); (case hn => rfl); (case hr => first | (go_simp; done) | (go_simp; rfl)); intro w2 hw; replace HX : Aside0 (Below w.heap.size w w2) := ⟨by rw [hw]; exact below_set HX.out GE.out⟩; replace BK : Aside0 (w2.heap[gb]? = some (.cells #[.int .i64 2, .int .i64 a1, .string a2, .slice A3 l3.length c3, .string a4, .int .i64 a5, .slice none 0 0] 53 (0, 0))) := ⟨by rw [hw]; exact blk_put (cs := #[.int .i64 a0, .int .i64 a1, .string a2, .slice A3 l3.length c3, .string a4, .int .i64 a5, .slice none 0 0]) BK.out 0 _ rfl⟩; clear hw; obtain ⟨hczy_0, hczy_1, hczy_2, hczy_3, hczy_4, hczy_5, hczy_6⟩ := cl7 BK; obtain ⟨hfzy_0, hfzy_1, hfzy_2, hfzy_3, hfzy_4, hfzy_5, hfzy_6⟩ := fz7 BK) | (go_at_call 97; (refine (impl_Page_hasRoom.calls g s0 s1 s2 h b false t3 t4 _ _ (PgS.isS (HP.out.below HX.out)) (Below.refl _ _) AT.out).mono ?_); rintro e w3 ⟨rfl, hi_, hb, hk_⟩; clear hi_ hk_; replace HX := am (below_step HX.out hb); replace BK := am (blk_below BK.out hb); clear hb; obtain ⟨hczx_0, hczx_1, hczx_2, hczx_3, hczx_4, hczx_5, hczx_6⟩ := cl7 BK; obtain ⟨hfzx_0, hfzx_1, hfzx_2, hfzx_3, hfzx_4, hfzx_5, hfzx_6⟩ := fz7 BK))
  go_ret
  exact ⟨rfl, (HP.out.below HX.out).mono (fun k hk => Or.inl hk.1) HEND.out, below_step HB.out HX.out, Kept.of_below HX.out _⟩
 | true =>
  rw [if_pos rfl] at H
  obtain ⟨u, hu, H⟩ := Option.bind_eq_some_iff.mp H
  have AU := am hu
  clear hu
  cases u with
  | false =>
   rw [if_neg (by simp)] at H
   simp only [Option.some.injEq, Prod.mk.injEq] at H
   obtain ⟨rfl, rfl, rfl⟩ := H
   go_enter Tryz.func67, Tryz.ntmps67
   go_wp2_with (first | ((with_reducible refine gd_ 8 ?_); refine bx_ 8 (cs := #[.int .i64 a0, .int .i64 a1, .string a2, .slice A3 l3.length c3, .string a4, .int .i64 a5, .slice none 0 0]) 53 ?_; intro gb hg w1 hbox hb; have GE := am (show w.heap.size ≤ gb by rw [hg]; exact Nat.le_refl _); replace HX := am (below_step HX.out hb); have BK := am hbox; clear hb hbox hg; obtain ⟨hczz_0, hczz_1, hczz_2, hczz_3, hczz_4, hczz_5, hczz_6⟩ := cl7 BK; obtain ⟨hfzz_0, hfzz_1, hfzz_2, hfzz_3, hfzz_4, hfzz_5, hfzz_6⟩ := fz7 BK) | ((with_reducible refine gate_store (t := 3) (p := 12) rfl ?_); refine store_event (t := 3) (p := 12) (v := ?vo4) (w1 := (w1.setCell ⟨gb, 0, none⟩ (.int .i64 2))) ?hg ?ho ?hn ?hr ?_; (case ho => rfl); (case hg => rfl); (case hn => rfl); (case hr => first | (go_simp; done) | (go_simp; rfl)); intro w2 hw; replace HX : Aside0 (Below w.heap.size w w2) := ⟨by rw [hw]; exact below_set HX.out GE.out⟩; replace BK : Aside0 (w2.heap[gb]? = some (.cells #[.int .i64 2, .int .i64 a1, .string a2, .slice A3 l3.length c3, .string a4, .int .i64 a5, .slice none 0 0] 53 (0, 0))) := ⟨by rw [hw]; exact blk_put (cs := #[.int .i64 a0, .int .i64 a1, .string a2, .slice A3 l3.length c3, .string a4, .int .i64 a5, .slice none 0 0]) BK.out 0 _ rfl⟩; clear hw; obtain ⟨hczy_0, hczy_1, hczy_2, hczy_3, hczy_4, hczy_5, hczy_6⟩ := cl7 BK; obtain ⟨hfzy_0, hfzy_1, hfzy_2, hfzy_3, hfzy_4, hfzy_5, hfzy_6⟩ := fz7 BK) | (go_at_call 97; (refine (impl_Page_hasRoom.calls g s0 s1 s2 h b true t3 t4 _ _ (PgS.isS (HP.out.below HX.out)) (Below.refl _ _) AT.out).mono ?_); rintro e w3 ⟨rfl, hi_, hb, hk_⟩; clear hi_ hk_; replace HX := am (below_step HX.out hb); replace BK := am (blk_below BK.out hb); clear hb; obtain ⟨hczx_0, hczx_1, hczx_2, hczx_3, hczx_4, hczx_5, hczx_6⟩ := cl7 BK; obtain ⟨hfzx_0, hfzx_1, hfzx_2, hfzx_3, hfzx_4, hfzx_5, hfzx_6⟩ := fz7 BK) | (go_at_call 90; (refine (impl_itemOk.calls k 2 a1 a2 A3 c3 l3 a4 a5 none 0 [] false _ (Kd.C_below HR3.out HX.out) HC3.out (Kd.C_nil _ _) (Nat.le_refl 0) AU.out).mono ?_); rintro e w4 ⟨rfl, hb⟩; replace HX := am (below_step HX.out hb); replace BK := am (blk_below BK.out hb); clear hb; obtain ⟨hczu_0, hczu_1, hczu_2, hczu_3, hczu_4, hczu_5, hczu_6⟩ := cl7 BK; obtain ⟨hfzu_0, hfzu_1, hfzu_2, hfzu_3, hfzu_4, hfzu_5, hfzu_6⟩ := fz7 BK))
   go_ret
   exact ⟨rfl, (HP.out.below HX.out).mono (fun k hk => Or.inl hk.1) HEND.out, below_step HB.out HX.out, Kept.of_below HX.out _⟩
  | true =>
   rw [if_pos rfl] at H
   obtain ⟨⟨z1, z2⟩, hz, H⟩ := Option.bind_eq_some_iff.mp H
   dsimp only at H
   have AZ := am hz
   have AH := am H
   clear hz H
   go_enter Tryz.func67, Tryz.ntmps67
   go_wp2_with (first | ((with_reducible refine gd_ 8 ?_); refine bx_ 8 (cs := #[.int .i64 a0, .int .i64 a1, .string a2, .slice A3 l3.length c3, .string a4, .int .i64 a5, .slice none 0 0]) 53 ?_; intro gb hg w1 hbox hb; have GE := am (show w.heap.size ≤ gb by rw [hg]; exact Nat.le_refl _); replace HX := am (below_step HX.out hb); have BK := am hbox; clear hb hbox hg; obtain ⟨hczz_0, hczz_1, hczz_2, hczz_3, hczz_4, hczz_5, hczz_6⟩ := cl7 BK; obtain ⟨hfzz_0, hfzz_1, hfzz_2, hfzz_3, hfzz_4, hfzz_5, hfzz_6⟩ := fz7 BK) | ((with_reducible refine gate_store (t := 3) (p := 12) rfl ?_); refine store_event (t := 3) (p := 12) (v := ?vo4) (w1 := (w1.setCell ⟨gb, 0, none⟩ (.int .i64 2))) ?hg ?ho ?hn ?hr ?_; (case ho => rfl); (case hg => rfl); (case hn => rfl); (case hr => first | (go_simp; done) | (go_simp; rfl)); intro w2 hw; replace HX : Aside0 (Below w.heap.size w w2) := ⟨by rw [hw]; exact below_set HX.out GE.out⟩; replace BK : Aside0 (w2.heap[gb]? = some (.cells #[.int .i64 2, .int .i64 a1, .string a2, .slice A3 l3.length c3, .string a4, .int .i64 a5, .slice none 0 0] 53 (0, 0))) := ⟨by rw [hw]; exact blk_put (cs := #[.int .i64 a0, .int .i64 a1, .string a2, .slice A3 l3.length c3, .string a4, .int .i64 a5, .slice none 0 0]) BK.out 0 _ rfl⟩; clear hw; obtain ⟨hczy_0, hczy_1, hczy_2, hczy_3, hczy_4, hczy_5, hczy_6⟩ := cl7 BK; obtain ⟨hfzy_0, hfzy_1, hfzy_2, hfzy_3, hfzy_4, hfzy_5, hfzy_6⟩ := fz7 BK) | (go_at_call 97; (refine (impl_Page_hasRoom.calls g s0 s1 s2 h b true t3 t4 _ _ (PgS.isS (HP.out.below HX.out)) (Below.refl _ _) AT.out).mono ?_); rintro e w3 ⟨rfl, hi_, hb, hk_⟩; clear hi_ hk_; replace HX := am (below_step HX.out hb); replace BK := am (blk_below BK.out hb); clear hb; obtain ⟨hczx_0, hczx_1, hczx_2, hczx_3, hczx_4, hczx_5, hczx_6⟩ := cl7 BK; obtain ⟨hfzx_0, hfzx_1, hfzx_2, hfzx_3, hfzx_4, hfzx_5, hfzx_6⟩ := fz7 BK) | (go_at_call 90; (refine (impl_itemOk.calls k 2 a1 a2 A3 c3 l3 a4 a5 none 0 [] true _ (Kd.C_below HR3.out HX.out) HC3.out (Kd.C_nil _ _) (Nat.le_refl 0) AU.out).mono ?_); rintro e w4 ⟨rfl, hb⟩; replace HX := am (below_step HX.out hb); replace BK := am (blk_below BK.out hb); clear hb; obtain ⟨hczu_0, hczu_1, hczu_2, hczu_3, hczu_4, hczu_5, hczu_6⟩ := cl7 BK; obtain ⟨hfzu_0, hfzu_1, hfzu_2, hfzu_3, hfzu_4, hfzu_5, hfzu_6⟩ := fz7 BK))
   have HXd := am (below_drew1 HX.out)
   have BKd := am (blk_drew BK.out)
   refine start_ (n := 16) (S := fun w' => w'.cell? ⟨gb, 0, none⟩ = some (.int .i64 2) ∧ w'.cell? ⟨gb, 1, none⟩ = some (.int .i64 a1) ∧ w'.cell? ⟨gb, 2, none⟩ = some (.string a2) ∧ w'.cell? ⟨gb, 3, none⟩ = some (.slice A3 l3.length c3) ∧ w'.cell? ⟨gb, 4, none⟩ = some (.string a4) ∧ w'.cell? ⟨gb, 5, none⟩ = some (.int .i64 a5) ∧ w'.cell? ⟨gb, 6, none⟩ = some (.slice none 0 0) ∧ w'.cell? ⟨g, 0, none⟩ = some (.slice A0 s0.length c0)) (ds := [14]) #[false, false, false, false, false, false, false, false, false, false, false, false, false, false, false, false] (by kernel_rfl) rfl rfl ⟨(blk_cell BK.out 0).trans rfl, (blk_cell BK.out 1).trans rfl, (blk_cell BK.out 2).trans rfl, (blk_cell BK.out 3).trans rfl, (blk_cell BK.out 4).trans rfl, (blk_cell BK.out 5).trans rfl, (blk_cell BK.out 6).trans rfl, (blk_cell (blk_below BG.out HX.out) 0).trans rfl⟩ (fun hHeld => ?_)
   clear HX BK hczu_0 hczu_1 hczu_2 hczu_3 hczu_4 hczu_5 hczu_6 hfzu_0 hfzu_1 hfzu_2 hfzu_3 hfzu_4 hfzu_5 hfzu_6
   have HX := HXd
   have BK := BKd
   clear HXd BKd
   generalize World.drew _ = w5 at HX BK hHeld ⊢
   refine pk_ 0 22 ?_
   refine pk_ 1 23 ?_
   refine pk_ 2 24 ?_
   refine pk_ 3 25 ?_
   refine pk_ 5 27 ?_
   refine pk_ 6 28 ?_
   refine tk3_ 4 26 hHeld ?_
   refine tk3_ 7 29 hHeld ?_
   refine one_ (i := 8) (N := some 30) #[true, true, true, true, true, true, true, true, true, false, false, false, false, false, false, false] rfl rfl (by kernel_rfl) (by decide) (fun K hK => ?_)
   obtain ⟨P0, hP0, hs0, hback⟩ := OwnP.items (HO.out.below HX.out)
   have HP0 := am hP0
   have HBK := am hback
   clear hP0 hback
   refine goes_ Tryz.func98 (by kernel_rfl) rfl #[.slice A0 s0.length c0, .int .i64 up, .int .i64 at_, .agg #[.int .i64 2, .int .i64 a1, .string a2, .slice A3 l3.length c3, .string a4, .int .i64 a5, .slice none 0 0]] (by rfl) rfl rfl ab5 ?_
   refine (impl_hang.calls P0 _ s0 up at_ 2 a1 a2 A3 c3 l3 a4 a5 none 0 0 z1 z2 w0 _ (below_step HB.out HX.out) hs0 (Kd.C_below HR3.out HX.out) HC3.out AZ.out).mono ?_
   rintro e w7 ⟨v7, rfl, hs7, hb7, hk7⟩
   refine ⟨_, rfl, ?_⟩
   clear hHeld hs0
   obtain ⟨Av, cv, rfl⟩ := Kd.S_slice hs7
   replace BK := am (blk_kept BK.out hk7 (fun q => by have := GE.out; have := (HP0.out _ q).2; omega))
   have BG7 := am (blk_kept (blk_below BG.out HX.out) hk7 (fun q => HU.out _ (HP0.out _ q) rfl))
   have HO7 := am (HBK.out _ _ _ hs7 hk7)
   have HK7 := am (Kept.then_ (Kept.of_below HX.out (fun k => U k ∨ k = g)) hk7 (fun k q => Or.inl (Or.inl (HP0.out k q).1)))
   have HB7 := am hb7
   have HX6 := am (below_size HX.out)
   have hcg := (blk_cell BG7.out 0).trans rfl
   have hfg := blk_frozen BG7.out 0
   clear hs7 hb7 hk7 HBK HX
   refine hK.out _ _ ⟨(blk_cell BK.out 0).trans rfl, (blk_cell BK.out 1).trans rfl, (blk_cell BK.out 2).trans rfl, (blk_cell BK.out 3).trans rfl, (blk_cell BK.out 4).trans rfl, (blk_cell BK.out 5).trans rfl, (blk_cell BK.out 6).trans rfl, hcg⟩ (fun hHeld => ?_)
   clear hK K
   refine nk_ 30 ?_
   refine pk_ 9 21 ?_
   refine pk_ 10 31 ?_
   refine pk_ 11 32 ?_
   refine pk_ 12 33 ?_
   refine pk_ 13 34 ?_
   refine last_ (i := 14) (N := none) #[true, true, true, true, true, true, true, true, true, true, true, true, true, true, true, false] rfl rfl (by kernel_rfl) (by decide) (fun K hK => ?_)
   refine skip_ (w1 := w7.setCell ⟨g, 0, none⟩ (.slice Av z1.length cv)) (by rfl) rfl ?_ ?_
   ·first | (go_simp; done) | (go_simp; rfl)
   refine hK.out _ _ ?_
   clear hK K hHeld hcg hfg
   have BG8 := am (blk_put BG7.out 0 (.slice Av z1.length cv) rfl)
   have HO8 : Aside0 (OwnP (w7.setCell ⟨g, 0, none⟩ (.slice Av z1.length cv)) w0.heap.size (fun k => U k ∨ w.heap.size ≤ k) (.slice Av z1.length cv) (.slice A1 s1.length c1) (.slice A2 s2.length c2) z1 s1 s2) := ⟨OwnP.far (HO7.out.mono (fun k q => q.elim (fun q => Or.inl q.1) (fun q => Or.inr (Nat.le_trans HX6.out q)))) (p := ⟨g, 0, none⟩) (fun k q => HEND.out k q) _⟩
   have HB8 := am (below_set (g := g) (j := 0) (v := .slice Av z1.length cv) HB7.out HGB.out)
   have HK8 := am (Kept.setCell (p := ⟨g, 0, none⟩) HK7.out (Or.inl (Or.inr rfl)) (.slice Av z1.length cv))
   clear BG7 HO7 HB7 HK7 BK
   generalize w7.setCell ⟨g, 0, none⟩ (.slice Av z1.length cv) = w8 at BG8 HO8 HB8 HK8 ⊢
   refine pk_ 15 11 ?_
   refine done_ (by kernel_rfl) ?_
   obtain ⟨hcg_0, hcg_1, hcg_2, hcg_3, hcg_4⟩ := cl5 BG8
   obtain ⟨hfg_0, hfg_1, hfg_2, hfg_3, hfg_4⟩ := fz5 BG8
   have H := AH.out
   clear AH
   have HKW := HK8
   cases op with
   | false =>
    rw [if_neg (by simp)] at H
    simp only [Option.some.injEq, Prod.mk.injEq] at H
    obtain ⟨rfl, rfl, rfl⟩ := H
    go_wp2
    go_ret
    exact ⟨rfl, ⟨_, _, _, BG8.out, HGB.out, HEND.out, HO8.out⟩, HB8.out, HK8.out⟩
   | true =>
    by_cases c : (s1.length : Int) < 40
    case neg =>
     have cb := decide_eq_false c
     rw [if_neg (by simpa using c)] at H
     simp only [Option.some.injEq, Prod.mk.injEq] at H
     obtain ⟨rfl, rfl, rfl⟩ := H
     go_wp2
     go_ret
     exact ⟨rfl, ⟨_, _, _, BG8.out, HGB.out, HEND.out, HO8.out⟩, HB8.out, HK8.out⟩
    case pos =>
     have cb := decide_eq_true c
     have CL := am c
     rw [if_pos ⟨rfl, c⟩] at H
     simp only [Option.some.injEq, Prod.mk.injEq] at H
     obtain ⟨rfl, rfl, rfl⟩ := H
     obtain ⟨y, hy⟩ : ∃ y : List Int, y = s1 ++ [z2] := ⟨_, rfl⟩
     have HY := am hy
     clear hy
     obtain ⟨P1, hP1, hs1, hback1⟩ := OwnP.open_ HO8.out
     have HP1 := am hP1
     have HBK1 := am hback1
     have HR1 := am hs1
     clear hP1 hback1 hs1
     go_wp2_with (first | ((with_reducible refine gate_builtin (b := .append) (xs := #[.tmp 48, .tmp 50]) rfl ?_); at_builtin; refine Kd.R_append (Kd.int .i64) (w0 := w0) w0.heap.size rfl (.tmp 48) (.tmp 50) 23 3 (.int .i64 0) 8 rfl Tryz.underlying23 info3 rfl (by decide) (by omega) (.slice A1 s1.length c1) s1 z2 [.int .i64 z2] (fun k => P1 k ∨ w8.heap.size ≤ k) (fun _ => False) rfl rfl ?aP (fun _ hk => hk.elim) ?aF ?aO ?aB ?aS ?aL ?_; (case aP => exact rfl); (case aB => exact HB8.out); (case aF => exact fun k hk => Or.inr hk); (case aO => exact Kd.R_mono HR1.out (fun k hk => Or.inl hk)); (case aS => exact below_size HB8.out); (case aL => have := CL.out; omega); intro v9 w9 ho hb hg hat; rw [← HY.out] at ho; obtain ⟨Ao, co, eo⟩ := Kd.R_slice ho; subst eo; have HK9 := am (Kept.of_grown (S := P1) hg (Kept.refl w8 P1) (fun k e_ => Or.inl (HR1.out.1 k e_))); have HO9 := am (HBK1.out _ _ _ ho HK9.out); have BG9 := am (blk_kept BG8.out HK9.out (fun q => HEND.out _ (HP1.out _ q) rfl)); have HB9 := am hb; clear ho hb hg hat hcg_0 hcg_1 hcg_2 hcg_3 hcg_4 hfg_0 hfg_1 hfg_2 hfg_3 hfg_4; obtain ⟨hcg_0, hcg_1, hcg_2, hcg_3, hcg_4⟩ := cl5 BG9; obtain ⟨hfg_0, hfg_1, hfg_2, hfg_3, hfg_4⟩ := fz5 BG9) | ((with_reducible refine gate_store (t := 23) (p := 53) rfl ?_); refine store_event (t := 23) (p := 53) (v := ?vo9) (w1 := (w9.setCell ⟨g, 1, none⟩ (.slice Ao y.length co))) ?hg ?ho ?hn ?hr ?_; (case ho => rfl); (case hg => rfl); (case hn => rfl); (case hr => first | (go_simp; done) | (go_simp; rfl)); intro w10 hw))
     go_ret
     rw [← HY.out]
     subst hw
     refine ⟨rfl, ⟨_, _, _, blk_put BG9.out 1 _ rfl, HGB.out, HEND.out, OwnP.far (HO9.out.mono (fun k q => q.elim id (fun q => Or.inr ?_))) (p := ⟨g, 1, none⟩) (fun k q => HEND.out k q) _⟩, below_set HB9.out HGB.out, ?_⟩
     ·exact Nat.le_trans HKW.out.1 q
     ·exact Kept.setCell (Kept.then_ HK8.out HK9.out (fun k q => by rcases HP1.out k q with q | q <;> simp [q])) (by simp) _
def impl_Page_putTag.f (k : Nat) (s0 : List S53) (s1 s2 : List Int) (h b : Int) (a2 : ByteArray) (l3 : List S56) (a1 : Int) (op : Bool) : Option (Int × List S53 × List Int) :=
 (impl_Page_place.f k s0 s1 s2 h b).bind fun p => impl_Page_tagAt.f k s0 s1 s2 h b p.1 p.2.1 a1 a2 l3 (⟨#[]⟩ : ByteArray) 0 op
theorem impl_Page_putTag.calls (k : Nat) (U : Nat → Prop) (g : Nat) (s0 : List S53) (s1 s2 : List Int) (h b : Int) (a2 : ByteArray) (A3 : Option Addr) (c3 : Nat) (l3 : List S56) (a1 : Int) (op : Bool) (r0 : Int) (r1 : List S53) (r2 : List Int) (w0 w : World) (hP : PgS w0.heap.size w U g s0 s1 s2 h b) (hB : Below w0.heap.size w0 w) (hr3 : Kd.C k56 w A3 l3.length l3) (hc3 : l3.length ≤ c3) (M_ : Int) (hm_ : w.cell? ⟨0, 0, none⟩ = some (.int .i64 M_)) (H : impl_Page_putTag.f k s0 s1 s2 h b a2 l3 a1 op = some (r0, r1, r2)) :
  Calls Tryz.prog 34 #[.pointer (some ⟨g, 0, none⟩), .string a2, .slice A3 l3.length c3, .int .i64 a1, .bool op] w fun e w' => e = .returned (.int .i64 r0) ∧ PgS w0.heap.size w' (fun k => U k ∨ w.heap.size ≤ k) g r1 r2 s2 h b ∧ Below w0.heap.size w0 w' ∧ Kept w w' (fun k => U k ∨ k = g) := by
 unfold impl_Page_putTag.f at H
 obtain ⟨⟨p1, p2, p3, p4⟩, hp, H⟩ := Option.bind_eq_some_iff.mp H
 dsimp only at H
 have HEND : Aside0 (∀ k, U k ∨ w.heap.size ≤ k → k ≠ g) := ⟨fun k hk => by
  have hl := hP.lt
  obtain ⟨_, _, _, _, _, hU, _⟩ := hP
  exact hk.elim (fun q => hU k q) (fun q => by omega)⟩
 have HP := am hP
 have HB := am hB
 have HX := am (Below.refl w.heap.size w)
 have HR3 := am hr3
 have HC3 := am hc3
 have HM := am hm_
 have AP := am hp
 have AT := am H
 clear hP hB hr3 hc3 hm_ hp H
 go_enter Tryz.func34, Tryz.ntmps34
 go_wp2_with (first | (go_at_call 66; (refine (impl_Page_place.calls k g s0 s1 s2 h b p1 p2 p3 p4 _ _ (PgS.isS (HP.out.below HX.out)) (Below.refl _ _) M_ (pw_cell_below HX.out HM.out) AP.out).mono ?_); rintro e w1 ⟨rfl, hi_, hb, hk_⟩; clear hi_ hk_; replace HX := am (below_step HX.out hb); clear hb) | (go_at_call 67; (refine (impl_Page_tagAt.calls k U g s0 s1 s2 h b p1 p2 0 a1 a2 A3 c3 l3 (⟨#[]⟩ : ByteArray) 0 op r0 r1 r2 w0 _ (HP.out.below HX.out) (below_step HB.out HX.out) (Kd.C_below HR3.out HX.out) HC3.out AT.out).mono ?_); rintro e w2 ⟨rfl, hps, hb2, hk2⟩; have HPS := am hps; have HB2 := am hb2; have HK2 := am hk2; clear hps hb2 hk2))
 go_ret
 exact ⟨rfl, HPS.out.mono (fun k q => q.elim Or.inl (fun q => Or.inr (Nat.le_trans (below_size HX.out) q))) HEND.out, HB2.out, Kept.then_ (Kept.of_below HX.out _) HK2.out (fun k q => Or.inl q)⟩
def impl_PutTag.f (k : Nat) (s0 : List S53) (s1 s2 : List Int) (h b : Int) (a2 : ByteArray) (l3 : List S56) (a1 : Int) (op : Bool) : Option (List S53 × List Int × List Int × Int × Int) :=
 (impl_copyPage.f s0 s1 s2 h b).bind fun z => (impl_PageOk.f k s0 s1 s2 h b).bind fun t => if t = true then (impl_Page_putTag.f k z.1 z.2.1 z.2.2.1 z.2.2.2.1 z.2.2.2.2 a2 l3 a1 op).bind fun q => some (q.2.1, q.2.2, z.2.2.1, z.2.2.2.1, z.2.2.2.2) else some z
theorem impl_PutTag.calls (k : Nat) (A0 : Option Addr) (c0 : Nat) (s0 : List S53) (A1 : Option Addr) (c1 : Nat) (s1 : List Int) (A2 : Option Addr) (c2 : Nat) (s2 : List Int) (h b : Int) (a2 : ByteArray) (A3 : Option Addr) (c3 : Nat) (l3 : List S56) (a1 : Int) (op : Bool) (r1 : List S53) (r2 r3 : List Int) (r4 r5 : Int) (w : World) (hp0 : Kd.C k53 w A0 s0.length s0) (hd0 : s0.length ≤ c0) (hp1 : Kd.C (Kd.int .i64) w A1 s1.length s1) (hd1 : s1.length ≤ c1) (hp2 : Kd.C (Kd.int .i64) w A2 s2.length s2) (hd2 : s2.length ≤ c2) (hr3 : Kd.C k56 w A3 l3.length l3) (hc3 : l3.length ≤ c3) (M_ : Int) (hm_ : w.cell? ⟨0, 0, none⟩ = some (.int .i64 M_)) (H : impl_PutTag.f k s0 s1 s2 h b a2 l3 a1 op = some (r1, r2, r3, r4, r5)) :
  Calls Tryz.prog 11 #[.agg #[.slice A0 s0.length c0, .slice A1 s1.length c1, .slice A2 s2.length c2, .int .i64 h, .int .i64 b], .string a2, .slice A3 l3.length c3, .int .i64 a1, .bool op] w fun e w' => ∃ v0_ v1_ v2_ : Value, e = .returned (.agg #[v0_, v1_, v2_, .int .i64 r4, .int .i64 r5]) ∧ Kd.S k53 53 w' w.heap.size (fun k_ => some k_ ≠ (v1_ : Value).ownBlock ∧ some k_ ≠ (v2_ : Value).ownBlock) v0_ r1 ∧ Kd.R (Kd.int .i64) 3 w' w.heap.size (fun k_ => some k_ ≠ (v2_ : Value).ownBlock) v1_ r2 ∧ Kd.R (Kd.int .i64) 3 w' w.heap.size (fun k_ => some k_ ≠ (v1_ : Value).ownBlock) v2_ r3 ∧ Below w.heap.size w w' := by
 unfold impl_PutTag.f at H
 obtain ⟨⟨z0, z1, z2, z3, z4⟩, hz, H⟩ := Option.bind_eq_some_iff.mp H
 obtain ⟨t, ht, H⟩ := Option.bind_eq_some_iff.mp H
 dsimp only at H
 have hu31 := Tryz.underlying31
 have Hhp0 := am hp0
 have Hhd0 := am hd0
 have Hhp1 := am hp1
 have Hhd1 := am hd1
 have Hhp2 := am hp2
 have Hhd2 := am hd2
 have Hhr3 := am hr3
 have Hhc3 := am hc3
 have Hhm_ := am hm_
 have HX := am (Below.refl w.heap.size w)
 have AZ := am hz
 have AT := am ht
 clear hz ht hp0 hd0 hp1 hd1 hp2 hd2 hm_ hr3 hc3
 cases t
 simp only [Bool.false_eq_true, if_false, Option.some.injEq, Prod.mk.injEq] at H
 obtain ⟨rfl, rfl, rfl, rfl, rfl⟩ := H
 rotate_left
 simp only [if_true] at H
 obtain ⟨⟨q0, q1, q2⟩, hq, H⟩ := Option.bind_eq_some_iff.mp H
 simp only [Option.some.injEq, Prod.mk.injEq] at H
 obtain ⟨rfl, rfl, rfl, rfl, rfl⟩ := H
 have AQ := am hq
 clear hq
 rotate_left
 all_goals
  go_enter Tryz.func11, Tryz.ntmps11
  go_wp2_with (first | ((with_reducible refine gd_ 5 ?_); refine bx_ 5 (cs := #[.slice A0 s0.length c0, .slice A1 s1.length c1, .slice A2 s2.length c2, .int .i64 h, .int .i64 b]) 31 ?_; intro gbp hg wp hbox hb; have GEp := gE HX hg; replace HX := xb HX hb; have BKp := am hbox; clear hb hbox hg) | ((with_reducible refine gd_ 10 ?_); refine bx_ 10 (cs := #[.slice none 0 0, .slice none 0 0, .slice none 0 0, .int .i64 0, .int .i64 0]) 31 ?_; intro gbr hg wr hbox hb; have GEr := gE HX hg; have NEp_r := nE BKp hg; replace BKp := bb BKp hb; replace HX := xb HX hb; have BKr := am hbox; clear hb hbox hg; obtain ⟨hca_p0, hca_p1, hca_p2, hca_p3, hca_p4⟩ := cl5 BKp) | (go_at_call 32; (refine (impl_copyPage.calls A0 c0 s0 A1 c1 s1 A2 c2 s2 h b z0 z1 z2 z3 z4 _ (Kd.C_below Hhp0.out HX.out) Hhd0.out (Kd.C_below Hhp1.out HX.out) Hhd1.out (Kd.C_below Hhp2.out HX.out) Hhd2.out AZ.out).mono ?_); rintro e wc ⟨v0, v1, v2, rfl, ho0, ho1, ho2, hb⟩; have HO := am ((OwnP.of_copy ho0 ho1 ho2).lower (below_size HX.out)); have LTp := am (blk_lt BKp.out); have LTr := am (blk_lt BKr.out); replace BKp := bb BKp hb; replace BKr := bb BKr hb; replace HX := xb HX hb; obtain ⟨Z0, d0, Z1, d1, Z2, d2, rfl, rfl, rfl, _, _, _⟩ := HO.out.slices; clear ho0 ho1 ho2 hb) | ((with_reducible refine gd_ 11 ?_); refine bx_ 11 (cs := #[.slice none 0 0, .slice none 0 0, .slice none 0 0, .int .i64 0, .int .i64 0]) 31 ?_; intro gbo hg wo hbox hb; have GEo := gE HX hg; have GO := am (show wc.heap.size ≤ gbo by rw [hg]; exact Nat.le_refl _); replace HO := ob HO hb; have NEp_o := nE BKp hg; have NEr_o := nE BKr hg; replace BKp := bb BKp hb; replace BKr := bb BKr hb; replace HX := xb HX hb; have BKo := am hbox; clear hb hbox hg; obtain ⟨hco_o0, hco_o1, hco_o2, hco_o3, hco_o4⟩ := cl5 BKo; obtain ⟨hfo_o0, hfo_o1, hfo_o2, hfo_o3, hfo_o4⟩ := fz5 BKo) | ((with_reducible refine gate_store (t := 31) (p := 11) rfl ?_); refine store_event (t := 31) (p := 11) (v := ?vos) (w1 := (st5 wo gbo (.slice Z0 z0.length d0) (.slice Z1 z1.length d1) (.slice Z2 z2.length d2) (.int .i64 z3) (.int .i64 z4))) ?hg ?ho ?hn ?hr ?_; (case ho => rfl); (case hg => rfl); (case hn => rfl); (case hr => first | (go_simp; done) | (go_simp; rfl)); intro ws hw; replace BKp := kS5 hw BKp NEp_o.out; replace BKr := kS5 hw BKr NEr_o.out; replace BKo := sS5 hw BKo; replace HX := bS5 hw HX GEo.out; replace HO := pS5 hw HO (fun k hk e_ => by have := GO.out; have := hk.2; omega); clear hw hco_o0 hco_o1 hco_o2 hco_o3 hco_o4 hfo_o0 hfo_o1 hfo_o2 hfo_o3 hfo_o4 hca_p0 hca_p1 hca_p2 hca_p3 hca_p4; obtain ⟨hcb_p0, hcb_p1, hcb_p2, hcb_p3, hcb_p4⟩ := cl5 BKp) | (go_at_call 33; (refine (impl_PageOk.calls k A0 c0 s0 A1 c1 s1 A2 c2 s2 h b false _ (Kd.C_below Hhp0.out HX.out) Hhd0.out (Kd.C_below Hhp1.out HX.out) Hhd1.out (Kd.C_below Hhp2.out HX.out) Hhd2.out M_ (pw_cell_below HX.out Hhm_.out) AT.out).mono ?_); rintro e wk ⟨rfl, hb⟩; replace BKp := bb BKp hb; replace BKr := bb BKr hb; replace BKo := bb BKo hb; replace HX := xb HX hb; replace HO := am (HO.out.below hb); clear hb hcb_p0 hcb_p1 hcb_p2 hcb_p3 hcb_p4; obtain ⟨hcd_o0, hcd_o1, hcd_o2, hcd_o3, hcd_o4⟩ := cl5 BKo; obtain ⟨hcd_r0, hcd_r1, hcd_r2, hcd_r3, hcd_r4⟩ := cl5 BKr; obtain ⟨hfd_r0, hfd_r1, hfd_r2, hfd_r3, hfd_r4⟩ := fz5 BKr; have HNR : Aside0 (∀ k, (fun k => wr.heap.size ≤ k ∧ k < wc.heap.size) k → k ≠ gbr) := ⟨fun k hk e_ => by have h1_ := LTr.out; have h2_ : wr.heap.size ≤ k := hk.1; omega⟩) | ((with_reducible refine gate_store (t := 31) (p := 10) rfl ?_); refine store_event (t := 31) (p := 10) (v := ?vor) (w1 := (st5 wk gbr (.slice Z0 z0.length d0) (.slice Z1 z1.length d1) (.slice Z2 z2.length d2) (.int .i64 z3) (.int .i64 z4))) ?hg ?ho ?hn ?hr ?_; (case ho => rfl); (case hg => rfl); (case hn => rfl); (case hr => first | (go_simp; done) | (go_simp; rfl)); intro wf hw; replace BKr := sS5 hw BKr; replace HX := bS5 hw HX GEr.out; have HF := pS5 hw HO (fun k hk e_ => HNR.out k hk e_); clear hw) | (go_at_call 33; (refine (impl_PageOk.calls k A0 c0 s0 A1 c1 s1 A2 c2 s2 h b true _ (Kd.C_below Hhp0.out HX.out) Hhd0.out (Kd.C_below Hhp1.out HX.out) Hhd1.out (Kd.C_below Hhp2.out HX.out) Hhd2.out M_ (pw_cell_below HX.out Hhm_.out) AT.out).mono ?_); rintro e wk ⟨rfl, hb⟩; replace BKp := bb BKp hb; replace BKr := bb BKr hb; replace BKo := bb BKo hb; replace HX := xb HX hb; replace HO := am (HO.out.below hb); clear hb hcb_p0 hcb_p1 hcb_p2 hcb_p3 hcb_p4; have HPS : Aside0 (PgS w.heap.size wk (fun k => wr.heap.size ≤ k ∧ k < wc.heap.size) gbo z0 z1 z2 z3 z4) := ⟨⟨_, _, _, BKo.out, GEo.out, fun k hk e_ => by have := GO.out; have := hk.2; omega, HO.out⟩⟩; have LWK := am (show gbr < wk.heap.size from blk_lt BKr.out)) | (go_at_call 34; (refine (impl_Page_putTag.calls k _ gbo z0 z1 z2 z3 z4 a2 A3 c3 l3 a1 op q0 q1 q2 w _ HPS.out HX.out (Kd.C_below Hhr3.out HX.out) Hhc3.out M_ (pw_cell_below HX.out Hhm_.out) AQ.out).mono ?_); rintro e wm ⟨rfl, hps, hb, hk⟩; replace BKr := am (blk_kept BKr.out hk (fun hk_ => hk_.elim (fun q_ => by have := LTr.out; have : wr.heap.size ≤ gbr := q_.1; omega) NEr_o.out)); have LK := am (below_size HX.out); have L3 := am (blk_lt BKr.out); have LRK := am hb.size; replace HX := am hb; obtain ⟨y0, y1, y2, hgo, _, _, hho⟩ := hps; replace HO := am hho; replace BKo := am hgo; obtain ⟨Y0, e0, Y1, e1, Y2, e2, rfl, rfl, rfl, _, _, _⟩ := HO.out.slices; clear hgo hho hb hk; have HNR : Aside0 (∀ k, (fun k => (wr.heap.size ≤ k ∧ k < wc.heap.size) ∨ wk.heap.size ≤ k) k → k ≠ gbr) := ⟨fun k hk e_ => by have h1_ := LTr.out; have h2_ := LWK.out; rcases hk with hk | hk; (have := hk.1; omega); omega⟩; obtain ⟨hce_o0, hce_o1, hce_o2, hce_o3, hce_o4⟩ := cl5 BKo; obtain ⟨hce_r0, hce_r1, hce_r2, hce_r3, hce_r4⟩ := cl5 BKr; obtain ⟨hfe_r0, hfe_r1, hfe_r2, hfe_r3, hfe_r4⟩ := fz5 BKr) | ((with_reducible refine gate_store (t := 31) (p := 10) rfl ?_); refine store_event (t := 31) (p := 10) (v := ?vor) (w1 := (st5 wm gbr (.slice Y0 q1.length e0) (.slice Y1 q2.length e1) (.slice Y2 z2.length e2) (.int .i64 z3) (.int .i64 z4))) ?hg ?ho ?hn ?hr ?_; (case ho => rfl); (case hg => rfl); (case hn => rfl); (case hr => first | (go_simp; done) | (go_simp; rfl)); intro wf hw; replace BKr := sS5 hw BKr; replace HX := bS5 hw HX GEr.out; have HF := pS5 hw HO (fun k hk e_ => HNR.out k hk e_); clear hw))
  first | (refine bodyPost_ret (results_cell_row rfl _ _ gbr 31 #[.slice Z0 z0.length d0, .slice Z1 z1.length d1, .slice Z2 z2.length d2, .int .i64 z3, .int .i64 z4] (0, 0) _ rfl BKr.out Tryz.underlying31 rfl (by kernel_rfl)) rfl ?_) | (refine bodyPost_ret (results_cell_row rfl _ _ gbr 31 #[.slice Y0 q1.length e0, .slice Y1 q2.length e1, .slice Y2 z2.length e2, .int .i64 z3, .int .i64 z4] (0, 0) _ rfl BKr.out Tryz.underlying31 rfl (by kernel_rfl)) rfl ?_)
  exact ⟨_, _, _, rfl, HF.out.to_copy.1, HF.out.to_copy.2.1, HF.out.to_copy.2.2, HX.out⟩
def spec_l9Room.f (l0_0 : List (S53)) (l0_1 : List Int) (l0_2 : List Int) (a0_3 : Int) (a0_4 : Int) : Option (Bool) := some (decide ((l0_0.length : Int) < 3000))
theorem spec_l9Room.calls (A0_0 : Option Addr) (c0_0 : Nat) (l0_0 : List (S53)) (A0_1 : Option Addr) (c0_1 : Nat) (l0_1 : List Int) (A0_2 : Option Addr) (c0_2 : Nat) (l0_2 : List Int) (a0_3 : Int) (a0_4 : Int) (r : Bool) (w : World) (hr0_0 : Kd.C k53 w A0_0 l0_0.length l0_0) (hc0_0 : l0_0.length ≤ c0_0) (hr0_1 : Kd.C (Kd.int .i64) w A0_1 l0_1.length l0_1) (hc0_1 : l0_1.length ≤ c0_1) (hr0_2 : Kd.C (Kd.int .i64) w A0_2 l0_2.length l0_2) (hc0_2 : l0_2.length ≤ c0_2) (h : spec_l9Room.f l0_0 l0_1 l0_2 a0_3 a0_4 = some r) :
  Calls Tryz.prog 25 #[.agg #[.slice A0_0 l0_0.length c0_0, .slice A0_1 l0_1.length c0_1, .slice A0_2 l0_2.length c0_2, .int .i64 a0_3, .int .i64 a0_4]] w fun e w' => e = .returned (.bool r) ∧ Below w.heap.size w w' := by
 have hu31 := Tryz.underlying31
 have HR0_0 := am hr0_0
 have HC0_0 := am hc0_0
 clear hr0_0 hc0_0
 have HR0_1 := am hr0_1
 have HC0_1 := am hc0_1
 clear hr0_1 hc0_1
 have HR0_2 := am hr0_2
 have HC0_2 := am hc0_2
 clear hr0_2 hc0_2
 have HB := am (Below.refl w.heap.size w)
 have H : (some (decide ((l0_0.length : Int) < 3000))) = some r := h
 clear h
 obtain rfl := Option.some.inj H
 go_enter Tryz.func25, Tryz.ntmps25
 go_wp2_with (first | ((with_reducible refine gd_ 1 ?_); refine bx_ 1 (cs := #[.slice A0_0 l0_0.length c0_0, .slice A0_1 l0_1.length c0_1, .slice A0_2 l0_2.length c0_2, .int .i64 a0_3, .int .i64 a0_4]) 31 ?_; intro gb180 hg w2 hbox hb; have BK180 := am hbox; have GW180 := ge_ (w := w) hg; have GE180 := ge_ (w := w) hg; replace HB := am (below_step ab1 hb); clear hb hbox hg; obtain ⟨⟨_, _, _, _, _⟩, _, _, _, _, _⟩ := Op.cells5 BK180.out))
 go_ret
 exact ⟨ab7, ab2 GE180⟩
def spec_l6Item.f (a0_0 : Int) (a0_1 : Int) (a0_2 : ByteArray) (l0_3 : List (S56)) (a0_4 : ByteArray) (a0_5 : Int) (l0_6 : List Int) : Option (Int × Int × ByteArray × (List (S56)) × ByteArray × Int × List Int) := (some (([] : List (S56)) : List (S56))).bind fun y183 => (if y183.length + l0_3.length < 4398046511104 then ((some (([] : List Int) : List Int)).bind fun y189 => (if y189.length + l0_6.length < 17592186044416 then (some (a0_0, a0_1, a0_2, (y183 ++ l0_3), a0_4, a0_5, (y189 ++ l0_6))) else (none))) else (none))
theorem spec_l6Item.calls (a0_0 : Int) (a0_1 : Int) (a0_2 : ByteArray) (A0_3 : Option Addr) (c0_3 : Nat) (l0_3 : List (S56)) (a0_4 : ByteArray) (a0_5 : Int) (A0_6 : Option Addr) (c0_6 : Nat) (l0_6 : List Int) (r1 : Int) (r2 : Int) (r3 : ByteArray) (r4 : List (S56)) (r5 : ByteArray) (r6 : Int) (r7 : List Int) (w : World) (hr0_3 : Kd.C k56 w A0_3 l0_3.length l0_3) (hc0_3 : l0_3.length ≤ c0_3) (hr0_6 : Kd.C (Kd.int .i64) w A0_6 l0_6.length l0_6) (hc0_6 : l0_6.length ≤ c0_6) (h : spec_l6Item.f a0_0 a0_1 a0_2 l0_3 a0_4 a0_5 l0_6 = some (r1, r2, r3, r4, r5, r6, r7)) :
  Calls Tryz.prog 82 #[.agg #[.int .i64 a0_0, .int .i64 a0_1, .string a0_2, .slice A0_3 l0_3.length c0_3, .string a0_4, .int .i64 a0_5, .slice A0_6 l0_6.length c0_6]] w fun e w' => ∃ v3_ v6_ : Value, e = .returned (.agg #[.int .i64 r1, .int .i64 r2, .string r3, v3_, .string r5, .int .i64 r6, v6_]) ∧ Kd.R k56 56 w' w.heap.size (fun _ => True) v3_ r4 ∧ Kd.R (Kd.int .i64) 3 w' w.heap.size (fun _ => True) v6_ r7 ∧ Below w.heap.size w w' := by
 have hu53 := Tryz.underlying53
 have HR0_3 := am hr0_3
 have HC0_3 := am hc0_3
 clear hr0_3 hc0_3
 have HR0_6 := am hr0_6
 have HC0_6 := am hc0_6
 clear hr0_6 hc0_6
 have HB := am (Below.refl w.heap.size w)
 have H : ((some (([] : List (S56)) : List (S56))).bind fun y183 => (if y183.length + l0_3.length < 4398046511104 then ((some (([] : List Int) : List Int)).bind fun y189 => (if y189.length + l0_6.length < 17592186044416 then (some (a0_0, a0_1, a0_2, (y183 ++ l0_3), a0_4, a0_5, (y189 ++ l0_6))) else (none))) else (none))) = some (r1, r2, r3, r4, r5, r6, r7) := h
 clear h
 obtain ⟨y183, hy183⟩ : ∃ y_ : List (S56), y_ = (([] : List (S56))) := ⟨_, rfl⟩
 replace H : (if y183.length + l0_3.length < 4398046511104 then ((some (([] : List Int) : List Int)).bind fun y189 => (if y189.length + l0_6.length < 17592186044416 then (some (a0_0, a0_1, a0_2, (y183 ++ l0_3), a0_4, a0_5, (y189 ++ l0_6))) else (none))) else (none)) = some (r1, r2, r3, r4, r5, r6, r7) := by first | (rw [hy183]; with_reducible exact H) | (have H2_ := (Option.bind_some _ _).symm.trans H; rw [hy183]; with_reducible exact H2_) | (have H2_ := (Option.bind_some _ _).symm.trans H; with_reducible exact H2_) | with_reducible exact H | (rw [hy183]; exact H) | exact H
 have Ny183 := am hy183
 clear hy183
 by_cases c2 : y183.length + l0_3.length < 4398046511104
 case neg => rw [if_neg c2] at H; exact absurd H (by simp)
 rw [if_pos c2] at H
 have LMc2 := am c2
 clear c2
 obtain ⟨y186, hy186⟩ : ∃ y_ : List (S56), y_ = (y183 ++ l0_3) := ⟨_, rfl⟩
 replace H : ((some (([] : List Int) : List Int)).bind fun y189 => (if y189.length + l0_6.length < 17592186044416 then (some (a0_0, a0_1, a0_2, y186, a0_4, a0_5, (y189 ++ l0_6))) else (none))) = some (r1, r2, r3, r4, r5, r6, r7) := by first | (rw [hy186]; with_reducible exact H) | (have H2_ := (Option.bind_some _ _).symm.trans H; rw [hy186]; with_reducible exact H2_) | (have H2_ := (Option.bind_some _ _).symm.trans H; with_reducible exact H2_) | with_reducible exact H | (rw [hy186]; exact H) | exact H
 have Ny186 := am hy186
 clear hy186
 obtain ⟨y189, hy189⟩ : ∃ y_ : List Int, y_ = (([] : List Int)) := ⟨_, rfl⟩
 replace H : (if y189.length + l0_6.length < 17592186044416 then (some (a0_0, a0_1, a0_2, y186, a0_4, a0_5, (y189 ++ l0_6))) else (none)) = some (r1, r2, r3, r4, r5, r6, r7) := by first | (rw [hy189]; with_reducible exact H) | (have H2_ := (Option.bind_some _ _).symm.trans H; rw [hy189]; with_reducible exact H2_) | (have H2_ := (Option.bind_some _ _).symm.trans H; with_reducible exact H2_) | with_reducible exact H | (rw [hy189]; exact H) | exact H
 have Ny189 := am hy189
 clear hy189
 by_cases c3 : y189.length + l0_6.length < 17592186044416
 case neg => rw [if_neg c3] at H; exact absurd H (by simp)
 rw [if_pos c3] at H
 have LMc3 := am c3
 clear c3
 obtain ⟨y192, hy192⟩ : ∃ y_ : List Int, y_ = (y189 ++ l0_6) := ⟨_, rfl⟩
 replace H : (some (a0_0, a0_1, a0_2, y186, a0_4, a0_5, y192)) = some (r1, r2, r3, r4, r5, r6, r7) := by first | (rw [hy192]; with_reducible exact H) | (have H2_ := (Option.bind_some _ _).symm.trans H; rw [hy192]; with_reducible exact H2_) | (have H2_ := (Option.bind_some _ _).symm.trans H; with_reducible exact H2_) | with_reducible exact H | (rw [hy192]; exact H) | exact H
 have Ny192 := am hy192
 clear hy192
 simp only [Option.some.injEq, Prod.mk.injEq] at H
 obtain ⟨rfl, rfl, rfl, rfl, rfl, rfl, rfl⟩ := H
 go_enter Tryz.func82, Tryz.ntmps82
 go_wp2_with (first | ((with_reducible refine gd_ 1 ?_); refine bx_ 1 (cs := #[.int .i64 a0_0, .int .i64 a0_1, .string a0_2, .slice A0_3 l0_3.length c0_3, .string a0_4, .int .i64 a0_5, .slice A0_6 l0_6.length c0_6]) 53 ?_; intro gb181 hg w4 hbox hb; have BK181 := am hbox; have GW181 := ge_ (w := w) hg; have GE181 := ge_ (w := w) hg; replace HB := am (below_step ab1 hb); clear hb hbox hg) | ((with_reducible refine gd_ 2 ?_); refine bx_ 2 (cs := #[.int .i64 0, .int .i64 0, .string (⟨#[]⟩ : ByteArray), .slice none 0 0, .string (⟨#[]⟩ : ByteArray), .int .i64 0, .slice none 0 0]) 53 ?_; intro gb182 hg w5 hbox hb; have BK182 := am hbox; have GW182 := gE_ (w := w) GE181 hg; have GE182 := gE_ (w := w) GE181 hg; replace HB := am (below_step (ab2 GE181) hb); have NB181_182 := nl_ BK181 hg; have NB182_181 := ng_ BK181 hg; replace BK181 := bl_ BK181 hb; clear hb hbox hg) | ((with_reducible refine gate_dst (N := 3) rfl ?_); refine Kd.R_lit k56 _ 56 ?hg (N := 3) ?hd (xs := ([] : List (S56))) (inner := []) (ok := fun _ => True) (okp := fun _ => True) ?hr ?hp (fun _ hk => hk) trivial (Below.refl _ _) (Nat.le_refl _) (by simp) ?_; (case hd => rfl); (case hg => rfl); (case hr => first | (go_simp; done) | (go_simp; rfl)); (case hp => exact (Reps.none _ _)); intro v184 w6 ho7 hb hg_ hnew_; clear hg_ hnew_; (first | rw [← Ny183.out] at ho7 | (simp only [Int.reduceToNat] at ho7; rw [← Ny183.out] at ho7)); have HO185 := am (Kd.R_lower ho7 (below_size ba_)); replace BK181 := bl_ BK181 hb; replace BK182 := bl_ BK182 hb; replace HB := am (below_step ba_ hb); clear hb ho7; have hnb8 := NB181_182.out; have hnc8 := NB182_181.out; obtain ⟨⟨_, _, _, _, _, _, _⟩, _, _, _, _, _, _, _⟩ := Op.cells7 BK181.out) | ((with_reducible refine gate_builtin (b := .append) (xs := #[.tmp 3, .tmp 5]) rfl ?_); at_builtin; refine Kd.R_append_rows k56 (w0 := w) w.heap.size rfl (.tmp 3) (.tmp 5) 34 56 (.agg #[(.string ⟨#[]⟩), (.string ⟨#[]⟩)]) 32 rfl Tryz.underlying34 info56 rfl (by decide) (by omega) v184 y183 l0_3 _ _ _ (fun _ => True) (fun _ => False) rfl rfl ?aO ?aR (fun _ _ h => h) (fun _ h => h.elim) ?aF ?aB ?aS ?aL ?_; (case aR => repeat (first | exact (Kd.C_below HR0_3.out HB.out) | (with_reducible refine Kd.C_alloc ?_ _) | (with_reducible refine Kd.C_drewN ?_ _) | (with_reducible refine Kd.C_drew ?_))); (case aB => exact ba_); (case aF => exact (fun _ _ => trivial)); (case aO => exact (ab8 HO185)); (case aS => exact (below_size ba_)); (case aL => have := LMc2.out; omega); intro v187 w10 ho hb hg hat; rw [← Ny186.out] at ho; replace BK181 := bg_ BK181 hg (Kd.R_ne HO185.out BK181.out (by decide)); replace BK182 := bg_ BK182 hg (Kd.R_ne HO185.out BK182.out (by decide)); replace HB := am hb; have HO188 := am ho; clear HO185; clear ho hb hg hat; obtain ⟨Ao11, co11, eo11⟩ := Kd.R_slice HO188.out; subst eo11; obtain ⟨⟨_, _, _, _, _, _, _⟩, _, _, _, _, _, _, _⟩ := Op.cells7 BK181.out) | ((with_reducible refine gate_dst (N := 8) rfl ?_); refine Kd.R_lit (Kd.int .i64) _ 3 ?hg (N := 8) ?hd (xs := ([] : List Int)) (inner := []) (ok := fun _ => True) (okp := fun _ => True) ?hr ?hp (fun _ hk => hk) trivial (Below.refl _ _) (Nat.le_refl _) (by simp) ?_; (case hd => rfl); (case hg => rfl); (case hr => first | (go_simp; done) | (go_simp; rfl)); (case hp => exact (Reps.none _ _)); intro v190 w13 ho14 hb hg_ hnew_; clear hg_ hnew_; (first | rw [← Ny189.out] at ho14 | (simp only [Int.reduceToNat] at ho14; rw [← Ny189.out] at ho14)); replace HO188 := am (Kd.R_below (by (with_reducible repeat (first | apply Kd.R_alloc | apply Kd.R_drewN | apply Kd.R_drew)); exact (Kd.R_mono (Kd.R_far (p := ⟨gb181, 3, none⟩) (Kd.R_types HO188.out BK181.out (by decide)) (fun _ hk => hk.2) (.slice Ao11 y186.length co11)) (fun _ h_ => h_.1))) hb); have HO191 := am (Kd.R_lower ho14 (below_size ba_)); replace BK181 := bp_ BK181 hb; replace BK182 := bp_ BK182 hb; replace HB := am (below_step ba_ hb); clear hb ho14; obtain ⟨⟨_, _, _, _, _, _, _⟩, _, _, _, _, _, _, _⟩ := Op.cells7 BK181.out) | ((with_reducible refine gate_builtin (b := .append) (xs := #[.tmp 8, .tmp 10]) rfl ?_); at_builtin; refine Kd.R_append_rows (Kd.int .i64) (w0 := w) w.heap.size rfl (.tmp 8) (.tmp 10) 23 3 (.int .i64 0) 8 rfl Tryz.underlying23 info3 rfl (by decide) (by omega) v190 y189 l0_6 _ _ _ (fun _ => True) (fun _ => False) rfl rfl ?aO ?aR (fun _ _ h => h) (fun _ h => h.elim) ?aF ?aB ?aS ?aL ?_; (case aR => repeat (first | exact (Kd.C_below HR0_6.out HB.out) | (with_reducible refine Kd.C_alloc ?_ _) | (with_reducible refine Kd.C_drewN ?_ _) | (with_reducible refine Kd.C_drew ?_))); (case aB => exact ba_); (case aF => exact (fun _ _ => trivial)); (case aO => exact (ab8 HO191)); (case aS => exact (below_size ba_)); (case aL => have := LMc3.out; omega); intro v193 w16 ho hb hg hat; rw [← Ny192.out] at ho; replace BK181 := bg_ BK181 hg (Kd.R_ne HO191.out BK181.out (by decide)); replace BK182 := bg_ BK182 hg (Kd.R_ne HO191.out BK182.out (by decide)); replace HO188 := am (Kd.R_over' (ab8 HO188) (Kd.R_typed (ab8 HO191)) (by decide) hg); replace HB := am hb; have HO194 := am ho; clear HO191; clear ho hb hg hat; obtain ⟨Ao17, co17, eo17⟩ := Kd.R_slice HO194.out; subst eo17; obtain ⟨⟨_, _, _, _, _, _, _⟩, _, _, _, _, _, _, _⟩ := Op.cells7 BK181.out; obtain ⟨⟨_, _, _, _, _, _, _⟩, _, _, _, _, _, _, _⟩ := Op.cells7 BK182.out))
 refine bodyPost_ret (results_cell_row rfl _ _ gb182 53 #[.int .i64 a0_0, .int .i64 a0_1, .string a0_2, .slice Ao11 y186.length co11, .string a0_4, .int .i64 a0_5, .slice Ao17 y192.length co17] (0, 0) _ rfl (bq_ BK182) Tryz.underlying53 rfl (by kernel_rfl)) rfl ?_
 exact ⟨_, _, ab7, by (with_reducible repeat (first | apply Kd.R_alloc | apply Kd.R_drewN | apply Kd.R_drew)); exact Kd.R_mono (Kd.R_far (p := ⟨gb182, 6, none⟩) (Kd.R_far (p := ⟨gb182, 5, none⟩) (Kd.R_far (p := ⟨gb182, 4, none⟩) (Kd.R_far (p := ⟨gb182, 3, none⟩) (Kd.R_far (p := ⟨gb182, 2, none⟩) (Kd.R_far (p := ⟨gb182, 1, none⟩) (Kd.R_far (p := ⟨gb182, 0, none⟩) (Kd.R_far (p := ⟨gb181, 6, none⟩) (Kd.R_types (Kd.R_types HO188.out BK181.out (by decide)) BK182.out (by decide)) (fun _ hk => hk.1.2) (.slice Ao17 y192.length co17)) (fun _ hk => hk.2) (.int .i64 a0_0)) (fun _ hk => hk.2) (.int .i64 a0_1)) (fun _ hk => hk.2) (.string a0_2)) (fun _ hk => hk.2) (.slice Ao11 y186.length co11)) (fun _ hk => hk.2) (.string a0_4)) (fun _ hk => hk.2) (.int .i64 a0_5)) (fun _ hk => hk.2) (.slice Ao17 y192.length co17)) (fun _ hk => trivial), by (with_reducible repeat (first | apply Kd.R_alloc | apply Kd.R_drewN | apply Kd.R_drew)); exact Kd.R_mono (Kd.R_far (p := ⟨gb182, 6, none⟩) (Kd.R_far (p := ⟨gb182, 5, none⟩) (Kd.R_far (p := ⟨gb182, 4, none⟩) (Kd.R_far (p := ⟨gb182, 3, none⟩) (Kd.R_far (p := ⟨gb182, 2, none⟩) (Kd.R_far (p := ⟨gb182, 1, none⟩) (Kd.R_far (p := ⟨gb182, 0, none⟩) (Kd.R_far (p := ⟨gb181, 6, none⟩) (Kd.R_types (Kd.R_types HO194.out BK181.out (by decide)) BK182.out (by decide)) (fun _ hk => hk.1.2) (.slice Ao17 y192.length co17)) (fun _ hk => hk.2) (.int .i64 a0_0)) (fun _ hk => hk.2) (.int .i64 a0_1)) (fun _ hk => hk.2) (.string a0_2)) (fun _ hk => hk.2) (.slice Ao11 y186.length co11)) (fun _ hk => hk.2) (.string a0_4)) (fun _ hk => hk.2) (.int .i64 a0_5)) (fun _ hk => hk.2) (.slice Ao17 y192.length co17)) (fun _ hk => trivial), ba_⟩
def spec_l6Copy.l0 : Nat → List (S53) → List (S53) → Int → Option ((List (S53)))
 | 0, _, _, _ => none
 | k + 1, x0, x3, x4 => if x4 < (x0.length : Int) then (if 0 ≤ x4 then ((spec_l6Item.f ((rd_T53 x0 x4).f0) ((rd_T53 x0 x4).f1) ((rd_T53 x0 x4).f2) ((rd_T53 x0 x4).f3) ((rd_T53 x0 x4).f4) ((rd_T53 x0 x4).f5) ((rd_T53 x0 x4).f6)).bind fun bt199 => (if x3.length < 1353245080339 then (spec_l6Copy.l0 k x0 (x3 ++ [(⟨bt199.1, bt199.2.1, bt199.2.2.1, bt199.2.2.2.1, bt199.2.2.2.2.1, bt199.2.2.2.2.2.1, bt199.2.2.2.2.2.2⟩ : S53)]) (wrap64 (x4 + 1))) else (none))) else (none)) else (some x3)
def spec_l6Copy.f (k : Nat) (l0 : List (S53)) : Option ((List (S53))) := spec_l6Copy.l0 k l0 (([] : List (S53))) 0
theorem spec_l6Copy.calls (k : Nat) (A0 : Option Addr) (c0 : Nat) (l0 : List (S53)) (r : List (S53)) (w : World) (hr0 : Kd.C k53 w A0 l0.length l0) (hc0 : l0.length ≤ c0) (h : spec_l6Copy.f k l0 = some r) :
  Calls Tryz.prog 53 #[.slice A0 l0.length c0] w fun e w' => ∃ v0_ : Value, e = .returned (v0_) ∧ Kd.S k53 53 w' w.heap.size (fun _ => True) v0_ r ∧ Below w.heap.size w w' := by
 have hu53 := Tryz.underlying53
 have HR0 := am hr0
 have HC0 := am hc0
 clear hr0 hc0
 have HB := am (Below.refl w.heap.size w)
 have H : (spec_l6Copy.l0 k l0 (([] : List (S53))) 0) = some r := h
 clear h
 obtain ⟨y195, hy195⟩ : ∃ y_ : List (S53), y_ = (([] : List (S53))) := ⟨_, rfl⟩
 replace H : (spec_l6Copy.l0 k l0 y195 0) = some r := by first | (rw [hy195]; with_reducible exact H) | (have H2_ := (Option.bind_some _ _).symm.trans H; rw [hy195]; with_reducible exact H2_) | (have H2_ := (Option.bind_some _ _).symm.trans H; with_reducible exact H2_) | with_reducible exact H | (rw [hy195]; exact H) | exact H
 have Ny195 := am hy195
 clear hy195
 have H' := am H
 clear H
 go_enter Tryz.func53, Tryz.ntmps53
 go_wp2_with (first | ((with_reducible refine gate_dst (N := 5) rfl ?_); refine Kd.S_lit k53 _ 53 ?hg (N := 5) ?hd (xs := ([] : List (S53))) (inner := []) (ok := fun _ => True) (okp := fun _ => True) ?hr ?hp (fun _ hk => hk) trivial (Below.refl _ _) (Nat.le_refl _) (by simp) ?_; (case hd => rfl); (case hg => rfl); (case hr => first | (go_simp; done) | (go_simp; rfl)); (case hp => exact (Reps.none _ _)); intro v196 w2 ho3 hb hg_ hnew_; clear hg_ hnew_; (first | rw [← Ny195.out] at ho3 | (simp only [Int.reduceToNat] at ho3; rw [← Ny195.out] at ho3)); have HO197 := am (Kd.S_lower ho3 (below_size ab1)); replace HB := am (below_step ab1 hb); clear hb ho3))
 go_loopg [3, 4] k (fun kq v3 v4 w' => ∃ (x3_1 : List (S53)) (x4_1 : Int), v4 = .int .i64 x4_1 ∧ Aside0 (spec_l6Copy.l0 kq l0 x3_1 x4_1 = some r) ∧ Aside0 (kq ≤ k) ∧ Aside0 (Kd.S k53 53 w' w.heap.size (fun _ => True) v3 x3_1) ∧ Aside0 (Below w.heap.size w w'))
 case atStart => exact ⟨(y195), (0), ab6, H', ⟨Nat.le_refl _⟩, ⟨by (with_reducible repeat (first | apply Kd.S_alloc | apply Kd.S_drewN | apply Kd.S_drew)); exact HO197.out⟩, ⟨ab1⟩⟩
 case round =>
  clear H'
  try clear p2
  obtain ⟨x3_1, x4_1, rfl, HA, HK1, HO_3, HB⟩ := hrel
  cases gk with
  | zero => exact absurd HA.out (by simp [spec_l6Copy.l0])
  | succ k1 =>
   have H := HA.out
   clear HA
   simp only [spec_l6Copy.l0] at H
   replace H := ir_ H; rcases H with ⟨c4b0, H⟩ | ⟨c4b0, H⟩
   ·replace H := iq_ H; obtain ⟨c5b0, H⟩ := H
    replace H := Option.bind_eq_some_iff.mp H
    obtain ⟨⟨t199, t200, t201, t202, t205, t206, t207⟩, A60, H⟩ := H
    try dsimp only at H
    have A6 := am A60
    clear A60
    by_cases c7 : x3_1.length < 1353245080339
    case neg => rw [if_neg c7] at H; exact absurd H (by simp)
    rw [if_pos c7] at H
    have LMc7 := am c7
    clear c7
    obtain ⟨y210, hy210⟩ : ∃ y_ : List (S53), y_ = (x3_1 ++ [(⟨t199, t200, t201, t202, t205, t206, t207⟩ : S53)]) := ⟨_, rfl⟩
    replace H : (spec_l6Copy.l0 k1 l0 y210 (wrap64 (x4_1 + 1))) = some r := by first | (rw [hy210]; with_reducible exact H) | (have H2_ := (Option.bind_some _ _).symm.trans H; rw [hy210]; with_reducible exact H2_) | (have H2_ := (Option.bind_some _ _).symm.trans H; with_reducible exact H2_) | with_reducible exact H | (rw [hy210]; exact H) | exact H
    have Ny210 := am hy210
    clear hy210
    have H' := am H
    clear H
    obtain ⟨p198, q198, ad198, A198_3, c198_3, A198_6, c198_6, rfl, hx198_0, hx198_1, hx198_2, hx198_3, hx198_4, hx198_5, hx198_6, HC198_3, HR198_3, HC198_6, HR198_6⟩ := otT53 HB HR0.out x4_1 (of_decide_eq_true ab4) (of_decide_eq_true ab4)
    go_wp2_with (first | ((with_reducible refine gate_callee (f := 82) rfl ?_); refine goesL_ (some 17) rfl rfl Tryz.func82 (by kernel_rfl) rfl #[.agg #[.int .i64 ((rd_T53 l0 x4_1).f0), .int .i64 ((rd_T53 l0 x4_1).f1), .string ((rd_T53 l0 x4_1).f2), .slice A198_3 ((rd_T53 l0 x4_1).f3).length c198_3, .string ((rd_T53 l0 x4_1).f4), .int .i64 ((rd_T53 l0 x4_1).f5), .slice A198_6 ((rd_T53 l0 x4_1).f6).length c198_6]] rfl ab5 ?_; (with_reducible refine (spec_l6Item.calls ((rd_T53 l0 x4_1).f0) ((rd_T53 l0 x4_1).f1) ((rd_T53 l0 x4_1).f2) _ _ ((rd_T53 l0 x4_1).f3) ((rd_T53 l0 x4_1).f4) ((rd_T53 l0 x4_1).f5) _ _ ((rd_T53 l0 x4_1).f6) t199 t200 t201 t202 t205 t206 t207 _ (sc_ HR198_3) HC198_3.out (sc_ HR198_6) HC198_6.out A6.out).mono ?_); rintro e w8 ⟨v203, v208, rfl, ho0, ho1, hb⟩; refine ⟨_, rfl, ?_⟩; replace HO_3 := am (Kd.S_mono (Kd.S_told (Kd.S_told (Kd.S_old (by (with_reducible repeat (first | apply Kd.S_alloc | apply Kd.S_drewN | apply Kd.S_drew)); exact HO_3.out) hb) (Kd.R_base ho0)) (Kd.R_base ho1)) (fun _ h_ => h_.1)); have HO204 := am (Kd.R_lower ho0 (below_size ab1)); have HO209 := am (Kd.R_lower ho1 (below_size ab1)); replace HB := am (below_step ab1 hb); (try clear hb); (try clear ho0); (try clear ho1); obtain ⟨Ao10, co10, eo10⟩ := Kd.R_slice HO204.out; subst eo10; obtain ⟨Ao11, co11, eo11⟩ := Kd.R_slice HO209.out; subst eo11) | ((with_reducible refine gate_builtin (b := .append) (xs := #[.tmp 12, .tmp 18]) rfl ?_); at_builtin; refine Kd.S_append k53 (w0 := w) w.heap.size rfl (.tmp 12) (.tmp 18) 29 53 (.agg #[(.int .i64 0), (.int .i64 0), (.string ⟨#[]⟩), (.slice none 0 0), (.string ⟨#[]⟩), (.int .i64 0), (.slice none 0 0)]) 104 rfl Tryz.underlying29 info53 rfl (by decide) (by omega) u3 x3_1 (⟨t199, t200, t201, t202, t205, t206, t207⟩ : S53) [.int .i64 t199, .int .i64 t200, .string t201, .slice Ao10 t202.length co10, .string t205, .int .i64 t206, .slice Ao11 t207.length co11] (fun _ => True) (fun k_ => some k_ = (.slice Ao10 t202.length co10 : Value).ownBlock ∨ some k_ = (.slice Ao11 t207.length co11 : Value).ownBlock) rfl rfl ?aP (fun k_ hk_ => hk_.elim (fun h_ => ((Kd.R_mono (ok' := fun k_ => ((fun _ => True)) k_ ∧ some k_ ≠ (u3 : Value).ownBlock) (Kd.R_apart' (HO204.out) (Kd.S_typed HO_3.out) (by decide)) (fun k_ hk => ⟨trivial, hk.2⟩))).1 k_ h_.symm) (fun h_ => ((Kd.R_mono (ok' := fun k_ => ((fun _ => True)) k_ ∧ some k_ ≠ (u3 : Value).ownBlock) (Kd.R_apart' (HO209.out) (Kd.S_typed HO_3.out) (by decide)) (fun k_ hk => ⟨trivial, hk.2⟩))).1 k_ h_.symm)) ?aF ?aO ?aB ?aS ?aL ?_; (case aP => exact k53_mkM _ _ _ (⟨t199, t200, t201, t202, t205, t206, t207⟩ : S53) (Kd.R_mono (Kd.R_tight rfl (Kd.R_mono (ok' := fun k_ => ((fun _ => True)) k_ ∧ some k_ ≠ (u3 : Value).ownBlock) (Kd.R_apart' (HO204.out) (Kd.S_typed HO_3.out) (by decide)) (fun k_ hk => ⟨trivial, hk.2⟩))) (fun _ h_ => Or.inl h_)) (Kd.R_mono (Kd.R_tight rfl (Kd.R_mono (ok' := fun k_ => ((fun _ => True)) k_ ∧ some k_ ≠ (u3 : Value).ownBlock) (Kd.R_apart' (HO209.out) (Kd.S_typed HO_3.out) (by decide)) (fun k_ hk => ⟨trivial, hk.2⟩))) (fun _ h_ => Or.inr (h_)))); (case aB => exact ab1); (case aF => exact (fun _ _ => trivial)); (case aO => exact (by (with_reducible repeat (first | apply Kd.S_alloc | apply Kd.S_drewN | apply Kd.S_drew)); exact Kd.S_mono HO_3.out (fun k_ hk => ⟨trivial, fun e_ => e_.elim (fun h_ => hk.1.2 h_) (fun h_ => hk.2 h_)⟩))); (case aS => exact (below_size ab1)); (case aL => have := LMc7.out; omega); intro v211 w9 ho hb hg hat; rw [← Ny210.out] at ho; replace HB := am hb; have HO212 := am ho; clear HO_3 HO204 HO209; clear ho hb hg hat))
    go_roundg k1
    case measure => have := HK1.out; omega
    case rel => exact ⟨(y210), (wrap64 (x4_1 + 1)), ab6, H', ⟨by have := HK1.out; omega⟩, ⟨by (with_reducible repeat (first | apply Kd.S_alloc | apply Kd.S_drewN | apply Kd.S_drew)); exact HO212.out⟩, ⟨ab1⟩⟩
   ·obtain rfl := Option.some.inj H
    go_wp2
    go_ret
    exact ⟨_, ab7, by (with_reducible repeat (first | apply Kd.S_alloc | apply Kd.S_drewN | apply Kd.S_drew)); exact HO_3.out, ab1⟩
end Go.Proofs.YtekkalnafngfeaaGreat.P
