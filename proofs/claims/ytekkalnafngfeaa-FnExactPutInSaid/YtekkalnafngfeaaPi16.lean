-- WRITTEN BY this session's own programs
import Derived.Test.YtekkalnafngfeaaPi24
import Derived.Test.YtekkalnafngfeaaVPiw
import Derived.Test.YtekkalnafngfeaaPi33
namespace Go.Proofs.Ytekkalnafngfeaa.P
open Go Go.RowKit Go.Proofs.YtekkalnafngfeaaW.PrintWords Go.Proofs.YtekkalnafngfeaaW.PrintLast Go.Proofs.YtekkalnafngfeaaW.PrintMore
set_option linter.unusedVariables false
set_option linter.unusedSimpArgs false
set_option maxHeartbeats 8000000
set_option maxRecDepth 100000
set_option maxHeartbeats 4000000
/-- Three rows of one's own, their blocks in U, none in two of them. -/
def OwnP (w : World) (base : Nat) (U : Nat → Prop) (v0 v1 v2 : Value) (s0 : List S38) (s1 s2 : List Int) : Prop :=
 ∃ P0 P1 P2 : Nat → Prop, Kd.S k38 38 w base P0 v0 s0 ∧ Kd.R (Kd.int .i64) 3 w base P1 v1 s1 ∧ Kd.R (Kd.int .i64) 3 w base P2 v2 s2 ∧ (∀ k, P0 k → U k ∧ ¬ P1 k ∧ ¬ P2 k) ∧ (∀ k, P1 k → U k ∧ ¬ P2 k) ∧ (∀ k, P2 k → U k)
section
variable {w w1 w0 : World} {base g : Nat} {U U' S : Nat → Prop} {v0 v1 v2 : Value} {s0 : List S38} {s1 s2 : List Int} {h b : Int}
theorem OwnP.mono (H : OwnP w base U v0 v1 v2 s0 s1 s2) (hU : ∀ k, U k → U' k) : OwnP w base U' v0 v1 v2 s0 s1 s2 := by
 obtain ⟨P0, P1, P2, h0, h1, h2, d0, d1, d2⟩ := H
 exact ⟨P0, P1, P2, h0, h1, h2, fun k hk => ⟨hU k (d0 k hk).1, (d0 k hk).2⟩, fun k hk => ⟨hU k (d1 k hk).1, (d1 k hk).2⟩, fun k hk => hU k (d2 k hk)⟩
theorem OwnP.kept (H : OwnP w base U v0 v1 v2 s0 s1 s2) (hk : Kept w w1 S) (hS : ∀ k, U k → ¬ S k) : OwnP w1 base U v0 v1 v2 s0 s1 s2 := by
 obtain ⟨P0, P1, P2, h0, h1, h2, d0, d1, d2⟩ := H
 exact ⟨P0, P1, P2, Kd.S_kept h0 hk (fun k q => hS k (d0 k q).1), Kd.R_kept h1 hk (fun k q => hS k (d1 k q).1), Kd.R_kept h2 hk (fun k q => hS k (d2 k q)), d0, d1, d2⟩
theorem OwnP.below (H : OwnP w base U v0 v1 v2 s0 s1 s2) (hb : Below w.heap.size w w1) : OwnP w1 base U v0 v1 v2 s0 s1 s2 := H.kept (Kept.of_below hb (fun _ => False)) (fun _ _ hk => hk)
theorem OwnP.far (H : OwnP w base U v0 v1 v2 s0 s1 s2) {p : Addr} (hp : ∀ k, U k → k ≠ p.block) (u : Value) : OwnP (w.setCell p u) base U v0 v1 v2 s0 s1 s2 :=
 H.kept (Kept.setCell (S := fun k => k = p.block) (Kept.refl w _) (Or.inl rfl) u) (fun k hk => hp k hk)
theorem OwnP.bound (H : OwnP w base U v0 v1 v2 s0 s1 s2) : OwnP w base (fun k => U k ∧ base ≤ k ∧ k < w.heap.size) v0 v1 v2 s0 s1 s2 := by
 obtain ⟨P0, P1, P2, h0, h1, h2, d0, d1, d2⟩ := H
 exact ⟨_, _, _, Kd.S_bound h0, Kd.R_bound h1, Kd.R_bound h2, fun k hk => ⟨⟨(d0 k hk.1).1, hk.2.1, hk.2.2.1⟩, fun h => (d0 k hk.1).2.1 h.1, fun h => (d0 k hk.1).2.2 h.1⟩, fun k hk => ⟨⟨(d1 k hk.1).1, hk.2.1, hk.2.2.1⟩, fun h => (d1 k hk.1).2 h.1⟩, fun k hk => ⟨d2 k hk.1, hk.2.1, hk.2.2.1⟩⟩
theorem OwnP.lower {base' : Nat} (H : OwnP w base U v0 v1 v2 s0 s1 s2) (hb : base' ≤ base) : OwnP w base' U v0 v1 v2 s0 s1 s2 := by
 obtain ⟨P0, P1, P2, h0, h1, h2, d0, d1, d2⟩ := H
 exact ⟨P0, P1, P2, Kd.S_lower h0 hb, Kd.R_lower h1 hb, Kd.R_lower h2 hb, d0, d1, d2⟩
theorem OwnP.slices (H : OwnP w base U v0 v1 v2 s0 s1 s2) : ∃ (A0 : Option Addr) (c0 : Nat) (A1 : Option Addr) (c1 : Nat) (A2 : Option Addr) (c2 : Nat), v0 = .slice A0 s0.length c0 ∧ v1 = .slice A1 s1.length c1 ∧ v2 = .slice A2 s2.length c2 ∧ (s0.length ≤ c0 ∧ Kd.C k38 w A0 s0.length s0) ∧ (s1.length ≤ c1 ∧ Kd.C (Kd.int .i64) w A1 s1.length s1) ∧ (s2.length ≤ c2 ∧ Kd.C (Kd.int .i64) w A2 s2.length s2) := by
 obtain ⟨P0, P1, P2, h0, h1, h2, d0, d1, d2⟩ := H
 obtain ⟨A0, c0, e0, l0, r0⟩ := Kd.S_reads h0
 obtain ⟨A1, c1, e1, l1, r1⟩ := Kd.R_reads h1
 obtain ⟨A2, c2, e2, l2, r2⟩ := Kd.R_reads h2
 exact ⟨A0, c0, A1, c1, A2, c2, e0, e1, e2, ⟨l0, r0⟩, ⟨l1, r1⟩, ⟨l2, r2⟩⟩
theorem OwnP.reads {A0 A1 A2 : Option Addr} {n0 n1 n2 c0 c1 c2 : Nat} (H : OwnP w base U (.slice A0 n0 c0) (.slice A1 n1 c1) (.slice A2 n2 c2) s0 s1 s2) : (n0 = s0.length ∧ n0 ≤ c0 ∧ Kd.C k38 w A0 s0.length s0) ∧ (n1 = s1.length ∧ n1 ≤ c1 ∧ Kd.C (Kd.int .i64) w A1 s1.length s1) ∧ (n2 = s2.length ∧ n2 ≤ c2 ∧ Kd.C (Kd.int .i64) w A2 s2.length s2) := by
 obtain ⟨P0, P1, P2, h0, h1, h2, d0, d1, d2⟩ := H
 obtain ⟨e0, l0, r0⟩ := Kd.S_reads' h0
 obtain ⟨e1, l1, r1⟩ := Kd.R_reads' h1
 obtain ⟨e2, l2, r2⟩ := Kd.R_reads' h2
 subst e0 e1 e2
 exact ⟨⟨rfl, l0, r0⟩, ⟨rfl, l1, r1⟩, ⟨rfl, l2, r2⟩⟩
/-- What a copy's contract tells. -/
theorem OwnP.of_copy (h0 : Kd.S k38 38 w base (fun k_ => some k_ ≠ (v1 : Value).ownBlock ∧ some k_ ≠ (v2 : Value).ownBlock) v0 s0) (h1 : Kd.R (Kd.int .i64) 3 w base (fun k_ => some k_ ≠ (v2 : Value).ownBlock) v1 s1) (h2 : Kd.R (Kd.int .i64) 3 w base (fun k_ => some k_ ≠ (v1 : Value).ownBlock) v2 s2) : OwnP w base (fun k => base ≤ k ∧ k < w.heap.size) v0 v1 v2 s0 s1 s2 := by
 refine ⟨_, _, _, Kd.S_bound h0, Kd.R_bound (Kd.R_tight rfl h1), Kd.R_bound (Kd.R_tight rfl h2), fun k hk => ⟨⟨hk.2.1, hk.2.2.1⟩, fun h => hk.1.1 h.1, fun h => hk.1.2 h.1⟩, fun k hk => ⟨⟨hk.2.1, hk.2.2.1⟩, fun h => ?_⟩, fun k hk => ⟨hk.2.1, hk.2.2.1⟩⟩
 exact h1.1 k hk.1.symm h.1
theorem OwnP.to_copy (H : OwnP w base U v0 v1 v2 s0 s1 s2) : Kd.S k38 38 w base (fun k_ => some k_ ≠ (v1 : Value).ownBlock ∧ some k_ ≠ (v2 : Value).ownBlock) v0 s0 ∧ Kd.R (Kd.int .i64) 3 w base (fun k_ => some k_ ≠ (v2 : Value).ownBlock) v1 s1 ∧ Kd.R (Kd.int .i64) 3 w base (fun k_ => some k_ ≠ (v1 : Value).ownBlock) v2 s2 := by
 obtain ⟨P0, P1, P2, h0, h1, h2, d0, d1, d2⟩ := H
 refine ⟨Kd.S_mono h0 (fun k hk => ⟨fun e => (d0 k hk).2.1 (h1.1 k e.symm), fun e => (d0 k hk).2.2 (h2.1 k e.symm)⟩), Kd.R_mono h1 (fun k hk e => (d1 k hk).2 (h2.1 k e.symm)), Kd.R_mono h2 (fun k hk e => (d1 k (h1.1 k e.symm)).2 hk)⟩
/-- The first row changed by a call that writes its blocks and new ones alone. -/
theorem OwnP.items (H : OwnP w base U v0 v1 v2 s0 s1 s2) : ∃ P0 : Nat → Prop, (∀ k, P0 k → U k) ∧ Kd.S k38 38 w base P0 v0 s0 ∧ ∀ (w1 : World) (v0' : Value) (s0' : List S38), Kd.S k38 38 w1 base (fun k => P0 k ∨ w.heap.size ≤ k) v0' s0' → Kept w w1 P0 → OwnP w1 base (fun k => U k ∨ w.heap.size ≤ k) v0' v1 v2 s0' s1 s2 := by
 obtain ⟨P0, P1, P2, h0, h1, h2, d0, d1, d2⟩ := H
 refine ⟨P0, fun k hk => (d0 k hk).1, h0, fun w1 v0' s0' hs hk => ?_⟩
 refine ⟨_, _, _, hs, Kd.R_kept (Kd.R_bound h1) hk (fun k q q0 => (d0 k q0).2.1 q.1), Kd.R_kept (Kd.R_bound h2) hk (fun k q q0 => (d0 k q0).2.2 q.1), ?_, ?_, ?_⟩
 ·rintro k (q | q)
  ·exact ⟨Or.inl (d0 k q).1, fun h => (d0 k q).2.1 h.1, fun h => (d0 k q).2.2 h.1⟩
  ·exact ⟨Or.inr q, fun h => Nat.lt_irrefl _ (Nat.lt_of_lt_of_le h.2.2.1 q), fun h => Nat.lt_irrefl _ (Nat.lt_of_lt_of_le h.2.2.1 q)⟩
 ·exact fun k q => ⟨Or.inl (d1 k q.1).1, fun h => (d1 k q.1).2 h.1⟩
 ·exact fun k q => Or.inl (d2 k q.1)
/-- The same, the second row. -/
theorem OwnP.open_ (H : OwnP w base U v0 v1 v2 s0 s1 s2) : ∃ P1 : Nat → Prop, (∀ k, P1 k → U k) ∧ Kd.R (Kd.int .i64) 3 w base P1 v1 s1 ∧ ∀ (w1 : World) (v1' : Value) (s1' : List Int), Kd.R (Kd.int .i64) 3 w1 base (fun k => P1 k ∨ w.heap.size ≤ k) v1' s1' → Kept w w1 P1 → OwnP w1 base (fun k => U k ∨ w.heap.size ≤ k) v0 v1' v2 s0 s1' s2 := by
 obtain ⟨P0, P1, P2, h0, h1, h2, d0, d1, d2⟩ := H
 refine ⟨P1, fun k hk => (d1 k hk).1, h1, fun w1 v1' s1' hs hk => ?_⟩
 refine ⟨_, _, _, Kd.S_kept (Kd.S_bound h0) hk (fun k q q0 => (d0 k q.1).2.1 q0), hs, Kd.R_kept (Kd.R_bound h2) hk (fun k q q0 => (d1 k q0).2 q.1), ?_, ?_, ?_⟩
 ·refine fun k q => ⟨Or.inl (d0 k q.1).1, ?_, fun h => (d0 k q.1).2.2 h.1⟩
  rintro (h | h)
  ·exact (d0 k q.1).2.1 h
  ·exact Nat.lt_irrefl _ (Nat.lt_of_lt_of_le q.2.2.1 h)
 ·rintro k (q | q)
  ·exact ⟨Or.inl (d1 k q).1, fun h => (d1 k q).2 h.1⟩
  ·exact ⟨Or.inr q, fun h => Nat.lt_irrefl _ (Nat.lt_of_lt_of_le h.2.2.1 q)⟩
 ·exact fun k q => Or.inl (d2 k q.1)
/-- The same, the third row. -/
theorem OwnP.forms (H : OwnP w base U v0 v1 v2 s0 s1 s2) : ∃ P2 : Nat → Prop, (∀ k, P2 k → U k) ∧ Kd.R (Kd.int .i64) 3 w base P2 v2 s2 ∧ ∀ (w1 : World) (v2' : Value) (s2' : List Int), Kd.R (Kd.int .i64) 3 w1 base (fun k => P2 k ∨ w.heap.size ≤ k) v2' s2' → Kept w w1 P2 → OwnP w1 base (fun k => U k ∨ w.heap.size ≤ k) v0 v1 v2' s0 s1 s2' := by
 obtain ⟨P0, P1, P2, h0, h1, h2, d0, d1, d2⟩ := H
 refine ⟨P2, d2, h2, fun w1 v2' s2' hs hk => ?_⟩
 refine ⟨_, _, _, Kd.S_kept (Kd.S_bound h0) hk (fun k q q0 => (d0 k q.1).2.2 q0), Kd.R_kept (Kd.R_bound h1) hk (fun k q q0 => (d1 k q.1).2 q0), hs, ?_, ?_, ?_⟩
 ·refine fun k q => ⟨Or.inl (d0 k q.1).1, fun h => (d0 k q.1).2.1 h.1, ?_⟩
  rintro (h | h)
  ·exact (d0 k q.1).2.2 h
  ·exact Nat.lt_irrefl _ (Nat.lt_of_lt_of_le q.2.2.1 h)
 ·refine fun k q => ⟨Or.inl (d1 k q.1).1, ?_⟩
  rintro (h | h)
  ·exact (d1 k q.1).2 h
  ·exact Nat.lt_irrefl _ (Nat.lt_of_lt_of_le q.2.2.1 h)
 ·rintro k (q | q)
  ·exact Or.inl (d2 k q)
  ·exact Or.inr q
/-- A page stored whole into a box. -/
theorem set5_blk {t : TypeId} {a0 a1 a2 a3 a4 u0 u1 u2 u3 u4 : Value} (H : w.heap[g]? = some (.cells #[a0, a1, a2, a3, a4] t (0, 0))) :
  (((((w.setCell ⟨g, 0, none⟩ u0).setCell ⟨g, 1, none⟩ u1).setCell ⟨g, 2, none⟩ u2).setCell ⟨g, 3, none⟩ u3).setCell ⟨g, 4, none⟩ u4).heap[g]? = some (.cells #[u0, u1, u2, u3, u4] t (0, 0)) := by
 have h0 := blk_put H 0 u0 (cs' := #[u0, a1, a2, a3, a4]) rfl
 have h1 := blk_put h0 1 u1 (cs' := #[u0, u1, a2, a3, a4]) rfl
 have h2 := blk_put h1 2 u2 (cs' := #[u0, u1, u2, a3, a4]) rfl
 have h3 := blk_put h2 3 u3 (cs' := #[u0, u1, u2, u3, a4]) rfl
 exact blk_put h3 4 u4 rfl
theorem set5_kept (w : World) (g : Nat) (u0 u1 u2 u3 u4 : Value) : Kept w (((((w.setCell ⟨g, 0, none⟩ u0).setCell ⟨g, 1, none⟩ u1).setCell ⟨g, 2, none⟩ u2).setCell ⟨g, 3, none⟩ u3).setCell ⟨g, 4, none⟩ u4) (fun k => k = g) :=
 Kept.setCell (p := ⟨g, 4, none⟩) (Kept.setCell (p := ⟨g, 3, none⟩) (Kept.setCell (p := ⟨g, 2, none⟩) (Kept.setCell (p := ⟨g, 1, none⟩) (Kept.setCell (p := ⟨g, 0, none⟩) (Kept.refl w (fun k => k = g)) (Or.inl rfl) u0) (Or.inl rfl) u1) (Or.inl rfl) u2) (Or.inl rfl) u3) (Or.inl rfl) u4
theorem set5_below {u0 u1 u2 u3 u4 : Value} (H : Below w0.heap.size w0 w) (hg : w0.heap.size ≤ g) : Below w0.heap.size w0 (((((w.setCell ⟨g, 0, none⟩ u0).setCell ⟨g, 1, none⟩ u1).setCell ⟨g, 2, none⟩ u2).setCell ⟨g, 3, none⟩ u3).setCell ⟨g, 4, none⟩ u4) :=
 below_set (below_set (below_set (below_set (below_set H hg) hg) hg) hg) hg
/-- An item stored whole into a box. -/
theorem set7_blk {t : TypeId} {a0 a1 a2 a3 a4 a5 a6 u0 u1 u2 u3 u4 u5 u6 : Value} (H : w.heap[g]? = some (.cells #[a0, a1, a2, a3, a4, a5, a6] t (0, 0))) :
  (((((((w.setCell ⟨g, 0, none⟩ u0).setCell ⟨g, 1, none⟩ u1).setCell ⟨g, 2, none⟩ u2).setCell ⟨g, 3, none⟩ u3).setCell ⟨g, 4, none⟩ u4).setCell ⟨g, 5, none⟩ u5).setCell ⟨g, 6, none⟩ u6).heap[g]? = some (.cells #[u0, u1, u2, u3, u4, u5, u6] t (0, 0)) := by
 have h0 := blk_put H 0 u0 (cs' := #[u0, a1, a2, a3, a4, a5, a6]) rfl
 have h1 := blk_put h0 1 u1 (cs' := #[u0, u1, a2, a3, a4, a5, a6]) rfl
 have h2 := blk_put h1 2 u2 (cs' := #[u0, u1, u2, a3, a4, a5, a6]) rfl
 have h3 := blk_put h2 3 u3 (cs' := #[u0, u1, u2, u3, a4, a5, a6]) rfl
 have h4 := blk_put h3 4 u4 (cs' := #[u0, u1, u2, u3, u4, a5, a6]) rfl
 have h5 := blk_put h4 5 u5 (cs' := #[u0, u1, u2, u3, u4, u5, a6]) rfl
 exact blk_put h5 6 u6 rfl
theorem set7_kept (w : World) (g : Nat) (u0 u1 u2 u3 u4 u5 u6 : Value) : Kept w (((((((w.setCell ⟨g, 0, none⟩ u0).setCell ⟨g, 1, none⟩ u1).setCell ⟨g, 2, none⟩ u2).setCell ⟨g, 3, none⟩ u3).setCell ⟨g, 4, none⟩ u4).setCell ⟨g, 5, none⟩ u5).setCell ⟨g, 6, none⟩ u6) (fun k => k = g) :=
 Kept.setCell (p := ⟨g, 6, none⟩) (Kept.setCell (p := ⟨g, 5, none⟩) (Kept.setCell (p := ⟨g, 4, none⟩) (Kept.setCell (p := ⟨g, 3, none⟩) (Kept.setCell (p := ⟨g, 2, none⟩) (Kept.setCell (p := ⟨g, 1, none⟩) (Kept.setCell (p := ⟨g, 0, none⟩) (Kept.refl w (fun k => k = g)) (Or.inl rfl) u0) (Or.inl rfl) u1) (Or.inl rfl) u2) (Or.inl rfl) u3) (Or.inl rfl) u4) (Or.inl rfl) u5) (Or.inl rfl) u6
theorem set7_below {u0 u1 u2 u3 u4 u5 u6 : Value} (H : Below w0.heap.size w0 w) (hg : w0.heap.size ≤ g) : Below w0.heap.size w0 (((((((w.setCell ⟨g, 0, none⟩ u0).setCell ⟨g, 1, none⟩ u1).setCell ⟨g, 2, none⟩ u2).setCell ⟨g, 3, none⟩ u3).setCell ⟨g, 4, none⟩ u4).setCell ⟨g, 5, none⟩ u5).setCell ⟨g, 6, none⟩ u6) :=
 below_set (below_set (below_set (below_set (below_set (below_set (below_set H hg) hg) hg) hg) hg) hg) hg
/-- A box's cells, and that none is frozen. -/
theorem cl5 {t : TypeId} {a b c d e : Value} (H : Aside0 (w.heap[g]? = some (.cells #[a, b, c, d, e] t (0, 0)))) : w.cell? ⟨g, 0, none⟩ = some a ∧ w.cell? ⟨g, 1, none⟩ = some b ∧ w.cell? ⟨g, 2, none⟩ = some c ∧ w.cell? ⟨g, 3, none⟩ = some d ∧ w.cell? ⟨g, 4, none⟩ = some e :=
 ⟨(blk_cell H.out 0).trans rfl, (blk_cell H.out 1).trans rfl, (blk_cell H.out 2).trans rfl, (blk_cell H.out 3).trans rfl, (blk_cell H.out 4).trans rfl⟩
theorem cl7 {t : TypeId} {a b c d e f h : Value} (H : Aside0 (w.heap[g]? = some (.cells #[a, b, c, d, e, f, h] t (0, 0)))) : w.cell? ⟨g, 0, none⟩ = some a ∧ w.cell? ⟨g, 1, none⟩ = some b ∧ w.cell? ⟨g, 2, none⟩ = some c ∧ w.cell? ⟨g, 3, none⟩ = some d ∧ w.cell? ⟨g, 4, none⟩ = some e ∧ w.cell? ⟨g, 5, none⟩ = some f ∧ w.cell? ⟨g, 6, none⟩ = some h :=
 ⟨(blk_cell H.out 0).trans rfl, (blk_cell H.out 1).trans rfl, (blk_cell H.out 2).trans rfl, (blk_cell H.out 3).trans rfl, (blk_cell H.out 4).trans rfl, (blk_cell H.out 5).trans rfl, (blk_cell H.out 6).trans rfl⟩
theorem fz5 {t : TypeId} {cs : Array Value} (H : Aside0 (w.heap[g]? = some (.cells cs t (0, 0)))) : w.frozen? ⟨g, 0, none⟩ = false ∧ w.frozen? ⟨g, 1, none⟩ = false ∧ w.frozen? ⟨g, 2, none⟩ = false ∧ w.frozen? ⟨g, 3, none⟩ = false ∧ w.frozen? ⟨g, 4, none⟩ = false :=
 ⟨blk_frozen H.out 0, blk_frozen H.out 1, blk_frozen H.out 2, blk_frozen H.out 3, blk_frozen H.out 4⟩
theorem fz7 {t : TypeId} {cs : Array Value} (H : Aside0 (w.heap[g]? = some (.cells cs t (0, 0)))) : w.frozen? ⟨g, 0, none⟩ = false ∧ w.frozen? ⟨g, 1, none⟩ = false ∧ w.frozen? ⟨g, 2, none⟩ = false ∧ w.frozen? ⟨g, 3, none⟩ = false ∧ w.frozen? ⟨g, 4, none⟩ = false ∧ w.frozen? ⟨g, 5, none⟩ = false ∧ w.frozen? ⟨g, 6, none⟩ = false :=
 ⟨blk_frozen H.out 0, blk_frozen H.out 1, blk_frozen H.out 2, blk_frozen H.out 3, blk_frozen H.out 4, blk_frozen H.out 5, blk_frozen H.out 6⟩
/-- Whole stores, by what they leave. -/
abbrev st5 (w : World) (g : Nat) (u0 u1 u2 u3 u4 : Value) : World := ((((w.setCell ⟨g, 0, none⟩ u0).setCell ⟨g, 1, none⟩ u1).setCell ⟨g, 2, none⟩ u2).setCell ⟨g, 3, none⟩ u3).setCell ⟨g, 4, none⟩ u4
abbrev st7 (w : World) (g : Nat) (u0 u1 u2 u3 u4 u5 u6 : Value) : World := ((((((w.setCell ⟨g, 0, none⟩ u0).setCell ⟨g, 1, none⟩ u1).setCell ⟨g, 2, none⟩ u2).setCell ⟨g, 3, none⟩ u3).setCell ⟨g, 4, none⟩ u4).setCell ⟨g, 5, none⟩ u5).setCell ⟨g, 6, none⟩ u6
section
variable {W : World} {g' : Nat} {o : Obj} {u0 u1 u2 u3 u4 u5 u6 : Value} {t : TypeId}
theorem kS5 (hw : W = st5 w g u0 u1 u2 u3 u4) (B : Aside0 (w.heap[g']? = some o)) (n : g' ≠ g) : Aside0 (W.heap[g']? = some o) := ⟨by rw [hw]; exact blk_kept B.out (set5_kept _ _ _ _ _ _ _) n⟩
theorem sS5 {a0 a1 a2 a3 a4 : Value} (hw : W = st5 w g u0 u1 u2 u3 u4) (B : Aside0 (w.heap[g]? = some (.cells #[a0, a1, a2, a3, a4] t (0, 0)))) : Aside0 (W.heap[g]? = some (.cells #[u0, u1, u2, u3, u4] t (0, 0))) := ⟨by rw [hw]; exact set5_blk B.out⟩
theorem bS5 (hw : W = st5 w g u0 u1 u2 u3 u4) (B : Aside0 (Below w0.heap.size w0 w)) (n : w0.heap.size ≤ g) : Aside0 (Below w0.heap.size w0 W) := ⟨by rw [hw]; exact set5_below B.out n⟩
theorem pS5 (hw : W = st5 w g u0 u1 u2 u3 u4) (H : Aside0 (OwnP w base U v0 v1 v2 s0 s1 s2)) (n : ∀ k, U k → ¬ k = g) : Aside0 (OwnP W base U v0 v1 v2 s0 s1 s2) := ⟨by rw [hw]; exact H.out.kept (set5_kept _ _ _ _ _ _ _) n⟩
theorem rS5 {α : Type} {d : Kd α} {e : Nat} {xs : List α} (hw : W = st5 w g u0 u1 u2 u3 u4) (H : Aside0 (d.R e w base U v0 xs)) (n : ∀ k, U k → ¬ k = g) : Aside0 (d.R e W base U v0 xs) := ⟨by rw [hw]; exact Kd.R_kept H.out (set5_kept _ _ _ _ _ _ _) n⟩
theorem zS5 (hw : W = st5 w g u0 u1 u2 u3 u4) : w.heap.size ≤ W.heap.size := by rw [hw]; exact (set5_kept w g u0 u1 u2 u3 u4).1
theorem kS7 (hw : W = st7 w g u0 u1 u2 u3 u4 u5 u6) (B : Aside0 (w.heap[g']? = some o)) (n : g' ≠ g) : Aside0 (W.heap[g']? = some o) := ⟨by rw [hw]; exact blk_kept B.out (set7_kept _ _ _ _ _ _ _ _ _) n⟩
theorem sS7 {a0 a1 a2 a3 a4 a5 a6 : Value} (hw : W = st7 w g u0 u1 u2 u3 u4 u5 u6) (B : Aside0 (w.heap[g]? = some (.cells #[a0, a1, a2, a3, a4, a5, a6] t (0, 0)))) : Aside0 (W.heap[g]? = some (.cells #[u0, u1, u2, u3, u4, u5, u6] t (0, 0))) := ⟨by rw [hw]; exact set7_blk B.out⟩
theorem bS7 (hw : W = st7 w g u0 u1 u2 u3 u4 u5 u6) (B : Aside0 (Below w0.heap.size w0 w)) (n : w0.heap.size ≤ g) : Aside0 (Below w0.heap.size w0 W) := ⟨by rw [hw]; exact set7_below B.out n⟩
theorem pS7 (hw : W = st7 w g u0 u1 u2 u3 u4 u5 u6) (H : Aside0 (OwnP w base U v0 v1 v2 s0 s1 s2)) (n : ∀ k, U k → ¬ k = g) : Aside0 (OwnP W base U v0 v1 v2 s0 s1 s2) := ⟨by rw [hw]; exact H.out.kept (set7_kept _ _ _ _ _ _ _ _ _) n⟩
theorem rS7 {α : Type} {d : Kd α} {e : Nat} {xs : List α} (hw : W = st7 w g u0 u1 u2 u3 u4 u5 u6) (H : Aside0 (d.R e w base U v0 xs)) (n : ∀ k, U k → ¬ k = g) : Aside0 (d.R e W base U v0 xs) := ⟨by rw [hw]; exact Kd.R_kept H.out (set7_kept _ _ _ _ _ _ _ _ _) n⟩
theorem zS7 (hw : W = st7 w g u0 u1 u2 u3 u4 u5 u6) : w.heap.size ≤ W.heap.size := by rw [hw]; exact (set7_kept w g u0 u1 u2 u3 u4 u5 u6).1
theorem kS1 {p : Addr} {cs : Array Value} (hw : W = w.setCell p u0) (B : Aside0 (w.heap[g']? = some (.cells cs t (0, 0)))) (n : g' ≠ p.block) : Aside0 (W.heap[g']? = some (.cells cs t (0, 0))) := ⟨by rw [hw]; exact blk_far B.out n _⟩
theorem bS1 {j : Nat} (hw : W = w.setCell ⟨g, j, none⟩ u0) (B : Aside0 (Below w0.heap.size w0 w)) (n : w0.heap.size ≤ g) : Aside0 (Below w0.heap.size w0 W) := ⟨by rw [hw]; exact below_set B.out n⟩
theorem pS1 {p : Addr} (hw : W = w.setCell p u0) (H : Aside0 (OwnP w base U v0 v1 v2 s0 s1 s2)) (n : ∀ k, U k → k ≠ p.block) : Aside0 (OwnP W base U v0 v1 v2 s0 s1 s2) := ⟨by rw [hw]; exact H.out.far n _⟩
theorem bb {w1 : World} (B : Aside0 (w.heap[g]? = some o)) (hb : Below w.heap.size w w1) : Aside0 (w1.heap[g]? = some o) := ⟨blk_below B.out hb⟩
theorem ob {w1 : World} (H : Aside0 (OwnP w base U v0 v1 v2 s0 s1 s2)) (hb : Below w.heap.size w w1) : Aside0 (OwnP w1 base U v0 v1 v2 s0 s1 s2) := ⟨H.out.below hb⟩
theorem rb {α : Type} {d : Kd α} {e : Nat} {xs : List α} {w1 : World} (H : Aside0 (d.R e w base U v0 xs)) (hb : Below w.heap.size w w1) : Aside0 (d.R e w1 base U v0 xs) := ⟨Kd.R_below H.out hb⟩
theorem xb {w1 : World} (H : Aside0 (Below w0.heap.size w0 w)) (hb : Below w.heap.size w w1) : Aside0 (Below w0.heap.size w0 w1) := ⟨below_step H.out hb⟩
theorem gE (H : Aside0 (Below w0.heap.size w0 w)) (hg : g = w.heap.size) : Aside0 (w0.heap.size ≤ g) := ⟨by rw [hg]; exact below_size H.out⟩
theorem nE (B : Aside0 (w.heap[g']? = some o)) (hg : g = w.heap.size) : Aside0 (g' ≠ g) := ⟨by rw [hg]; exact Nat.ne_of_lt (blk_lt B.out)⟩
theorem oadd {p q : Prop} (H : Aside0 p) (h : q) : Aside0 (p ∧ q) := ⟨⟨H.out, h⟩⟩
end
section
variable {P : Program} {md : Region.Mode} {ops : Array Oper} {Q : Exit → Act → World → Prop} {S : World → Prop} {ds : List Nat} {fuel : Nat} {l l' : Array Bool} {a a' : Act} {oi : Oper} {v : Value} {W : World}
/-- A region's steps in short: an operation that yields in every world; one that reads what is held; the act written out. -/
theorem pk_ (i n : Nat) (h : wpAnyLast P md ops Q S ds fuel l' a' W) (hi : ops[i]? = some oi := by rfl) (hN : oi.dst = some n := by rfl)
  (hl : l.setIfInBounds i true = l' := by simp only [List.setIfInBounds_toArray, List.set_cons_zero, List.set_cons_succ]; rfl) (hc : anyB md ops l l' i = true := by kernel_rfl)
  (hy : Yields P ops oi v a := by exact Or.inl ⟨by rfl, by intro w'; go_simp; with_reducible rfl⟩)
  (ha : a.put (some n) v = a' := by simp only [Act.put, List.setIfInBounds_toArray, List.set_cons_zero, List.set_cons_succ, i64_w, i32_w]; rfl)
  (hQ : ∀ c a w, Q (.panic c) (a.put oi.dst v) w → Q (.panic c) a w := by exact fun _ _ _ h => h) : wpAnyLast P md ops Q S ds (fuel + 1) l a W := pure_ l' hi hN hc hQ hy ha h
theorem tk2_ (i n : Nat) (hS : S W) (h : wpAnyLast P md ops Q S ds fuel l' a' W) (hi : ops[i]? = some oi := by rfl) (hN : oi.dst = some n := by rfl)
  (hl : l.setIfInBounds i true = l' := by simp only [List.setIfInBounds_toArray, List.set_cons_zero, List.set_cons_succ]; rfl) (hc : takeB md ops ds l l' i = true := by kernel_rfl)
  (hy : YieldsIf P ops S oi v a := by exact Or.inl ⟨by rfl, by intro w' hs_; obtain ⟨hA_, hB_⟩ := hs_; (first | obtain ⟨_, _, _, _, _⟩ := cl5 ⟨hA_⟩ | obtain ⟨_, _, _, _, _, _, _⟩ := cl7 ⟨hA_⟩); (first | obtain ⟨_, _, _, _, _⟩ := cl5 ⟨hB_⟩ | obtain ⟨_, _, _, _, _, _, _⟩ := cl7 ⟨hB_⟩); go_simp; with_reducible rfl⟩)
  (ha : a.put (some n) v = a' := by simp only [Act.put, List.setIfInBounds_toArray, List.set_cons_zero, List.set_cons_succ, i64_w, i32_w]; rfl)
  (hQ : ∀ c a w, Q (.panic c) (a.put oi.dst v) w → Q (.panic c) a w := by exact fun _ _ _ h => h) : wpAnyLast P md ops Q S ds (fuel + 1) l a W := take_ l' hi hN hc hQ hy hS ha h
theorem tk3_ (i n : Nat) (hS : S W) (h : wpAnyLast P md ops Q S ds fuel l' a' W) (hi : ops[i]? = some oi := by rfl) (hN : oi.dst = some n := by rfl)
  (hl : l.setIfInBounds i true = l' := by simp only [List.setIfInBounds_toArray, List.set_cons_zero, List.set_cons_succ]; rfl) (hc : takeB md ops ds l l' i = true := by kernel_rfl)
  (hy : YieldsIf P ops S oi v a := by exact Or.inl ⟨by rfl, by intro w' hs_; (repeat (have s_ := And.left hs_; replace hs_ := And.right hs_)); go_simp; with_reducible rfl⟩)
  (ha : a.put (some n) v = a' := by simp only [Act.put, List.setIfInBounds_toArray, List.set_cons_zero, List.set_cons_succ, i64_w, i32_w]; rfl)
  (hQ : ∀ c a w, Q (.panic c) (a.put oi.dst v) w → Q (.panic c) a w := by exact fun _ _ _ h => h) : wpAnyLast P md ops Q S ds (fuel + 1) l a W := take_ l' hi hN hc hQ hy hS ha h
theorem nk_ (n : Nat) {d : Option Tmp} (h : wpAnyLast P md ops Q S ds fuel l a' W) (hd : d = some n := by rfl)
  (ha : a.put (some n) v = a' := by simp only [Act.put, List.setIfInBounds_toArray, List.set_cons_zero, List.set_cons_succ, i64_w, i32_w]; rfl) : wpAnyLast P md ops Q S ds fuel l (a.put d v) W := by
 subst hd; exact norm_ ha h
end
/-- Blocks made in a time. -/
def Bt (a b k : Nat) : Prop := a ≤ k ∧ k < b
/-- A page in a box of one's own. -/
def PgS (base : Nat) (w : World) (U : Nat → Prop) (g : Nat) (s0 : List S38) (s1 s2 : List Int) (h b : Int) : Prop :=
 ∃ v0 v1 v2 : Value, w.heap[g]? = some (.cells #[v0, v1, v2, .int .i64 h, .int .i64 b] 33 (0, 0)) ∧ base ≤ g ∧ (∀ k, U k → k ≠ g) ∧ OwnP w base U v0 v1 v2 s0 s1 s2
theorem PgS.isS (H : PgS base w U g s0 s1 s2 h b) : IsS33 w w g s0 s1 s2 h b := by
 obtain ⟨v0, v1, v2, hg, hb, hu, ho⟩ := H
 obtain ⟨A0, c0, A1, c1, A2, c2, rfl, rfl, rfl, ⟨l0, r0⟩, ⟨l1, r1⟩, ⟨l2, r2⟩⟩ := ho.slices
 exact ⟨A0, c0, A1, c1, A2, c2, hg, ⟨trivial, l0, l1, l2⟩, r0, r1, r2⟩
theorem PgS.below (H : PgS base w U g s0 s1 s2 h b) (hb : Below w.heap.size w w1) : PgS base w1 U g s0 s1 s2 h b := by
 obtain ⟨v0, v1, v2, hg, hb', hu, ho⟩ := H
 exact ⟨v0, v1, v2, blk_below hg hb, hb', hu, ho.below hb⟩
theorem PgS.mono (H : PgS base w U g s0 s1 s2 h b) (hU : ∀ k, U k → U' k) (hg : ∀ k, U' k → k ≠ g) : PgS base w U' g s0 s1 s2 h b := by
 obtain ⟨v0, v1, v2, hg', hb', hu, ho⟩ := H
 exact ⟨v0, v1, v2, hg', hb', hg, ho.mono hU⟩
end
attribute [local go_sem] max2_int min2_int max_two min_two max_three min_three max_four min_four
/-- Where a number goes in: at its place, or last where the place is out of range. -/
def hang_at (at_ : Int) (n : Nat) : Nat := if 0 ≤ at_ ∧ at_ ≤ (n : Int) then at_.toNat else n
def impl_hang.f (l0 : List S38) (a1 a2 : Int) (a3_0 a3_1 : Int) (a3_2 : ByteArray) (l3_3 : List S69) (a3_4 : ByteArray) : Option (List S38 × Int) :=
 (impl_copyAttrs.f l3_3).bind fun t => if l0.length < 1353245080339 ∧ 0 ≤ a1 ∧ a1 < ((l0 ++ [(⟨a3_0, a3_1, a3_2, t, a3_4, a1, ([] : List Int)⟩ : S38)]).length : Int) ∧ (rd_T38 (l0 ++ [(⟨a3_0, a3_1, a3_2, t, a3_4, a1, ([] : List Int)⟩ : S38)]) a1).f6.length < 17592186044415 then
  some ((l0 ++ [(⟨a3_0, a3_1, a3_2, t, a3_4, a1, ([] : List Int)⟩ : S38)]).set a1.toNat ⟨(rd_T38 (l0 ++ [(⟨a3_0, a3_1, a3_2, t, a3_4, a1, ([] : List Int)⟩ : S38)]) a1).f0, (rd_T38 (l0 ++ [(⟨a3_0, a3_1, a3_2, t, a3_4, a1, ([] : List Int)⟩ : S38)]) a1).f1, (rd_T38 (l0 ++ [(⟨a3_0, a3_1, a3_2, t, a3_4, a1, ([] : List Int)⟩ : S38)]) a1).f2, (rd_T38 (l0 ++ [(⟨a3_0, a3_1, a3_2, t, a3_4, a1, ([] : List Int)⟩ : S38)]) a1).f3, (rd_T38 (l0 ++ [(⟨a3_0, a3_1, a3_2, t, a3_4, a1, ([] : List Int)⟩ : S38)]) a1).f4, (rd_T38 (l0 ++ [(⟨a3_0, a3_1, a3_2, t, a3_4, a1, ([] : List Int)⟩ : S38)]) a1).f5, (rd_T38 (l0 ++ [(⟨a3_0, a3_1, a3_2, t, a3_4, a1, ([] : List Int)⟩ : S38)]) a1).f6.take (hang_at a2 (rd_T38 (l0 ++ [(⟨a3_0, a3_1, a3_2, t, a3_4, a1, ([] : List Int)⟩ : S38)]) a1).f6.length) ++ (l0.length : Int) :: (rd_T38 (l0 ++ [(⟨a3_0, a3_1, a3_2, t, a3_4, a1, ([] : List Int)⟩ : S38)]) a1).f6.drop (hang_at a2 (rd_T38 (l0 ++ [(⟨a3_0, a3_1, a3_2, t, a3_4, a1, ([] : List Int)⟩ : S38)]) a1).f6.length)⟩, (l0.length : Int)) else none
theorem impl_hang.calls (P0_ : Nat → Prop) (v0 : Value) (l0 : List S38) (a1 a2 : Int) (a3_0 a3_1 : Int) (a3_2 : ByteArray) (A3_3 : Option Addr) (c3_3 : Nat) (l3_3 : List S69) (a3_4 : ByteArray) (a3_5 : Int) (A3_6 : Option Addr) (n3_6 c3_6 : Nat) (r1 : List S38) (r2 : Int) (w0 w : World) (hB : Below w0.heap.size w0 w) (ho : Kd.S k38 38 w w0.heap.size P0_ v0 l0) (hr3 : Kd.C k69 w A3_3 l3_3.length l3_3) (hc3 : l3_3.length ≤ c3_3) (h : impl_hang.f l0 a1 a2 a3_0 a3_1 a3_2 l3_3 a3_4 = some (r1, r2)) :
  Calls Try.prog 53 #[v0, .int .i64 a1, .int .i64 a2, .agg #[.int .i64 a3_0, .int .i64 a3_1, .string a3_2, .slice A3_3 l3_3.length c3_3, .string a3_4, .int .i64 a3_5, .slice A3_6 n3_6 c3_6]] w fun e w' => ∃ v1_ : Value, e = .returned (.tuple #[v1_, .int .i64 r2]) ∧ Kd.S k38 38 w' w0.heap.size (fun k => P0_ k ∨ w.heap.size ≤ k) v1_ r1 ∧ Below w0.heap.size w0 w' ∧ Kept w w' P0_ := by
 unfold impl_hang.f at h
 replace h := Option.bind_eq_some_iff.mp h
 obtain ⟨t, A60, h⟩ := h
 generalize hx : (⟨a3_0, a3_1, a3_2, t, a3_4, a1, ([] : List Int)⟩ : S38) = x at h
 generalize hy : l0 ++ [x] = y at h
 split at h
 case isFalse => exact absurd h (by simp)
 case isTrue hc =>
 obtain ⟨cl, p1, q1, c6⟩ := hc
 have cle : (y.length : Int) = l0.length + 1 := by rw [← hy]; simp
 have CLE := am cle
 clear cle
 have A6 := am A60
 clear A60
 have CL := am cl
 have C6 := am c6
 clear cl c6
 have HX := am hx
 have HY := am hy
 clear hx hy
 obtain ⟨A0, c0, rfl⟩ := Kd.S_slice ho
 have HS : Aside0 (Kd.S k38 38 w w0.heap.size (fun k => P0_ k ∧ k < w.heap.size) (.slice A0 l0.length c0) l0) := ⟨Kd.S_mono (Kd.S_bound ho) (fun k hk => ⟨hk.1, hk.2.2.1⟩)⟩
 have HL := am (Kd.S_lt ho)
 have HB := am hB
 have HW0 := am hB.size
 have HK := am (Kept.refl w P0_)
 have HR3 := am hr3
 have HC3 := am hc3
 clear ho hB hr3 hc3
 have P1 := am p1
 have Q1 := am q1
 clear p1 q1
 by_cases cin : 0 ≤ a2 ∧ a2 ≤ ((rd_T38 y a1).f6.length : Int)
 ·obtain ⟨n2, rfl⟩ : ∃ n : Nat, a2 = (n : Int) := ⟨a2.toNat, by omega⟩
  have HI := am (show n2 ≤ (rd_T38 y a1).f6.length by omega)
  have HIN := am (show impl_inRange.f (n2 : Int) 0 ((rd_T38 y a1).f6.length : Int) = some true by unfold impl_inRange.f; rw [if_pos cin.1, decide_eq_true cin.2])
  rw [show hang_at (n2 : Int) (rd_T38 y a1).f6.length = n2 by unfold hang_at; rw [if_pos cin]; rfl] at h
  clear cin
  simp only [Option.some.injEq, Prod.mk.injEq] at h
  obtain ⟨rfl, rfl⟩ := h
  obtain ⟨r6, hr6_⟩ : ∃ r : List Int, r = (rd_T38 y a1).f6.take n2 ++ (l0.length : Int) :: (rd_T38 y a1).f6.drop n2 := ⟨_, rfl⟩
  rw [← hr6_]
  have HRR := am hr6_
  clear hr6_
  go_enter Try.func53, Try.ntmps53
  go_wp2_with (first | ((with_reducible refine gd_ 7 ?_); refine bx_ 7 (cs := #[.int .i64 a3_0, .int .i64 a3_1, .string a3_2, .slice A3_3 l3_3.length c3_3, .string a3_4, .int .i64 a3_5, .slice A3_6 n3_6 c3_6]) 38 ?_; intro gb hg w1 hbox hb; have GE := am (show w.heap.size ≤ gb by rw [hg]; exact HK.out.1); replace HS := am (Kd.S_below HS.out hb); replace HB := am (below_step HB.out hb); replace HK := am (Kept.below HK.out hb); replace HR3 := am (Kd.C_below HR3.out hb); have BK := am hbox; clear hb hbox hg; obtain ⟨hczz_0, hczz_1, hczz_2, hczz_3, hczz_4, hczz_5, hczz_6⟩ := cl7 BK; obtain ⟨hfzz_0, hfzz_1, hfzz_2, hfzz_3, hfzz_4, hfzz_5, hfzz_6⟩ := fz7 BK) | ((with_reducible refine gf_ 65 ?_); refine gx_ Try.func65 (impl_copyAttrs.calls _ _ l3_3 t _ HR3.out HC3.out A6.out) ?_; rintro v3 w2 ⟨ho0, hb⟩; obtain ⟨Ao, co, eo⟩ := Kd.R_slice ho0; subst eo; have HA : Aside0 (Kd.R k69 69 w2 w0.heap.size (fun k => w.heap.size ≤ k ∧ k ≠ gb) (.slice Ao t.length co) t) := ⟨Kd.R_lower (Kd.R_mono (Kd.R_bound ho0) (fun k hk => ⟨Nat.le_trans HK.out.1 hk.2.1, fun e_ => by have := blk_lt BK.out; have := hk.2.1; omega⟩)) (below_size HB.out)⟩; replace HS := am (Kd.S_below HS.out hb); replace HB := am (below_step HB.out hb); replace HK := am (Kept.below HK.out hb); replace BK := am (blk_below BK.out hb); clear ho0 hb HR3; obtain ⟨hcza_0, hcza_1, hcza_2, hcza_3, hcza_4, hcza_5, hcza_6⟩ := cl7 BK; obtain ⟨hfza_0, hfza_1, hfza_2, hfza_3, hfza_4, hfza_5, hfza_6⟩ := fz7 BK) | ((with_reducible refine gate_store (t := 3) (p := 18) rfl ?_); refine store_event (t := 3) (p := 18) (v := ?vo18) (w1 := (w2.setCell ⟨gb, 5, none⟩ (.int .i64 a1))) ?hg ?ho ?hn ?hr ?_; (case ho => rfl); (case hg => rfl); (case hn => rfl); (case hr => first | (go_simp; done) | (go_simp; rfl)); intro w3 hw; replace HA : Aside0 (Kd.R k69 69 w3 w0.heap.size (fun k => w.heap.size ≤ k ∧ k ≠ gb) (.slice Ao t.length co) t) := ⟨by rw [hw]; exact Kd.R_far HA.out (p := ⟨gb, 5, none⟩) (fun _ hk => hk.2) _⟩; replace HS : Aside0 (Kd.S k38 38 w3 w0.heap.size (fun k => P0_ k ∧ k < w.heap.size) (.slice A0 l0.length c0) l0) := ⟨by rw [hw]; exact Kd.S_far HS.out (p := ⟨gb, 5, none⟩) (fun k hk e_ => by have h1_ := hk.2; have h2_ := GE.out; rw [show k = gb from e_] at h1_; omega) _⟩; replace BK : Aside0 (w3.heap[gb]? = some (.cells #[.int .i64 a3_0, .int .i64 a3_1, .string a3_2, .slice A3_3 l3_3.length c3_3, .string a3_4, .int .i64 a1, .slice A3_6 n3_6 c3_6] 38 (0, 0))) := ⟨by rw [hw]; exact blk_put (cs := #[.int .i64 a3_0, .int .i64 a3_1, .string a3_2, .slice A3_3 l3_3.length c3_3, .string a3_4, .int .i64 a3_5, .slice A3_6 n3_6 c3_6]) BK.out 5 _ rfl⟩; replace HB : Aside0 (Below w0.heap.size w0 w3) := ⟨by rw [hw]; exact below_set HB.out (Nat.le_trans HW0.out GE.out)⟩; replace HK : Aside0 (Kept w w3 P0_) := ⟨by rw [hw]; exact Kept.setCell HK.out (Or.inr GE.out) _⟩; clear hw; obtain ⟨hczb0_0, hczb0_1, hczb0_2, hczb0_3, hczb0_4, hczb0_5, hczb0_6⟩ := cl7 BK; obtain ⟨hfzb0_0, hfzb0_1, hfzb0_2, hfzb0_3, hfzb0_4, hfzb0_5, hfzb0_6⟩ := fz7 BK) | ((with_reducible refine gate_store (t := 23) (p := 19) rfl ?_); refine store_event (t := 23) (p := 19) (v := ?vo19) (w1 := (w3.setCell ⟨gb, 6, none⟩ (.slice none 0 0))) ?hg ?ho ?hn ?hr ?_; (case ho => rfl); (case hg => rfl); (case hn => rfl); (case hr => first | (go_simp; done) | (go_simp; rfl)); intro w4 hw; replace HA : Aside0 (Kd.R k69 69 w4 w0.heap.size (fun k => w.heap.size ≤ k ∧ k ≠ gb) (.slice Ao t.length co) t) := ⟨by rw [hw]; exact Kd.R_far HA.out (p := ⟨gb, 6, none⟩) (fun _ hk => hk.2) _⟩; replace HS : Aside0 (Kd.S k38 38 w4 w0.heap.size (fun k => P0_ k ∧ k < w.heap.size) (.slice A0 l0.length c0) l0) := ⟨by rw [hw]; exact Kd.S_far HS.out (p := ⟨gb, 6, none⟩) (fun k hk e_ => by have h1_ := hk.2; have h2_ := GE.out; rw [show k = gb from e_] at h1_; omega) _⟩; replace BK : Aside0 (w4.heap[gb]? = some (.cells #[.int .i64 a3_0, .int .i64 a3_1, .string a3_2, .slice A3_3 l3_3.length c3_3, .string a3_4, .int .i64 a1, .slice none 0 0] 38 (0, 0))) := ⟨by rw [hw]; exact blk_put (cs := #[.int .i64 a3_0, .int .i64 a3_1, .string a3_2, .slice A3_3 l3_3.length c3_3, .string a3_4, .int .i64 a1, .slice A3_6 n3_6 c3_6]) BK.out 6 _ rfl⟩; replace HB : Aside0 (Below w0.heap.size w0 w4) := ⟨by rw [hw]; exact below_set HB.out (Nat.le_trans HW0.out GE.out)⟩; replace HK : Aside0 (Kept w w4 P0_) := ⟨by rw [hw]; exact Kept.setCell HK.out (Or.inr GE.out) _⟩; clear hw; obtain ⟨hczb1_0, hczb1_1, hczb1_2, hczb1_3, hczb1_4, hczb1_5, hczb1_6⟩ := cl7 BK; obtain ⟨hfzb1_0, hfzb1_1, hfzb1_2, hfzb1_3, hfzb1_4, hfzb1_5, hfzb1_6⟩ := fz7 BK) | ((with_reducible refine gate_store (t := 36) (p := 20) rfl ?_); refine store_event (t := 36) (p := 20) (v := ?vo20) (w1 := (w4.setCell ⟨gb, 3, none⟩ (.slice Ao t.length co))) ?hg ?ho ?hn ?hr ?_; (case ho => rfl); (case hg => rfl); (case hn => rfl); (case hr => first | (go_simp; done) | (go_simp; rfl)); intro w5 hw; replace HA : Aside0 (Kd.R k69 69 w5 w0.heap.size (fun k => w.heap.size ≤ k ∧ k ≠ gb) (.slice Ao t.length co) t) := ⟨by rw [hw]; exact Kd.R_far HA.out (p := ⟨gb, 3, none⟩) (fun _ hk => hk.2) _⟩; replace HS : Aside0 (Kd.S k38 38 w5 w0.heap.size (fun k => P0_ k ∧ k < w.heap.size) (.slice A0 l0.length c0) l0) := ⟨by rw [hw]; exact Kd.S_far HS.out (p := ⟨gb, 3, none⟩) (fun k hk e_ => by have h1_ := hk.2; have h2_ := GE.out; rw [show k = gb from e_] at h1_; omega) _⟩; replace BK : Aside0 (w5.heap[gb]? = some (.cells #[.int .i64 a3_0, .int .i64 a3_1, .string a3_2, .slice Ao t.length co, .string a3_4, .int .i64 a1, .slice none 0 0] 38 (0, 0))) := ⟨by rw [hw]; exact blk_put (cs := #[.int .i64 a3_0, .int .i64 a3_1, .string a3_2, .slice A3_3 l3_3.length c3_3, .string a3_4, .int .i64 a1, .slice none 0 0]) BK.out 3 _ rfl⟩; replace HB : Aside0 (Below w0.heap.size w0 w5) := ⟨by rw [hw]; exact below_set HB.out (Nat.le_trans HW0.out GE.out)⟩; replace HK : Aside0 (Kept w w5 P0_) := ⟨by rw [hw]; exact Kept.setCell HK.out (Or.inr GE.out) _⟩; clear hw; obtain ⟨hczb2_0, hczb2_1, hczb2_2, hczb2_3, hczb2_4, hczb2_5, hczb2_6⟩ := cl7 BK; obtain ⟨hfzb2_0, hfzb2_1, hfzb2_2, hfzb2_3, hfzb2_4, hfzb2_5, hfzb2_6⟩ := fz7 BK) | ((with_reducible refine gate_builtin (b := .append) (xs := #[.tmp 21, .tmp 23]) rfl ?_); at_builtin; refine Kd.S_append k38 (w0 := w0) w0.heap.size rfl (.tmp 21) (.tmp 23) 31 38 (.agg #[(.int .i64 0), (.int .i64 0), (.string ⟨#[]⟩), (.slice none 0 0), (.string ⟨#[]⟩), (.int .i64 0), (.slice none 0 0)]) 104 rfl Try.underlying31 info38 rfl (by decide) (by omega) (.slice A0 l0.length c0) l0 x [.int .i64 a3_0, .int .i64 a3_1, .string a3_2, .slice Ao t.length co, .string a3_4, .int .i64 a1, .slice none 0 0] (fun k => P0_ k ∨ w.heap.size ≤ k) (fun k => some k = (.slice Ao t.length co : Value).ownBlock) rfl rfl ?aP ?aK ?aF ?aO ?aB ?aS ?aL ?_; (case aP => rw [← HX.out]; exact k38_mkM _ _ _ (⟨a3_0, a3_1, a3_2, t, a3_4, a1, ([] : List Int)⟩ : S38) (Kd.R_tight rfl HA.out) (Kd.R_nil _ _ _ _ _)); (case aK => exact fun k hk => ⟨Or.inr (HA.out.1 k hk.symm).1, fun e_ => by have h1_ := HL.out k e_.symm; have h2_ := (HA.out.1 k hk.symm).1; omega⟩); (case aB => exact HB.out); (case aF => exact fun k hk => Or.inr (Nat.le_trans HK.out.1 hk)); (case aO => exact Kd.S_mono HS.out (fun k hk => ⟨Or.inl hk.1, fun e_ => by have h1_ := hk.2; have h2_ := (HA.out.1 k e_.symm).1; omega⟩)); (case aS => exact below_size HB.out); (case aL => have := CL.out; omega); intro v6 w6 ho hb hg hat; rw [HY.out] at ho; replace HK := am (Kept.of_grown (S := P0_) hg HK.out (fun k e_ => Or.inl ((Kd.S_R HS.out).1 k e_).1)); replace HB := am hb; have HO := am ho; clear hg hb ho hat BK HA HS; obtain ⟨g, cap, eg, gb2, gl, cells, HG⟩ := Kd.S_form HO.out (by have := CLE.out; omega); subst eg; have HGP := am ((Kd.S_R HO.out).1 g rfl); have GB := am gb2; have GL := am gl; clear gb2 gl HG; obtain ⟨A6_, c6_, hx6, hf6, hl6, hr6, hback⟩ := S_kids_store HO.out a1 P1.out Q1.out (fun k hk => Or.inr (Nat.le_trans HK.out.1 hk)) GL.out; have HR6 := am hr6; have HBK := am hback; have HF6 := am (hf6 6); have HX6 := am hx6; clear hr6 hback hf6; have p1_ := eq_true P1.out; have q1_ := eq_true Q1.out) | ((with_reducible refine gf_ 66 ?_); refine gc_ Try.func66 (impl_inRange.calls (n2 : Int) 0 ((rd_T38 y a1).f6.length : Int) true _ HIN.out) ?_; rintro w' ⟨nd, rfl⟩; (try (rw [drewN_self w6]))) | ((with_reducible refine gate_callee (f := 73) rfl ?_); refine goesL_ (some 43) rfl rfl Try.func73 (by kernel_rfl) rfl #[.slice A6_ (rd_T38 y a1).f6.length c6_, .int .i64 (n2 : Int), .slice (some ⟨w6.heap.size, 0, none⟩) 1 1] rfl ab5 ?_; refine Calls.mono (insert_calls Try.slices_Insert_laid rfl (xs := (rd_T38 y a1).f6) (i := n2) (k := (l0.length : Int)) (vb := w6.heap.size) (base := w0.heap.size) (ok := (fun k => (some k = (.slice A6_ (rd_T38 y a1).f6.length c6_ : Value).ownBlock ∧ (P0_ k ∨ w.heap.size ≤ k) ∧ k ≠ g) ∨ w6.heap.size ≤ k)) ?i1 C6.out ?i2 ?i3 ?i4 ?i5 ?i6) ?_; (case i1 => exact HI.out); (case i2 => (with_reducible repeat (first | apply Kd.R_alloc | apply Kd.R_drewN | apply Kd.R_drew)); exact HR6.out); (case i3 => exact Nat.le_trans (below_size HB.out) (Nat.le_of_lt (alloc_size _ _))); (case i4 => exact blk_new _ _); (case i5 => exact fun e_ => by have := Kd.R_lt HR6.out _ e_.symm; omega); (case i6 => exact fun q hq => Or.inr (Nat.le_trans (Nat.le_of_lt (alloc_size _ _)) hq)); rintro e w8 ⟨v8, rfl, hR, hown, hfr, hsz, hos, htp, hou⟩; refine ⟨_, rfl, ?_⟩; rw [← HRR.out] at hR; obtain ⟨Av, cv, ev⟩ := Kd.R_slice hR; subst ev; have h68 : w6.heap.size ≤ w8.heap.size := Nat.le_trans (Nat.le_of_lt (alloc_size _ _)) hsz; have h6 : ∀ q, q < w6.heap.size → some q ≠ (.slice A6_ (rd_T38 y a1).f6.length c6_ : Value).ownBlock → w8.heap[q]? = w6.heap[q]? := (fun q hq hne => (hfr q (Nat.lt_trans hq (alloc_size _ _)) hne).trans (Below.heap_alloc _ _ q hq)); have hK6 : Kept w6 w8 (fun k => some k = (.slice A6_ (rd_T38 y a1).f6.length c6_ : Value).ownBlock) := ⟨h68, fun q hq hne => h6 q hq hne⟩; have HST := am (HBK.out w8 _ _ hR hK6); have gne : some g ≠ (.slice A6_ (rd_T38 y a1).f6.length c6_ : Value).ownBlock := (fun e_ => (HR6.out.1 g e_.symm).elim (fun h_ => h_.2.2 rfl) (fun h_ => by have := GL.out; omega)); have hg8 := h6 g GL.out gne; have hx8 : w8.cell? ⟨g, a1.toNat * 7 + 6, none⟩ = some (.slice A6_ (rd_T38 y a1).f6.length c6_) := cell_kept HX6.out hK6 gne; have hf8 : w8.frozen? ⟨g, a1.toNat * 7 + 6, none⟩ = false := (by have := HF6.out; unfold World.frozen? at this ⊢; rw [hg8]; exact this); replace HK := am (Kept.then_ HK.out hK6 (fun k e_ => (HR6.out.1 k e_.symm).elim (fun h_ => h_.2.1) (fun h_ => Or.inr (Nat.le_trans HK.out.1 h_)))); replace HB : Aside0 (Below w0.heap.size w0 w8) := ⟨⟨hos.trans HB.out.os, htp.trans HB.out.tape, hou.trans HB.out.output, Nat.le_trans HB.out.size h68, fun q hq => (h6 q (Nat.lt_of_lt_of_le hq (below_size HB.out)) (fun e_ => by have := Kd.R_base HR6.out q e_.symm; omega)).trans (HB.out.block q hq)⟩⟩; clear hown hfr hsz hos htp hou h6 hK6 hg8 hR) | ((with_reducible refine gate_store (t := 23) (p := 45) rfl ?_); refine store_event (t := 23) (p := 45) (v := ?vo45) (w1 := (w8.setCell ⟨g, a1.toNat * 7 + 6, none⟩ (.slice Av r6.length cv))) ?hg ?ho ?hn ?hr ?_; (case ho => rfl); (case hg => rfl); (case hn => rfl); (case hr => first | (go_simp; done) | (go_simp; rfl)); intro w9 hw; have HZ : Aside0 (Below w0.heap.size w0 w9) := ⟨by rw [hw]; exact below_set HB.out GB.out⟩; have HKZ : Aside0 (Kept w w9 P0_) := ⟨by rw [hw]; exact Kept.setCell HK.out HGP.out _⟩; rw [← hw] at HST; clear hw))
  go_ret2
  exact ⟨_, by first | rfl | (simp <;> rfl), HST.out.1, HZ.out, HKZ.out⟩
 ·have HI := am (Nat.le_refl (rd_T38 y a1).f6.length)
  have HIN := am (show impl_inRange.f a2 0 ((rd_T38 y a1).f6.length : Int) = some false by unfold impl_inRange.f; by_cases c0_ : 0 ≤ a2; (rw [if_pos c0_, decide_eq_false (fun h_ => cin ⟨c0_, h_⟩)]); (rw [if_neg c0_]))
  rw [show hang_at a2 (rd_T38 y a1).f6.length = (rd_T38 y a1).f6.length by unfold hang_at; rw [if_neg cin]] at h
  clear cin
  simp only [Option.some.injEq, Prod.mk.injEq] at h
  obtain ⟨rfl, rfl⟩ := h
  obtain ⟨r6, hr6_⟩ : ∃ r : List Int, r = (rd_T38 y a1).f6.take (rd_T38 y a1).f6.length ++ (l0.length : Int) :: (rd_T38 y a1).f6.drop (rd_T38 y a1).f6.length := ⟨_, rfl⟩
  rw [← hr6_]
  have HRR := am hr6_
  clear hr6_
  go_enter Try.func53, Try.ntmps53
  go_wp2_with (first | ((with_reducible refine gd_ 7 ?_); refine bx_ 7 (cs := #[.int .i64 a3_0, .int .i64 a3_1, .string a3_2, .slice A3_3 l3_3.length c3_3, .string a3_4, .int .i64 a3_5, .slice A3_6 n3_6 c3_6]) 38 ?_; intro gb hg w1 hbox hb; have GE := am (show w.heap.size ≤ gb by rw [hg]; exact HK.out.1); replace HS := am (Kd.S_below HS.out hb); replace HB := am (below_step HB.out hb); replace HK := am (Kept.below HK.out hb); replace HR3 := am (Kd.C_below HR3.out hb); have BK := am hbox; clear hb hbox hg; obtain ⟨hczz_0, hczz_1, hczz_2, hczz_3, hczz_4, hczz_5, hczz_6⟩ := cl7 BK; obtain ⟨hfzz_0, hfzz_1, hfzz_2, hfzz_3, hfzz_4, hfzz_5, hfzz_6⟩ := fz7 BK) | ((with_reducible refine gf_ 65 ?_); refine gx_ Try.func65 (impl_copyAttrs.calls _ _ l3_3 t _ HR3.out HC3.out A6.out) ?_; rintro v3 w2 ⟨ho0, hb⟩; obtain ⟨Ao, co, eo⟩ := Kd.R_slice ho0; subst eo; have HA : Aside0 (Kd.R k69 69 w2 w0.heap.size (fun k => w.heap.size ≤ k ∧ k ≠ gb) (.slice Ao t.length co) t) := ⟨Kd.R_lower (Kd.R_mono (Kd.R_bound ho0) (fun k hk => ⟨Nat.le_trans HK.out.1 hk.2.1, fun e_ => by have := blk_lt BK.out; have := hk.2.1; omega⟩)) (below_size HB.out)⟩; replace HS := am (Kd.S_below HS.out hb); replace HB := am (below_step HB.out hb); replace HK := am (Kept.below HK.out hb); replace BK := am (blk_below BK.out hb); clear ho0 hb HR3; obtain ⟨hcza_0, hcza_1, hcza_2, hcza_3, hcza_4, hcza_5, hcza_6⟩ := cl7 BK; obtain ⟨hfza_0, hfza_1, hfza_2, hfza_3, hfza_4, hfza_5, hfza_6⟩ := fz7 BK) | ((with_reducible refine gate_store (t := 3) (p := 18) rfl ?_); refine store_event (t := 3) (p := 18) (v := ?vo18) (w1 := (w2.setCell ⟨gb, 5, none⟩ (.int .i64 a1))) ?hg ?ho ?hn ?hr ?_; (case ho => rfl); (case hg => rfl); (case hn => rfl); (case hr => first | (go_simp; done) | (go_simp; rfl)); intro w3 hw; replace HA : Aside0 (Kd.R k69 69 w3 w0.heap.size (fun k => w.heap.size ≤ k ∧ k ≠ gb) (.slice Ao t.length co) t) := ⟨by rw [hw]; exact Kd.R_far HA.out (p := ⟨gb, 5, none⟩) (fun _ hk => hk.2) _⟩; replace HS : Aside0 (Kd.S k38 38 w3 w0.heap.size (fun k => P0_ k ∧ k < w.heap.size) (.slice A0 l0.length c0) l0) := ⟨by rw [hw]; exact Kd.S_far HS.out (p := ⟨gb, 5, none⟩) (fun k hk e_ => by have h1_ := hk.2; have h2_ := GE.out; rw [show k = gb from e_] at h1_; omega) _⟩; replace BK : Aside0 (w3.heap[gb]? = some (.cells #[.int .i64 a3_0, .int .i64 a3_1, .string a3_2, .slice A3_3 l3_3.length c3_3, .string a3_4, .int .i64 a1, .slice A3_6 n3_6 c3_6] 38 (0, 0))) := ⟨by rw [hw]; exact blk_put (cs := #[.int .i64 a3_0, .int .i64 a3_1, .string a3_2, .slice A3_3 l3_3.length c3_3, .string a3_4, .int .i64 a3_5, .slice A3_6 n3_6 c3_6]) BK.out 5 _ rfl⟩; replace HB : Aside0 (Below w0.heap.size w0 w3) := ⟨by rw [hw]; exact below_set HB.out (Nat.le_trans HW0.out GE.out)⟩; replace HK : Aside0 (Kept w w3 P0_) := ⟨by rw [hw]; exact Kept.setCell HK.out (Or.inr GE.out) _⟩; clear hw; obtain ⟨hczb0_0, hczb0_1, hczb0_2, hczb0_3, hczb0_4, hczb0_5, hczb0_6⟩ := cl7 BK; obtain ⟨hfzb0_0, hfzb0_1, hfzb0_2, hfzb0_3, hfzb0_4, hfzb0_5, hfzb0_6⟩ := fz7 BK) | ((with_reducible refine gate_store (t := 23) (p := 19) rfl ?_); refine store_event (t := 23) (p := 19) (v := ?vo19) (w1 := (w3.setCell ⟨gb, 6, none⟩ (.slice none 0 0))) ?hg ?ho ?hn ?hr ?_; (case ho => rfl); (case hg => rfl); (case hn => rfl); (case hr => first | (go_simp; done) | (go_simp; rfl)); intro w4 hw; replace HA : Aside0 (Kd.R k69 69 w4 w0.heap.size (fun k => w.heap.size ≤ k ∧ k ≠ gb) (.slice Ao t.length co) t) := ⟨by rw [hw]; exact Kd.R_far HA.out (p := ⟨gb, 6, none⟩) (fun _ hk => hk.2) _⟩; replace HS : Aside0 (Kd.S k38 38 w4 w0.heap.size (fun k => P0_ k ∧ k < w.heap.size) (.slice A0 l0.length c0) l0) := ⟨by rw [hw]; exact Kd.S_far HS.out (p := ⟨gb, 6, none⟩) (fun k hk e_ => by have h1_ := hk.2; have h2_ := GE.out; rw [show k = gb from e_] at h1_; omega) _⟩; replace BK : Aside0 (w4.heap[gb]? = some (.cells #[.int .i64 a3_0, .int .i64 a3_1, .string a3_2, .slice A3_3 l3_3.length c3_3, .string a3_4, .int .i64 a1, .slice none 0 0] 38 (0, 0))) := ⟨by rw [hw]; exact blk_put (cs := #[.int .i64 a3_0, .int .i64 a3_1, .string a3_2, .slice A3_3 l3_3.length c3_3, .string a3_4, .int .i64 a1, .slice A3_6 n3_6 c3_6]) BK.out 6 _ rfl⟩; replace HB : Aside0 (Below w0.heap.size w0 w4) := ⟨by rw [hw]; exact below_set HB.out (Nat.le_trans HW0.out GE.out)⟩; replace HK : Aside0 (Kept w w4 P0_) := ⟨by rw [hw]; exact Kept.setCell HK.out (Or.inr GE.out) _⟩; clear hw; obtain ⟨hczb1_0, hczb1_1, hczb1_2, hczb1_3, hczb1_4, hczb1_5, hczb1_6⟩ := cl7 BK; obtain ⟨hfzb1_0, hfzb1_1, hfzb1_2, hfzb1_3, hfzb1_4, hfzb1_5, hfzb1_6⟩ := fz7 BK) | ((with_reducible refine gate_store (t := 36) (p := 20) rfl ?_); refine store_event (t := 36) (p := 20) (v := ?vo20) (w1 := (w4.setCell ⟨gb, 3, none⟩ (.slice Ao t.length co))) ?hg ?ho ?hn ?hr ?_; (case ho => rfl); (case hg => rfl); (case hn => rfl); (case hr => first | (go_simp; done) | (go_simp; rfl)); intro w5 hw; replace HA : Aside0 (Kd.R k69 69 w5 w0.heap.size (fun k => w.heap.size ≤ k ∧ k ≠ gb) (.slice Ao t.length co) t) := ⟨by rw [hw]; exact Kd.R_far HA.out (p := ⟨gb, 3, none⟩) (fun _ hk => hk.2) _⟩; replace HS : Aside0 (Kd.S k38 38 w5 w0.heap.size (fun k => P0_ k ∧ k < w.heap.size) (.slice A0 l0.length c0) l0) := ⟨by rw [hw]; exact Kd.S_far HS.out (p := ⟨gb, 3, none⟩) (fun k hk e_ => by have h1_ := hk.2; have h2_ := GE.out; rw [show k = gb from e_] at h1_; omega) _⟩; replace BK : Aside0 (w5.heap[gb]? = some (.cells #[.int .i64 a3_0, .int .i64 a3_1, .string a3_2, .slice Ao t.length co, .string a3_4, .int .i64 a1, .slice none 0 0] 38 (0, 0))) := ⟨by rw [hw]; exact blk_put (cs := #[.int .i64 a3_0, .int .i64 a3_1, .string a3_2, .slice A3_3 l3_3.length c3_3, .string a3_4, .int .i64 a1, .slice none 0 0]) BK.out 3 _ rfl⟩; replace HB : Aside0 (Below w0.heap.size w0 w5) := ⟨by rw [hw]; exact below_set HB.out (Nat.le_trans HW0.out GE.out)⟩; replace HK : Aside0 (Kept w w5 P0_) := ⟨by rw [hw]; exact Kept.setCell HK.out (Or.inr GE.out) _⟩; clear hw; obtain ⟨hczb2_0, hczb2_1, hczb2_2, hczb2_3, hczb2_4, hczb2_5, hczb2_6⟩ := cl7 BK; obtain ⟨hfzb2_0, hfzb2_1, hfzb2_2, hfzb2_3, hfzb2_4, hfzb2_5, hfzb2_6⟩ := fz7 BK) | ((with_reducible refine gate_builtin (b := .append) (xs := #[.tmp 21, .tmp 23]) rfl ?_); at_builtin; refine Kd.S_append k38 (w0 := w0) w0.heap.size rfl (.tmp 21) (.tmp 23) 31 38 (.agg #[(.int .i64 0), (.int .i64 0), (.string ⟨#[]⟩), (.slice none 0 0), (.string ⟨#[]⟩), (.int .i64 0), (.slice none 0 0)]) 104 rfl Try.underlying31 info38 rfl (by decide) (by omega) (.slice A0 l0.length c0) l0 x [.int .i64 a3_0, .int .i64 a3_1, .string a3_2, .slice Ao t.length co, .string a3_4, .int .i64 a1, .slice none 0 0] (fun k => P0_ k ∨ w.heap.size ≤ k) (fun k => some k = (.slice Ao t.length co : Value).ownBlock) rfl rfl ?aP ?aK ?aF ?aO ?aB ?aS ?aL ?_; (case aP => rw [← HX.out]; exact k38_mkM _ _ _ (⟨a3_0, a3_1, a3_2, t, a3_4, a1, ([] : List Int)⟩ : S38) (Kd.R_tight rfl HA.out) (Kd.R_nil _ _ _ _ _)); (case aK => exact fun k hk => ⟨Or.inr (HA.out.1 k hk.symm).1, fun e_ => by have h1_ := HL.out k e_.symm; have h2_ := (HA.out.1 k hk.symm).1; omega⟩); (case aB => exact HB.out); (case aF => exact fun k hk => Or.inr (Nat.le_trans HK.out.1 hk)); (case aO => exact Kd.S_mono HS.out (fun k hk => ⟨Or.inl hk.1, fun e_ => by have h1_ := hk.2; have h2_ := (HA.out.1 k e_.symm).1; omega⟩)); (case aS => exact below_size HB.out); (case aL => have := CL.out; omega); intro v6 w6 ho hb hg hat; rw [HY.out] at ho; replace HK := am (Kept.of_grown (S := P0_) hg HK.out (fun k e_ => Or.inl ((Kd.S_R HS.out).1 k e_).1)); replace HB := am hb; have HO := am ho; clear hg hb ho hat BK HA HS; obtain ⟨g, cap, eg, gb2, gl, cells, HG⟩ := Kd.S_form HO.out (by have := CLE.out; omega); subst eg; have HGP := am ((Kd.S_R HO.out).1 g rfl); have GB := am gb2; have GL := am gl; clear gb2 gl HG; obtain ⟨A6_, c6_, hx6, hf6, hl6, hr6, hback⟩ := S_kids_store HO.out a1 P1.out Q1.out (fun k hk => Or.inr (Nat.le_trans HK.out.1 hk)) GL.out; have HR6 := am hr6; have HBK := am hback; have HF6 := am (hf6 6); have HX6 := am hx6; clear hr6 hback hf6; have p1_ := eq_true P1.out; have q1_ := eq_true Q1.out) | ((with_reducible refine gf_ 66 ?_); refine gc_ Try.func66 (impl_inRange.calls a2 0 ((rd_T38 y a1).f6.length : Int) false _ HIN.out) ?_; rintro w' ⟨nd, rfl⟩; (try (rw [drewN_self w6]))) | ((with_reducible refine gate_callee (f := 73) rfl ?_); refine goesL_ (some 43) rfl rfl Try.func73 (by kernel_rfl) rfl #[.slice A6_ (rd_T38 y a1).f6.length c6_, .int .i64 ((rd_T38 y a1).f6.length : Int), .slice (some ⟨w6.heap.size, 0, none⟩) 1 1] rfl ab5 ?_; refine Calls.mono (insert_calls Try.slices_Insert_laid rfl (xs := (rd_T38 y a1).f6) (i := (rd_T38 y a1).f6.length) (k := (l0.length : Int)) (vb := w6.heap.size) (base := w0.heap.size) (ok := (fun k => (some k = (.slice A6_ (rd_T38 y a1).f6.length c6_ : Value).ownBlock ∧ (P0_ k ∨ w.heap.size ≤ k) ∧ k ≠ g) ∨ w6.heap.size ≤ k)) ?i1 C6.out ?i2 ?i3 ?i4 ?i5 ?i6) ?_; (case i1 => exact HI.out); (case i2 => (with_reducible repeat (first | apply Kd.R_alloc | apply Kd.R_drewN | apply Kd.R_drew)); exact HR6.out); (case i3 => exact Nat.le_trans (below_size HB.out) (Nat.le_of_lt (alloc_size _ _))); (case i4 => exact blk_new _ _); (case i5 => exact fun e_ => by have := Kd.R_lt HR6.out _ e_.symm; omega); (case i6 => exact fun q hq => Or.inr (Nat.le_trans (Nat.le_of_lt (alloc_size _ _)) hq)); rintro e w8 ⟨v8, rfl, hR, hown, hfr, hsz, hos, htp, hou⟩; refine ⟨_, rfl, ?_⟩; rw [← HRR.out] at hR; obtain ⟨Av, cv, ev⟩ := Kd.R_slice hR; subst ev; have h68 : w6.heap.size ≤ w8.heap.size := Nat.le_trans (Nat.le_of_lt (alloc_size _ _)) hsz; have h6 : ∀ q, q < w6.heap.size → some q ≠ (.slice A6_ (rd_T38 y a1).f6.length c6_ : Value).ownBlock → w8.heap[q]? = w6.heap[q]? := (fun q hq hne => (hfr q (Nat.lt_trans hq (alloc_size _ _)) hne).trans (Below.heap_alloc _ _ q hq)); have hK6 : Kept w6 w8 (fun k => some k = (.slice A6_ (rd_T38 y a1).f6.length c6_ : Value).ownBlock) := ⟨h68, fun q hq hne => h6 q hq hne⟩; have HST := am (HBK.out w8 _ _ hR hK6); have gne : some g ≠ (.slice A6_ (rd_T38 y a1).f6.length c6_ : Value).ownBlock := (fun e_ => (HR6.out.1 g e_.symm).elim (fun h_ => h_.2.2 rfl) (fun h_ => by have := GL.out; omega)); have hg8 := h6 g GL.out gne; have hx8 : w8.cell? ⟨g, a1.toNat * 7 + 6, none⟩ = some (.slice A6_ (rd_T38 y a1).f6.length c6_) := cell_kept HX6.out hK6 gne; have hf8 : w8.frozen? ⟨g, a1.toNat * 7 + 6, none⟩ = false := (by have := HF6.out; unfold World.frozen? at this ⊢; rw [hg8]; exact this); replace HK := am (Kept.then_ HK.out hK6 (fun k e_ => (HR6.out.1 k e_.symm).elim (fun h_ => h_.2.1) (fun h_ => Or.inr (Nat.le_trans HK.out.1 h_)))); replace HB : Aside0 (Below w0.heap.size w0 w8) := ⟨⟨hos.trans HB.out.os, htp.trans HB.out.tape, hou.trans HB.out.output, Nat.le_trans HB.out.size h68, fun q hq => (h6 q (Nat.lt_of_lt_of_le hq (below_size HB.out)) (fun e_ => by have := Kd.R_base HR6.out q e_.symm; omega)).trans (HB.out.block q hq)⟩⟩; clear hown hfr hsz hos htp hou h6 hK6 hg8 hR) | ((with_reducible refine gate_store (t := 23) (p := 45) rfl ?_); refine store_event (t := 23) (p := 45) (v := ?vo45) (w1 := (w8.setCell ⟨g, a1.toNat * 7 + 6, none⟩ (.slice Av r6.length cv))) ?hg ?ho ?hn ?hr ?_; (case ho => rfl); (case hg => rfl); (case hn => rfl); (case hr => first | (go_simp; done) | (go_simp; rfl)); intro w9 hw; have HZ : Aside0 (Below w0.heap.size w0 w9) := ⟨by rw [hw]; exact below_set HB.out GB.out⟩; have HKZ : Aside0 (Kept w w9 P0_) := ⟨by rw [hw]; exact Kept.setCell HK.out HGP.out _⟩; rw [← hw] at HST; clear hw))
  go_ret2
  exact ⟨_, by first | rfl | (simp <;> rfl), HST.out.1, HZ.out, HKZ.out⟩
def hasA (name : ByteArray) (a : S69) : Bool := a.f0.toList == name.toList
def idxA (name : ByteArray) : List S69 → Nat → Int
 | [], _ => -1
 | a :: l, j => if hasA name a = true then (j : Int) else idxA name l (j + 1)
def impl_hasAttr.f (l0 : List S69) (a1 : ByteArray) : Option Bool := some (l0.any (hasA a1))
theorem idxA_drop (name : ByteArray) (l : List S69) (j : Nat) (h : j < l.length) : idxA name (l.drop j) j = if hasA name l[j] = true then (j : Int) else idxA name (l.drop (j + 1)) (j + 1) := by
 rw [List.drop_eq_getElem_cons h]; rfl
theorem idxA_any (name : ByteArray) : ∀ (l : List S69) (j : Nat), decide (0 ≤ idxA name l j) = l.any (hasA name)
 | [], _ => rfl
 | a :: l, j => by
  unfold idxA
  by_cases h : hasA name a = true
  ·rw [if_pos h, List.any_cons, h, Bool.true_or, decide_eq_true (by omega)]
  ·rw [if_neg h, idxA_any name l (j + 1), List.any_cons, Bool.eq_false_iff.mpr h, Bool.false_or]
theorem lit_hasAttr (n v name : ByteArray) (b : Nat) (w : World) (hc : w.cell? ⟨b, 0, none⟩ = some (.string name)) :
  Calls Try.prog 82 #[.agg #[.string n, .string v], .pointer (some ⟨b, 0, none⟩)] w fun e w' => e = .returned (.bool (n.toList == name.toList)) ∧ Below w.heap.size w w' := by
 have hu := Try.underlying69
 have HB := am (Below.refl w.heap.size w)
 have hc2 := fun o => pw_cell_below ((Below.refl _ w).alloc (Nat.le_refl _) o) hc
 go_enter Try.func82, Try.ntmps82
 go_wp2
 go_ret
 exact ⟨rfl, ab1⟩
theorem lit_hasAttr_q (n v name : ByteArray) (b : Nat) (q : Bool) (w : World) (hq : (n.toList == name.toList) = q) (hc : w.cell? ⟨b, 0, none⟩ = some (.string name)) :
  Calls Try.prog 82 #[.agg #[.string n, .string v], .pointer (some ⟨b, 0, none⟩)] w fun e w' => e = .returned (.bool q) ∧ Below w.heap.size w w' := by
 subst hq
 exact lit_hasAttr n v name b w hc
theorem rdA (l : List S69) (j : Nat) (h : j < l.length) : rd_T69 l (j : Int) = l[j] := by
 unfold rd_T69
 rw [Int.toNat_natCast, List.getD_eq_getElem?_getD, List.getElem?_eq_getElem h]; rfl
theorem idx_hasAttr (A0 : Option Addr) (c0 : Nat) (l0 : List S69) (name : ByteArray) (b : Nat) (w : World) (hr0 : Kd.C k69 w A0 l0.length l0) (hc : w.cell? ⟨b, 0, none⟩ = some (.string name)) :
  Calls Try.prog 85 #[.slice A0 l0.length c0, .func (.func 82) #[] #[.pointer (some ⟨b, 0, none⟩)]] w fun e w' => e = .returned (.int .i64 (idxA name l0 0)) ∧ Below w.heap.size w w' := by
 have hu := Try.underlying69
 have HR0 := am hr0
 have HC := am hc
 clear hr0 hc
 go_enter Try.func85, Try.ntmps85
 go_wp2
 go_loopw [8] (fun v8 wr => ∃ (j : Nat), v8 = .int .i64 j ∧ Aside0 (Below w.heap.size w wr) ∧ Aside0 (j ≤ l0.length) ∧ Aside0 (idxA name (l0.drop j) j = idxA name l0 0)) (fun v8 _ => l0.length - (intOf v8).toNat)
 case atStart => exact ⟨0, rfl, ⟨Below.refl _ _⟩, ⟨Nat.zero_le _⟩, ⟨by rw [List.drop_zero]⟩⟩
 case round =>
  obtain ⟨j, rfl, HB, HJ, HE⟩ := hrel
  by_cases hlt : j < l0.length
  ·have hE := HE.out
   rw [idxA_drop name l0 j hlt] at hE
   have hlen : (l0.length : Int) ≤ 9223372036854775807 := by have := HR0.out.2.1; omega
   have hltI : (j : Int) < (l0.length : Int) := Int.ofNat_lt.mpr hlt
   obtain ⟨ad, ea, hx0, hx1⟩ := at_T69 HR0.out (j : Int) (Int.natCast_nonneg j) hltI
   subst ea
   rw [Int.toNat_natCast] at hx0 hx1
   have hy0 := pc_ HB hx0
   have hy1 := pc_ HB hx1
   clear hx0 hx1
   have HCN := am (pc_ HB HC.out)
   have HL := am HB.out.size
   have hq : ((rd_T69 l0 (j : Int)).f0.toList == name.toList) = hasA name l0[j] := by rw [rdA l0 j hlt]; rfl
   by_cases h : hasA name l0[j] = true
   ·rw [if_pos h] at hE
    rw [h] at hq
    have HQ := am hq
    have HE2 := am hE
    clear hq hE h
    go_wp2_with (go_at_call 82; (with_reducible refine (lit_hasAttr_q _ _ name b true _ HQ.out HCN.out).mono ?_); rintro e w1 ⟨rfl, hb1⟩)
    go_ret
    exact ⟨by rw [← HE2.out]; rfl, below_then HB.out HL.out hb1⟩
   ·rw [if_neg h] at hE
    rw [Bool.eq_false_iff.mpr h] at hq
    have HQ := am hq
    have HE2 := am hE
    clear hq hE h
    go_wp2_with (go_at_call 82; (with_reducible refine (lit_hasAttr_q _ _ name b false _ HQ.out HCN.out).mono ?_); rintro e w1 ⟨rfl, hb1⟩)
    go_roundw
    case rel => exact ⟨j + 1, by go_num, ⟨below_then HB.out HL.out hb1⟩, ⟨hlt⟩, HE2⟩
    case measure => simp [intOf]; omega
  ·have hE := HE.out
   rw [List.drop_eq_nil_of_le (by omega)] at hE
   have HE2 := am hE
   clear hE
   go_wp2
   go_ret
   exact ⟨by rw [← HE2.out]; rfl, HB.out⟩
theorem con_hasAttr (A0 : Option Addr) (c0 : Nat) (l0 : List S69) (name : ByteArray) (b : Nat) (w : World) (hr0 : Kd.C k69 w A0 l0.length l0) (hc : w.cell? ⟨b, 0, none⟩ = some (.string name)) :
  Calls Try.prog 81 #[.slice A0 l0.length c0, .func (.func 82) #[] #[.pointer (some ⟨b, 0, none⟩)]] w fun e w' => e = .returned (.bool (l0.any (hasA name))) ∧ Below w.heap.size w w' := by
 have HR0 := am hr0
 have HC := am hc
 clear hr0 hc
 rw [← idxA_any name l0 0]
 go_enter Try.func81, Try.ntmps81
 go_wp2_with (go_at_call 85; (with_reducible refine (idx_hasAttr A0 c0 l0 name b _ HR0.out HC.out).mono ?_); rintro e w1 ⟨rfl, hb1⟩)
 go_ret
 exact ⟨rfl, hb1⟩
theorem impl_hasAttr.calls (A0 : Option Addr) (c0 : Nat) (l0 : List S69) (a1 : ByteArray) (r : Bool) (w : World) (hr0 : Kd.C k69 w A0 l0.length l0) (hc0 : l0.length ≤ c0) (h : impl_hasAttr.f l0 a1 = some r) :
  Calls Try.prog 77 #[.slice A0 l0.length c0, .string a1] w fun e w' => e = .returned (.bool r) ∧ Below w.heap.size w w' := by
 obtain rfl := Option.some.inj h
 clear h
 have HR0 := am hr0
 clear hr0 hc0
 go_enter Try.func77, Try.ntmps77
 go_wp2_with (go_at_call 81; (refine (con_hasAttr A0 c0 l0 a1 w.heap.size _ (Kd.C_below HR0.out ((Below.refl _ w).alloc (Nat.le_refl _) _)) (by rw [Go.Lib.cell_of_heap (show (w.heap.push _)[w.heap.size]? = _ from Array.getElem?_push_size)]; rfl)).mono ?_); rintro e w1 ⟨rfl, hb1⟩)
 go_ret
 exact ⟨rfl, below_then ((Below.refl _ w).alloc (Nat.le_refl _) _) (by show w.heap.size ≤ (w.heap.push _).size; rw [Array.size_push]; omega) hb1⟩
def impl_namesOnce.l0 : Nat → List (S69) → List (S69) → Int → Int → Option (Bool)
 | 0, _, _, _, _ => none
 | k + 1, x0, x5, x6, x7 => if x7 < x6 then (if 0 ≤ x7 then (if x7 < (x5.length : Int) then (if x7 ≤ (x0.length : Int) then ((impl_hasAttr.f (x0.take (x7 : Int).toNat) ((rd_T69 x5 x7).f0)).bind fun t359 => (if t359 = true then (some false) else (impl_namesOnce.l0 k x0 x5 x6 (wrap64 (x7 + 1))))) else (none)) else (none)) else (none)) else (some true)
def impl_namesOnce.f (k : Nat) (l0 : List (S69)) : Option (Bool) := impl_namesOnce.l0 k l0 l0 (l0.length : Int) 0
theorem impl_namesOnce.calls (k : Nat) (A0 : Option Addr) (c0 : Nat) (l0 : List (S69)) (r : Bool) (w : World) (hr0 : Kd.C k69 w A0 l0.length l0) (hc0 : l0.length ≤ c0) (h : impl_namesOnce.f k l0 = some r) :
  Calls Try.prog 72 #[.slice A0 l0.length c0] w fun e w' => e = .returned (.bool r) ∧ Below w.heap.size w w' := by
 have hu69 := Try.underlying69
 have HR0 := am hr0
 have HC0 := am hc0
 clear hr0 hc0
 have HB := am (Below.refl w.heap.size w)
 have H : (impl_namesOnce.l0 k l0 l0 (l0.length : Int) 0) = some r := h
 clear h
 have H' := am H
 clear H
 go_enter Try.func72, Try.ntmps72
 go_wp2
 go_loopg [7] k (fun kq v7 w' => ∃ (x7_1 : Int), v7 = .int .i64 x7_1 ∧ Aside0 (impl_namesOnce.l0 kq l0 l0 (l0.length : Int) x7_1 = some r) ∧ Aside0 (kq ≤ k) ∧ Aside0 (Below w.heap.size w w'))
 case atStart => exact ⟨(0), ab6, H', ⟨Nat.le_refl _⟩, ⟨ab1⟩⟩
 case round =>
  clear H'
  obtain ⟨x7_1, rfl, HA, HK1, HB⟩ := hrel
  cases gk with
  | zero => exact absurd HA.out (by simp [impl_namesOnce.l0])
  | succ k1 =>
   have H := HA.out
   clear HA
   simp only [impl_namesOnce.l0] at H
   replace H := ir_ H; rcases H with ⟨c2b0, H⟩ | ⟨c2b0, H⟩
   ·replace H := iq_ H; obtain ⟨c3b0, H⟩ := H
    replace H := iq_ H; obtain ⟨c4b0, H⟩ := H
    have c5b0 := eq_true (of_decide_eq_true ab4 : 0 ≤ x7_1)
    by_cases c6 : x7_1 ≤ (l0.length : Int)
    case neg => rw [if_neg c6] at H; exact absurd H (by simp)
    rw [if_pos c6] at H
    have c6b0 := eq_true c6
    have c6b1 := decide_eq_true c6
    clear c6
    obtain ⟨y355, hy355⟩ : ∃ y_ : List (S69), y_ = (l0.take (x7_1 : Int).toNat) := ⟨_, rfl⟩
    replace H : ((impl_hasAttr.f y355 ((rd_T69 l0 x7_1).f0)).bind fun t359 => (if t359 = true then (some false) else (impl_namesOnce.l0 k1 l0 l0 (l0.length : Int) (wrap64 (x7_1 + 1))))) = some r := by first | (rw [hy355]; with_reducible exact H) | (have H2_ := (Option.bind_some _ _).symm.trans H; rw [hy355]; with_reducible exact H2_) | (have H2_ := (Option.bind_some _ _).symm.trans H; with_reducible exact H2_) | with_reducible exact H | (rw [hy355]; exact H) | exact H
    have Ny355 := am hy355
    clear hy355
    replace H := bi_ H; obtain ⟨t359, A7, H⟩ := H
    replace H := ib_ H; rcases H with ⟨rfl, H⟩ | ⟨rfl, H⟩
    ·obtain rfl := Option.some.inj H
     have p353 : 0 ≤ (x7_1 : Int) := of_decide_eq_true ab4
     have q353 : x7_1 < (l0.length : Int) := of_decide_eq_true ab4
     obtain ⟨ad353, e353, hx353_0, hx353_1⟩ := at_T69 HR0.out x7_1 p353 q353
     cases e353
     replace hx353_0 := pc_ HB hx353_0
     replace hx353_1 := pc_ HB hx353_1
     replace p353 := eq_true p353
     replace q353 := eq_true q353
     try go_wp2_with (first | ((with_reducible refine gd_ 4 ?_); refine bx_ 4 (cs := #[.string (⟨#[]⟩ : ByteArray), .string (⟨#[]⟩ : ByteArray)]) 69 ?_; intro gb354 hg w9 hbox hb; have BK354 := am hbox; have GW354 := ge_ (w := w) hg; have GE354 := ge_ (w := w) hg; replace HB := am (below_step ab1 hb); clear hb hbox hg; obtain ⟨⟨_, _⟩, _, _⟩ := Op.cells2 BK354.out))
     have n0_ : Aside0 (((w9.setCell ⟨gb354, 0, none⟩ (.string ((rd_T69 l0 x7_1).f0))).setCell ⟨gb354, 1, none⟩ (.string ((rd_T69 l0 x7_1).f1))).heap[gb354]? = some (.cells #[.string ((rd_T69 l0 x7_1).f0), .string ((rd_T69 l0 x7_1).f1)] 69 (0, 0))) := ⟨by (with_reducible repeat (first | refine blk_drewN ?_ _ | refine blk_drew ?_ | refine blk_alloc ?_ _)); refine blk_put (cs := #[.string ((rd_T69 l0 x7_1).f0), .string (⟨#[]⟩ : ByteArray)]) ?_ 1 _ rfl; (with_reducible repeat (first | refine blk_drewN ?_ _ | refine blk_drew ?_ | refine blk_alloc ?_ _)); refine blk_put (cs := #[.string (⟨#[]⟩ : ByteArray), .string (⟨#[]⟩ : ByteArray)]) ?_ 0 _ rfl; (with_reducible repeat (first | refine blk_drewN ?_ _ | refine blk_drew ?_ | refine blk_alloc ?_ _)); exact BK354.out⟩
     have n1_ : Aside0 (Below w.heap.size w ((w9.setCell ⟨gb354, 0, none⟩ (.string ((rd_T69 l0 x7_1).f0))).setCell ⟨gb354, 1, none⟩ (.string ((rd_T69 l0 x7_1).f1)))) := ⟨ab2 GE354⟩
     (try clear BK354)
     (try clear HB)
     generalize ((w9.setCell ⟨gb354, 0, none⟩ (.string ((rd_T69 l0 x7_1).f0))).setCell ⟨gb354, 1, none⟩ (.string ((rd_T69 l0 x7_1).f1))) = w11 at n0_ n1_ ⊢
     have BK354 := n0_
     have HB := n1_
     clear n0_ n1_
     replace BK354 := am (blk_drew BK354.out)
     replace HB := am (below_drew1 HB.out)
     have q13 : (x7_1 : Int) ≤ ((l0.length : Int) : Int) := of_decide_eq_true ab4
     obtain ⟨i013, hi013, _, hsz13, _⟩ := info_parts info69
     have hroom13 : l0.length ≤ c0 := HC0.out
     have hC13 : Kd.C k69 _ (some ad353) l0.length l0 := HR0.out
     have hcut13 := cut_to (P := Try.prog) 36 69 .i64 Try.underlying36 hi013 (some ad353) l0.length c0 x7_1 (of_decide_eq_true ab4) q13 hroom13
     have hr13 := Kd.C_take (m := (x7_1 : Int).toNat) hC13 (by omega)
     have hy13 : y355.length = (x7_1 : Int).toNat := (by rw [Ny355.out, List.length_take]; omega)
     rw [← Ny355.out] at hr13
     rw [← hy13] at hcut13
     have HR358 := am hr13
     have HC358 := am (show y355.length ≤ c0 from by omega)
     clear hr13 hC13 hroom13 hi013 hsz13
     have KY13 := am hy13
     clear hy13
     replace q13 := eq_true q13
     refine start_ (n := 6) (S := fun w' => w'.cell? ⟨gb354, 0, none⟩ = some (.string ((rd_T69 l0 x7_1).f0)) ∧ w'.cell? ⟨gb354, 1, none⟩ = some (.string ((rd_T69 l0 x7_1).f1))) (ds := []) #[false, false, false, false, false, false] (by kernel_rfl) rfl rfl ⟨(blk_cell BK354.out 0).trans rfl, (blk_cell BK354.out 1).trans rfl⟩ (fun hHeld => ?_)
     generalize w11.drew = w12 at BK354 HB HR358 hHeld ⊢
     refine pure_ (i := 0) (N := some 12) (v := ?_) (a' := ?_) #[true, false, false, false, false, false] rfl rfl (by kernel_rfl) (fun _ _ _ h => h) (Or.inl ⟨by rfl, ?_⟩) ?_ ?_
     rotate_left
     ·intro w'
      go_simp
      with_reducible rfl
     rotate_left
     ·simp only [Act.put, List.setIfInBounds_toArray, List.set_cons_zero, List.set_cons_succ, i64_w, i32_w]
      rfl
     refine pure_ (i := 1) (N := some 13) (v := ?_) (a' := ?_) #[true, true, false, false, false, false] rfl rfl (by kernel_rfl) (fun _ _ _ h => h) (Or.inl ⟨by rfl, ?_⟩) ?_ ?_
     rotate_left
     ·intro w'
      go_simp
      with_reducible rfl
     rotate_left
     ·simp only [Act.put, List.setIfInBounds_toArray, List.set_cons_zero, List.set_cons_succ, i64_w, i32_w]
      rfl
     refine pure_ (i := 2) (N := some 14) (v := ?_) (a' := ?_) #[true, true, true, false, false, false] rfl rfl (by kernel_rfl) (fun _ _ _ h => h) (Or.inl ⟨by rfl, ?_⟩) ?_ ?_
     rotate_left
     ·intro w'
      go_simp
      with_reducible rfl
     rotate_left
     ·simp only [Act.put, List.setIfInBounds_toArray, List.set_cons_zero, List.set_cons_succ, i64_w, i32_w]
      rfl
     refine pure_ (i := 3) (N := some 15) (v := ?_) (a' := ?_) #[true, true, true, true, false, false] rfl rfl (by kernel_rfl) (fun _ _ _ h => h) (Or.inl ⟨by rfl, ?_⟩) ?_ ?_
     rotate_left
     ·intro w'
      go_simp
      with_reducible rfl
     rotate_left
     ·simp only [Act.put, List.setIfInBounds_toArray, List.set_cons_zero, List.set_cons_succ, i64_w, i32_w]
      rfl
     refine take_ (i := 4) (N := some 16) (v := ?_) (a' := ?_) #[true, true, true, true, true, false] rfl rfl (by kernel_rfl) (fun _ _ _ h => h) (Or.inl ⟨by rfl, ?_⟩) hHeld ?_ ?_
     rotate_left
     ·rintro w' ⟨s0, s1⟩
      go_simp
      with_reducible rfl
     rotate_left
     ·simp only [Act.put, List.setIfInBounds_toArray, List.set_cons_zero, List.set_cons_succ, i64_w, i32_w]
      rfl
     refine one_ (i := 5) (N := some 17) #[true, true, true, true, true, true] rfl rfl (by kernel_rfl) (by decide) (fun K hK => ?_)
     refine goes_ Try.func77 (by kernel_rfl) rfl #[.slice (some ad353) y355.length c0, .string ((rd_T69 l0 x7_1).f0)] (by rfl) rfl rfl ab5 ?_
     with_reducible refine (impl_hasAttr.calls _ _ y355 ((rd_T69 l0 x7_1).f0) true _ ?side1 ?side2 A7.out).mono ?_
     (case side1 => repeat (first | exact (Kd.C_below HR358.out HB.out) | (with_reducible refine Kd.C_alloc ?_ _) | (with_reducible refine Kd.C_drewN ?_ _) | (with_reducible refine Kd.C_drew ?_)))
     (case side2 => exact HC358.out)
     rintro e w14 ⟨rfl, hb⟩
     refine ⟨_, rfl, ?_⟩
     replace BK354 := bl_ BK354 hb
     replace HB := am (below_step (ab2 GE354) hb)
     (try clear hb)
     (try clear hb2)
     (try clear hk)
     (try clear hi)
     refine hK.out _ _ ⟨(blk_cell BK354.out 0).trans rfl, (blk_cell BK354.out 1).trans rfl⟩ (fun hHeld => ?_)
     clear hK K
     refine nm_ ?_
     refine done_ (by kernel_rfl) ?_
     try go_wp2
     go_ret
     exact ⟨ab7, ab2 GE354⟩
    ·have H' := am H
     clear H
     have p353 : 0 ≤ (x7_1 : Int) := of_decide_eq_true ab4
     have q353 : x7_1 < (l0.length : Int) := of_decide_eq_true ab4
     obtain ⟨ad353, e353, hx353_0, hx353_1⟩ := at_T69 HR0.out x7_1 p353 q353
     cases e353
     replace hx353_0 := pc_ HB hx353_0
     replace hx353_1 := pc_ HB hx353_1
     replace p353 := eq_true p353
     replace q353 := eq_true q353
     try go_wp2_with (first | ((with_reducible refine gd_ 4 ?_); refine bx_ 4 (cs := #[.string (⟨#[]⟩ : ByteArray), .string (⟨#[]⟩ : ByteArray)]) 69 ?_; intro gb354 hg w15 hbox hb; have BK354 := am hbox; have GW354 := ge_ (w := w) hg; have GE354 := ge_ (w := w) hg; replace HB := am (below_step ab1 hb); clear hb hbox hg; obtain ⟨⟨_, _⟩, _, _⟩ := Op.cells2 BK354.out))
     have n0_ : Aside0 (((w15.setCell ⟨gb354, 0, none⟩ (.string ((rd_T69 l0 x7_1).f0))).setCell ⟨gb354, 1, none⟩ (.string ((rd_T69 l0 x7_1).f1))).heap[gb354]? = some (.cells #[.string ((rd_T69 l0 x7_1).f0), .string ((rd_T69 l0 x7_1).f1)] 69 (0, 0))) := ⟨by (with_reducible repeat (first | refine blk_drewN ?_ _ | refine blk_drew ?_ | refine blk_alloc ?_ _)); refine blk_put (cs := #[.string ((rd_T69 l0 x7_1).f0), .string (⟨#[]⟩ : ByteArray)]) ?_ 1 _ rfl; (with_reducible repeat (first | refine blk_drewN ?_ _ | refine blk_drew ?_ | refine blk_alloc ?_ _)); refine blk_put (cs := #[.string (⟨#[]⟩ : ByteArray), .string (⟨#[]⟩ : ByteArray)]) ?_ 0 _ rfl; (with_reducible repeat (first | refine blk_drewN ?_ _ | refine blk_drew ?_ | refine blk_alloc ?_ _)); exact BK354.out⟩
     have n1_ : Aside0 (Below w.heap.size w ((w15.setCell ⟨gb354, 0, none⟩ (.string ((rd_T69 l0 x7_1).f0))).setCell ⟨gb354, 1, none⟩ (.string ((rd_T69 l0 x7_1).f1)))) := ⟨ab2 GE354⟩
     (try clear BK354)
     (try clear HB)
     generalize ((w15.setCell ⟨gb354, 0, none⟩ (.string ((rd_T69 l0 x7_1).f0))).setCell ⟨gb354, 1, none⟩ (.string ((rd_T69 l0 x7_1).f1))) = w17 at n0_ n1_ ⊢
     have BK354 := n0_
     have HB := n1_
     clear n0_ n1_
     replace BK354 := am (blk_drew BK354.out)
     replace HB := am (below_drew1 HB.out)
     have q19 : (x7_1 : Int) ≤ ((l0.length : Int) : Int) := of_decide_eq_true ab4
     obtain ⟨i019, hi019, _, hsz19, _⟩ := info_parts info69
     have hroom19 : l0.length ≤ c0 := HC0.out
     have hC19 : Kd.C k69 _ (some ad353) l0.length l0 := HR0.out
     have hcut19 := cut_to (P := Try.prog) 36 69 .i64 Try.underlying36 hi019 (some ad353) l0.length c0 x7_1 (of_decide_eq_true ab4) q19 hroom19
     have hr19 := Kd.C_take (m := (x7_1 : Int).toNat) hC19 (by omega)
     have hy19 : y355.length = (x7_1 : Int).toNat := (by rw [Ny355.out, List.length_take]; omega)
     rw [← Ny355.out] at hr19
     rw [← hy19] at hcut19
     have HR358 := am hr19
     have HC358 := am (show y355.length ≤ c0 from by omega)
     clear hr19 hC19 hroom19 hi019 hsz19
     have KY19 := am hy19
     clear hy19
     replace q19 := eq_true q19
     refine start_ (n := 6) (S := fun w' => w'.cell? ⟨gb354, 0, none⟩ = some (.string ((rd_T69 l0 x7_1).f0)) ∧ w'.cell? ⟨gb354, 1, none⟩ = some (.string ((rd_T69 l0 x7_1).f1))) (ds := []) #[false, false, false, false, false, false] (by kernel_rfl) rfl rfl ⟨(blk_cell BK354.out 0).trans rfl, (blk_cell BK354.out 1).trans rfl⟩ (fun hHeld => ?_)
     generalize w17.drew = w18 at BK354 HB HR358 hHeld ⊢
     refine pure_ (i := 0) (N := some 12) (v := ?_) (a' := ?_) #[true, false, false, false, false, false] rfl rfl (by kernel_rfl) (fun _ _ _ h => h) (Or.inl ⟨by rfl, ?_⟩) ?_ ?_
     rotate_left
     ·intro w'
      go_simp
      with_reducible rfl
     rotate_left
     ·simp only [Act.put, List.setIfInBounds_toArray, List.set_cons_zero, List.set_cons_succ, i64_w, i32_w]
      rfl
     refine pure_ (i := 1) (N := some 13) (v := ?_) (a' := ?_) #[true, true, false, false, false, false] rfl rfl (by kernel_rfl) (fun _ _ _ h => h) (Or.inl ⟨by rfl, ?_⟩) ?_ ?_
     rotate_left
     ·intro w'
      go_simp
      with_reducible rfl
     rotate_left
     ·simp only [Act.put, List.setIfInBounds_toArray, List.set_cons_zero, List.set_cons_succ, i64_w, i32_w]
      rfl
     refine pure_ (i := 2) (N := some 14) (v := ?_) (a' := ?_) #[true, true, true, false, false, false] rfl rfl (by kernel_rfl) (fun _ _ _ h => h) (Or.inl ⟨by rfl, ?_⟩) ?_ ?_
     rotate_left
     ·intro w'
      go_simp
      with_reducible rfl
     rotate_left
     ·simp only [Act.put, List.setIfInBounds_toArray, List.set_cons_zero, List.set_cons_succ, i64_w, i32_w]
      rfl
     refine pure_ (i := 3) (N := some 15) (v := ?_) (a' := ?_) #[true, true, true, true, false, false] rfl rfl (by kernel_rfl) (fun _ _ _ h => h) (Or.inl ⟨by rfl, ?_⟩) ?_ ?_
     rotate_left
     ·intro w'
      go_simp
      with_reducible rfl
     rotate_left
     ·simp only [Act.put, List.setIfInBounds_toArray, List.set_cons_zero, List.set_cons_succ, i64_w, i32_w]
      rfl
     refine take_ (i := 4) (N := some 16) (v := ?_) (a' := ?_) #[true, true, true, true, true, false] rfl rfl (by kernel_rfl) (fun _ _ _ h => h) (Or.inl ⟨by rfl, ?_⟩) hHeld ?_ ?_
     rotate_left
     ·rintro w' ⟨s0, s1⟩
      go_simp
      with_reducible rfl
     rotate_left
     ·simp only [Act.put, List.setIfInBounds_toArray, List.set_cons_zero, List.set_cons_succ, i64_w, i32_w]
      rfl
     refine one_ (i := 5) (N := some 17) #[true, true, true, true, true, true] rfl rfl (by kernel_rfl) (by decide) (fun K hK => ?_)
     refine goes_ Try.func77 (by kernel_rfl) rfl #[.slice (some ad353) y355.length c0, .string ((rd_T69 l0 x7_1).f0)] (by rfl) rfl rfl ab5 ?_
     with_reducible refine (impl_hasAttr.calls _ _ y355 ((rd_T69 l0 x7_1).f0) false _ ?side1 ?side2 A7.out).mono ?_
     (case side1 => repeat (first | exact (Kd.C_below HR358.out HB.out) | (with_reducible refine Kd.C_alloc ?_ _) | (with_reducible refine Kd.C_drewN ?_ _) | (with_reducible refine Kd.C_drew ?_)))
     (case side2 => exact HC358.out)
     rintro e w20 ⟨rfl, hb⟩
     refine ⟨_, rfl, ?_⟩
     replace BK354 := bl_ BK354 hb
     replace HB := am (below_step (ab2 GE354) hb)
     (try clear hb)
     (try clear hb2)
     (try clear hk)
     (try clear hi)
     refine hK.out _ _ ⟨(blk_cell BK354.out 0).trans rfl, (blk_cell BK354.out 1).trans rfl⟩ (fun hHeld => ?_)
     clear hK K
     refine nm_ ?_
     refine done_ (by kernel_rfl) ?_
     try go_wp2
     go_roundg k1
     case measure => have := HK1.out; omega
     case rel => exact ⟨(wrap64 (x7_1 + 1)), ab6, H', ⟨by have := HK1.out; omega⟩, ⟨ab2 GE354⟩⟩
   ·obtain rfl := Option.some.inj H
    go_wp2
    go_ret
    exact ⟨ab7, ab1⟩
def impl_itemOk.f (k : Nat) (a0_0 : Int) (a0_1 : Int) (a0_2 : ByteArray) (l0_3 : List (S69)) (a0_4 : ByteArray) (a0_5 : Int) (l0_6 : List Int) : Option (Bool) := if a0_0 = 2 then (if a0_4.toList = ([] : List UInt8) then (if a0_2.toList = ([] : List UInt8) then (some false) else ((impl_inRange.f a0_1 0 2).bind fun t361 => (if t361 = true then ((impl_namesOnce.f k l0_3).bind fun t362 => (some t362)) else (some false)))) else (some false)) else (if a0_0 = 3 then (if a0_2.toList = ([] : List UInt8) then (if a0_1 = 0 then (if (l0_3.length : Int) = 0 then (some ((l0_6.length : Int) == 0)) else (some false)) else (some false)) else (some false)) else (if a0_0 = 4 then (if a0_2.toList = ([] : List UInt8) then (if a0_1 = 0 then (if (l0_3.length : Int) = 0 then (some ((l0_6.length : Int) == 0)) else (some false)) else (some false)) else (some false)) else (if a0_0 = 5 then (if a0_2.toList = ([] : List UInt8) then (if a0_1 = 0 then (if (l0_3.length : Int) = 0 then (some ((l0_6.length : Int) == 0)) else (some false)) else (some false)) else (some false)) else (some false))))
theorem impl_itemOk.calls (k : Nat) (a0_0 : Int) (a0_1 : Int) (a0_2 : ByteArray) (A0_3 : Option Addr) (c0_3 : Nat) (l0_3 : List (S69)) (a0_4 : ByteArray) (a0_5 : Int) (A0_6 : Option Addr) (c0_6 : Nat) (l0_6 : List Int) (r : Bool) (w : World) (hr0_3 : Kd.C k69 w A0_3 l0_3.length l0_3) (hc0_3 : l0_3.length ≤ c0_3) (hr0_6 : Kd.C (Kd.int .i64) w A0_6 l0_6.length l0_6) (hc0_6 : l0_6.length ≤ c0_6) (h : impl_itemOk.f k a0_0 a0_1 a0_2 l0_3 a0_4 a0_5 l0_6 = some r) :
  Calls Try.prog 52 #[.agg #[.int .i64 a0_0, .int .i64 a0_1, .string a0_2, .slice A0_3 l0_3.length c0_3, .string a0_4, .int .i64 a0_5, .slice A0_6 l0_6.length c0_6]] w fun e w' => e = .returned (.bool r) ∧ Below w.heap.size w w' := by
 have hu38 := Try.underlying38
 have HR0_3 := am hr0_3
 have HC0_3 := am hc0_3
 clear hr0_3 hc0_3
 have HR0_6 := am hr0_6
 have HC0_6 := am hc0_6
 clear hr0_6 hc0_6
 have HB := am (Below.refl w.heap.size w)
 have H : (if a0_0 = 2 then (if a0_4.toList = ([] : List UInt8) then (if a0_2.toList = ([] : List UInt8) then (some false) else ((impl_inRange.f a0_1 0 2).bind fun t361 => (if t361 = true then ((impl_namesOnce.f k l0_3).bind fun t362 => (some t362)) else (some false)))) else (some false)) else (if a0_0 = 3 then (if a0_2.toList = ([] : List UInt8) then (if a0_1 = 0 then (if (l0_3.length : Int) = 0 then (some ((l0_6.length : Int) == 0)) else (some false)) else (some false)) else (some false)) else (if a0_0 = 4 then (if a0_2.toList = ([] : List UInt8) then (if a0_1 = 0 then (if (l0_3.length : Int) = 0 then (some ((l0_6.length : Int) == 0)) else (some false)) else (some false)) else (some false)) else (if a0_0 = 5 then (if a0_2.toList = ([] : List UInt8) then (if a0_1 = 0 then (if (l0_3.length : Int) = 0 then (some ((l0_6.length : Int) == 0)) else (some false)) else (some false)) else (some false)) else (some false))))) = some r := h
 clear h
 replace H := ie_ H; rcases H with ⟨c2b0, c2b1, H⟩ | ⟨c2, c2b0, c2b1, H⟩
 ·replace H := ie_ H; rcases H with ⟨c3b0, c3b1, H⟩ | ⟨c3, c3b0, c3b1, H⟩
  ·replace H := ie_ H; rcases H with ⟨c4b0, c4b1, H⟩ | ⟨c4, c4b0, c4b1, H⟩
   ·obtain rfl := Option.some.inj H
    go_enter Try.func52, Try.ntmps52
    go_wp2_with (first | ((with_reducible refine gd_ 1 ?_); (try (refine gate_guard (by rfl) ?_; dsimp only)); refine bx_ 1 (cs := #[.int .i64 a0_0, .int .i64 a0_1, .string a0_2, .slice A0_3 l0_3.length c0_3, .string a0_4, .int .i64 a0_5, .slice A0_6 l0_6.length c0_6]) 38 ?_; intro gb360 hg w5 hbox hb; have BK360 := am hbox; have GW360 := ge_ (w := w) hg; have GE360 := ge_ (w := w) hg; replace HB := am (below_step ab1 hb); clear hb hbox hg; obtain ⟨⟨_, _, _, _, _, _, _⟩, _, _, _, _, _, _, _⟩ := Op.cells7 BK360.out))
    go_ret
    exact ⟨ab7, ab2 GE360⟩
   ·replace H := bi_ H; obtain ⟨t361, A7, H⟩ := H
    replace H := ib_ H; rcases H with ⟨rfl, H⟩ | ⟨rfl, H⟩
    ·replace H := bi_ H; obtain ⟨t362, A9, H⟩ := H
     obtain rfl := Option.some.inj H
     go_enter Try.func52, Try.ntmps52
     go_wp2_with (first | ((with_reducible refine gd_ 1 ?_); (try (refine gate_guard (by rfl) ?_; dsimp only)); refine bx_ 1 (cs := #[.int .i64 a0_0, .int .i64 a0_1, .string a0_2, .slice A0_3 l0_3.length c0_3, .string a0_4, .int .i64 a0_5, .slice A0_6 l0_6.length c0_6]) 38 ?_; intro gb360 hg w10 hbox hb; have BK360 := am hbox; have GW360 := ge_ (w := w) hg; have GE360 := ge_ (w := w) hg; replace HB := am (below_step ab1 hb); clear hb hbox hg; obtain ⟨⟨_, _, _, _, _, _, _⟩, _, _, _, _, _, _, _⟩ := Op.cells7 BK360.out) | (go_at_call 66; (with_reducible refine (impl_inRange.calls a0_1 0 2 true _ A7.out).mono ?_); rintro e w' ⟨rfl, ⟨nd, rfl⟩⟩) | (go_at_call 72; (with_reducible refine (impl_namesOnce.calls k _ _ l0_3 t362 _ ?side1 ?side2 A9.out).mono ?_); (case side1 => repeat (first | exact (Kd.C_below HR0_3.out (ab2 GE360)) | (with_reducible refine Kd.C_alloc ?_ _) | (with_reducible refine Kd.C_drewN ?_ _) | (with_reducible refine Kd.C_drew ?_))); (case side2 => exact HC0_3.out); rintro e w12 ⟨rfl, hb⟩; replace BK360 := bl_ BK360 hb; replace HB := am (below_step (ab2 GE360) hb); (try clear hb); (try clear hb2); (try clear hk); (try clear hi)))
     go_ret
     exact ⟨ab7, ab2 GE360⟩
    ·obtain rfl := Option.some.inj H
     go_enter Try.func52, Try.ntmps52
     go_wp2_with (first | ((with_reducible refine gd_ 1 ?_); (try (refine gate_guard (by rfl) ?_; dsimp only)); refine bx_ 1 (cs := #[.int .i64 a0_0, .int .i64 a0_1, .string a0_2, .slice A0_3 l0_3.length c0_3, .string a0_4, .int .i64 a0_5, .slice A0_6 l0_6.length c0_6]) 38 ?_; intro gb360 hg w13 hbox hb; have BK360 := am hbox; have GW360 := ge_ (w := w) hg; have GE360 := ge_ (w := w) hg; replace HB := am (below_step ab1 hb); clear hb hbox hg; obtain ⟨⟨_, _, _, _, _, _, _⟩, _, _, _, _, _, _, _⟩ := Op.cells7 BK360.out) | (go_at_call 66; (with_reducible refine (impl_inRange.calls a0_1 0 2 false _ A7.out).mono ?_); rintro e w' ⟨rfl, ⟨nd, rfl⟩⟩))
     go_ret
     exact ⟨ab7, ab2 GE360⟩
  ·obtain rfl := Option.some.inj H
   go_enter Try.func52, Try.ntmps52
   go_wp2_with (first | ((with_reducible refine gd_ 1 ?_); (try (refine gate_guard (by rfl) ?_; dsimp only)); refine bx_ 1 (cs := #[.int .i64 a0_0, .int .i64 a0_1, .string a0_2, .slice A0_3 l0_3.length c0_3, .string a0_4, .int .i64 a0_5, .slice A0_6 l0_6.length c0_6]) 38 ?_; intro gb360 hg w15 hbox hb; have BK360 := am hbox; have GW360 := ge_ (w := w) hg; have GE360 := ge_ (w := w) hg; replace HB := am (below_step ab1 hb); clear hb hbox hg; obtain ⟨⟨_, _, _, _, _, _, _⟩, _, _, _, _, _, _, _⟩ := Op.cells7 BK360.out))
   go_ret
   exact ⟨ab7, ab2 GE360⟩
 ·replace H := ie_ H; rcases H with ⟨c17b0, c17b1, H⟩ | ⟨c17, c17b0, c17b1, H⟩
  ·replace H := ie_ H; rcases H with ⟨c18b0, c18b1, H⟩ | ⟨c18, c18b0, c18b1, H⟩
   ·replace H := ie_ H; rcases H with ⟨c19b0, c19b1, H⟩ | ⟨c19, c19b0, c19b1, H⟩
    ·replace H := ie_ H; rcases H with ⟨c20b0, c20b1, H⟩ | ⟨c20, c20b0, c20b1, H⟩
     ·obtain rfl := Option.some.inj H
      go_enter Try.func52, Try.ntmps52
      go_wp2_with (first | ((with_reducible refine gd_ 1 ?_); (try (refine gate_guard (by rfl) ?_; dsimp only)); refine bx_ 1 (cs := #[.int .i64 a0_0, .int .i64 a0_1, .string a0_2, .slice A0_3 l0_3.length c0_3, .string a0_4, .int .i64 a0_5, .slice A0_6 l0_6.length c0_6]) 38 ?_; intro gb360 hg w21 hbox hb; have BK360 := am hbox; have GW360 := ge_ (w := w) hg; have GE360 := ge_ (w := w) hg; replace HB := am (below_step ab1 hb); clear hb hbox hg; obtain ⟨⟨_, _, _, _, _, _, _⟩, _, _, _, _, _, _, _⟩ := Op.cells7 BK360.out))
      go_ret
      exact ⟨ab7, ab2 GE360⟩
     ·have c20b2 : ¬ (l0_3 = []) := fun h_ => c20 (by rw [h_]; rfl)
      obtain rfl := Option.some.inj H
      go_enter Try.func52, Try.ntmps52
      go_wp2_with (first | ((with_reducible refine gd_ 1 ?_); (try (refine gate_guard (by rfl) ?_; dsimp only)); refine bx_ 1 (cs := #[.int .i64 a0_0, .int .i64 a0_1, .string a0_2, .slice A0_3 l0_3.length c0_3, .string a0_4, .int .i64 a0_5, .slice A0_6 l0_6.length c0_6]) 38 ?_; intro gb360 hg w23 hbox hb; have BK360 := am hbox; have GW360 := ge_ (w := w) hg; have GE360 := ge_ (w := w) hg; replace HB := am (below_step ab1 hb); clear hb hbox hg; obtain ⟨⟨_, _, _, _, _, _, _⟩, _, _, _, _, _, _, _⟩ := Op.cells7 BK360.out))
      go_ret
      exact ⟨ab7, ab2 GE360⟩
    ·obtain rfl := Option.some.inj H
     go_enter Try.func52, Try.ntmps52
     go_wp2_with (first | ((with_reducible refine gd_ 1 ?_); (try (refine gate_guard (by rfl) ?_; dsimp only)); refine bx_ 1 (cs := #[.int .i64 a0_0, .int .i64 a0_1, .string a0_2, .slice A0_3 l0_3.length c0_3, .string a0_4, .int .i64 a0_5, .slice A0_6 l0_6.length c0_6]) 38 ?_; intro gb360 hg w25 hbox hb; have BK360 := am hbox; have GW360 := ge_ (w := w) hg; have GE360 := ge_ (w := w) hg; replace HB := am (below_step ab1 hb); clear hb hbox hg; obtain ⟨⟨_, _, _, _, _, _, _⟩, _, _, _, _, _, _, _⟩ := Op.cells7 BK360.out))
     go_ret
     exact ⟨ab7, ab2 GE360⟩
   ·obtain rfl := Option.some.inj H
    go_enter Try.func52, Try.ntmps52
    go_wp2_with (first | ((with_reducible refine gd_ 1 ?_); (try (refine gate_guard (by rfl) ?_; dsimp only)); refine bx_ 1 (cs := #[.int .i64 a0_0, .int .i64 a0_1, .string a0_2, .slice A0_3 l0_3.length c0_3, .string a0_4, .int .i64 a0_5, .slice A0_6 l0_6.length c0_6]) 38 ?_; intro gb360 hg w27 hbox hb; have BK360 := am hbox; have GW360 := ge_ (w := w) hg; have GE360 := ge_ (w := w) hg; replace HB := am (below_step ab1 hb); clear hb hbox hg; obtain ⟨⟨_, _, _, _, _, _, _⟩, _, _, _, _, _, _, _⟩ := Op.cells7 BK360.out))
    go_ret
    exact ⟨ab7, ab2 GE360⟩
  ·replace H := ie_ H; rcases H with ⟨c29b0, c29b1, H⟩ | ⟨c29, c29b0, c29b1, H⟩
   ·replace H := ie_ H; rcases H with ⟨c30b0, c30b1, H⟩ | ⟨c30, c30b0, c30b1, H⟩
    ·replace H := ie_ H; rcases H with ⟨c31b0, c31b1, H⟩ | ⟨c31, c31b0, c31b1, H⟩
     ·replace H := ie_ H; rcases H with ⟨c32b0, c32b1, H⟩ | ⟨c32, c32b0, c32b1, H⟩
      ·obtain rfl := Option.some.inj H
       go_enter Try.func52, Try.ntmps52
       go_wp2_with (first | ((with_reducible refine gd_ 1 ?_); (try (refine gate_guard (by rfl) ?_; dsimp only)); refine bx_ 1 (cs := #[.int .i64 a0_0, .int .i64 a0_1, .string a0_2, .slice A0_3 l0_3.length c0_3, .string a0_4, .int .i64 a0_5, .slice A0_6 l0_6.length c0_6]) 38 ?_; intro gb360 hg w33 hbox hb; have BK360 := am hbox; have GW360 := ge_ (w := w) hg; have GE360 := ge_ (w := w) hg; replace HB := am (below_step ab1 hb); clear hb hbox hg; obtain ⟨⟨_, _, _, _, _, _, _⟩, _, _, _, _, _, _, _⟩ := Op.cells7 BK360.out))
       go_ret
       exact ⟨ab7, ab2 GE360⟩
      ·have c32b2 : ¬ (l0_3 = []) := fun h_ => c32 (by rw [h_]; rfl)
       obtain rfl := Option.some.inj H
       go_enter Try.func52, Try.ntmps52
       go_wp2_with (first | ((with_reducible refine gd_ 1 ?_); (try (refine gate_guard (by rfl) ?_; dsimp only)); refine bx_ 1 (cs := #[.int .i64 a0_0, .int .i64 a0_1, .string a0_2, .slice A0_3 l0_3.length c0_3, .string a0_4, .int .i64 a0_5, .slice A0_6 l0_6.length c0_6]) 38 ?_; intro gb360 hg w35 hbox hb; have BK360 := am hbox; have GW360 := ge_ (w := w) hg; have GE360 := ge_ (w := w) hg; replace HB := am (below_step ab1 hb); clear hb hbox hg; obtain ⟨⟨_, _, _, _, _, _, _⟩, _, _, _, _, _, _, _⟩ := Op.cells7 BK360.out))
       go_ret
       exact ⟨ab7, ab2 GE360⟩
     ·obtain rfl := Option.some.inj H
      go_enter Try.func52, Try.ntmps52
      go_wp2_with (first | ((with_reducible refine gd_ 1 ?_); (try (refine gate_guard (by rfl) ?_; dsimp only)); refine bx_ 1 (cs := #[.int .i64 a0_0, .int .i64 a0_1, .string a0_2, .slice A0_3 l0_3.length c0_3, .string a0_4, .int .i64 a0_5, .slice A0_6 l0_6.length c0_6]) 38 ?_; intro gb360 hg w37 hbox hb; have BK360 := am hbox; have GW360 := ge_ (w := w) hg; have GE360 := ge_ (w := w) hg; replace HB := am (below_step ab1 hb); clear hb hbox hg; obtain ⟨⟨_, _, _, _, _, _, _⟩, _, _, _, _, _, _, _⟩ := Op.cells7 BK360.out))
      go_ret
      exact ⟨ab7, ab2 GE360⟩
    ·obtain rfl := Option.some.inj H
     go_enter Try.func52, Try.ntmps52
     go_wp2_with (first | ((with_reducible refine gd_ 1 ?_); (try (refine gate_guard (by rfl) ?_; dsimp only)); refine bx_ 1 (cs := #[.int .i64 a0_0, .int .i64 a0_1, .string a0_2, .slice A0_3 l0_3.length c0_3, .string a0_4, .int .i64 a0_5, .slice A0_6 l0_6.length c0_6]) 38 ?_; intro gb360 hg w39 hbox hb; have BK360 := am hbox; have GW360 := ge_ (w := w) hg; have GE360 := ge_ (w := w) hg; replace HB := am (below_step ab1 hb); clear hb hbox hg; obtain ⟨⟨_, _, _, _, _, _, _⟩, _, _, _, _, _, _, _⟩ := Op.cells7 BK360.out))
     go_ret
     exact ⟨ab7, ab2 GE360⟩
   ·replace H := ie_ H; rcases H with ⟨c41b0, c41b1, H⟩ | ⟨c41, c41b0, c41b1, H⟩
    ·replace H := ie_ H; rcases H with ⟨c42b0, c42b1, H⟩ | ⟨c42, c42b0, c42b1, H⟩
     ·replace H := ie_ H; rcases H with ⟨c43b0, c43b1, H⟩ | ⟨c43, c43b0, c43b1, H⟩
      ·replace H := ie_ H; rcases H with ⟨c44b0, c44b1, H⟩ | ⟨c44, c44b0, c44b1, H⟩
       ·obtain rfl := Option.some.inj H
        go_enter Try.func52, Try.ntmps52
        go_wp2_with (first | ((with_reducible refine gd_ 1 ?_); (try (refine gate_guard (by rfl) ?_; dsimp only)); refine bx_ 1 (cs := #[.int .i64 a0_0, .int .i64 a0_1, .string a0_2, .slice A0_3 l0_3.length c0_3, .string a0_4, .int .i64 a0_5, .slice A0_6 l0_6.length c0_6]) 38 ?_; intro gb360 hg w45 hbox hb; have BK360 := am hbox; have GW360 := ge_ (w := w) hg; have GE360 := ge_ (w := w) hg; replace HB := am (below_step ab1 hb); clear hb hbox hg; obtain ⟨⟨_, _, _, _, _, _, _⟩, _, _, _, _, _, _, _⟩ := Op.cells7 BK360.out))
        go_ret
        exact ⟨ab7, ab2 GE360⟩
       ·have c44b2 : ¬ (l0_3 = []) := fun h_ => c44 (by rw [h_]; rfl)
        obtain rfl := Option.some.inj H
        go_enter Try.func52, Try.ntmps52
        go_wp2_with (first | ((with_reducible refine gd_ 1 ?_); (try (refine gate_guard (by rfl) ?_; dsimp only)); refine bx_ 1 (cs := #[.int .i64 a0_0, .int .i64 a0_1, .string a0_2, .slice A0_3 l0_3.length c0_3, .string a0_4, .int .i64 a0_5, .slice A0_6 l0_6.length c0_6]) 38 ?_; intro gb360 hg w47 hbox hb; have BK360 := am hbox; have GW360 := ge_ (w := w) hg; have GE360 := ge_ (w := w) hg; replace HB := am (below_step ab1 hb); clear hb hbox hg; obtain ⟨⟨_, _, _, _, _, _, _⟩, _, _, _, _, _, _, _⟩ := Op.cells7 BK360.out))
        go_ret
        exact ⟨ab7, ab2 GE360⟩
      ·obtain rfl := Option.some.inj H
       go_enter Try.func52, Try.ntmps52
       go_wp2_with (first | ((with_reducible refine gd_ 1 ?_); (try (refine gate_guard (by rfl) ?_; dsimp only)); refine bx_ 1 (cs := #[.int .i64 a0_0, .int .i64 a0_1, .string a0_2, .slice A0_3 l0_3.length c0_3, .string a0_4, .int .i64 a0_5, .slice A0_6 l0_6.length c0_6]) 38 ?_; intro gb360 hg w49 hbox hb; have BK360 := am hbox; have GW360 := ge_ (w := w) hg; have GE360 := ge_ (w := w) hg; replace HB := am (below_step ab1 hb); clear hb hbox hg; obtain ⟨⟨_, _, _, _, _, _, _⟩, _, _, _, _, _, _, _⟩ := Op.cells7 BK360.out))
       go_ret
       exact ⟨ab7, ab2 GE360⟩
     ·obtain rfl := Option.some.inj H
      go_enter Try.func52, Try.ntmps52
      go_wp2_with (first | ((with_reducible refine gd_ 1 ?_); (try (refine gate_guard (by rfl) ?_; dsimp only)); refine bx_ 1 (cs := #[.int .i64 a0_0, .int .i64 a0_1, .string a0_2, .slice A0_3 l0_3.length c0_3, .string a0_4, .int .i64 a0_5, .slice A0_6 l0_6.length c0_6]) 38 ?_; intro gb360 hg w51 hbox hb; have BK360 := am hbox; have GW360 := ge_ (w := w) hg; have GE360 := ge_ (w := w) hg; replace HB := am (below_step ab1 hb); clear hb hbox hg; obtain ⟨⟨_, _, _, _, _, _, _⟩, _, _, _, _, _, _, _⟩ := Op.cells7 BK360.out))
      go_ret
      exact ⟨ab7, ab2 GE360⟩
    ·obtain rfl := Option.some.inj H
     go_enter Try.func52, Try.ntmps52
     go_wp2_with (first | ((with_reducible refine gd_ 1 ?_); (try (refine gate_guard (by rfl) ?_; dsimp only)); refine bx_ 1 (cs := #[.int .i64 a0_0, .int .i64 a0_1, .string a0_2, .slice A0_3 l0_3.length c0_3, .string a0_4, .int .i64 a0_5, .slice A0_6 l0_6.length c0_6]) 38 ?_; intro gb360 hg w53 hbox hb; have BK360 := am hbox; have GW360 := ge_ (w := w) hg; have GE360 := ge_ (w := w) hg; replace HB := am (below_step ab1 hb); clear hb hbox hg; obtain ⟨⟨_, _, _, _, _, _, _⟩, _, _, _, _, _, _, _⟩ := Op.cells7 BK360.out))
     go_ret
     exact ⟨ab7, ab2 GE360⟩
def impl_pageOk.f (a0_0 : Int) (a0_1 : Int) (a0_2 : ByteArray) (l0_3 : List (S69)) (a0_4 : ByteArray) (a0_5 : Int) (l0_6 : List Int) : Option (Bool) := if a0_0 = 1 then (if a0_5 = (-1) then (if a0_2.toList = ([] : List UInt8) then (if (l0_3.length : Int) = 0 then (if a0_1 = 0 then (some (a0_4.toList == ([] : List UInt8))) else (some false)) else (some false)) else (some false)) else (some false)) else (some false)
theorem impl_pageOk.calls (a0_0 : Int) (a0_1 : Int) (a0_2 : ByteArray) (A0_3 : Option Addr) (c0_3 : Nat) (l0_3 : List (S69)) (a0_4 : ByteArray) (a0_5 : Int) (A0_6 : Option Addr) (c0_6 : Nat) (l0_6 : List Int) (r : Bool) (w : World) (hr0_3 : Kd.C k69 w A0_3 l0_3.length l0_3) (hc0_3 : l0_3.length ≤ c0_3) (hr0_6 : Kd.C (Kd.int .i64) w A0_6 l0_6.length l0_6) (hc0_6 : l0_6.length ≤ c0_6) (h : impl_pageOk.f a0_0 a0_1 a0_2 l0_3 a0_4 a0_5 l0_6 = some r) :
  Calls Try.prog 68 #[.agg #[.int .i64 a0_0, .int .i64 a0_1, .string a0_2, .slice A0_3 l0_3.length c0_3, .string a0_4, .int .i64 a0_5, .slice A0_6 l0_6.length c0_6]] w fun e w' => e = .returned (.bool r) ∧ Below w.heap.size w w' := by
 have hu38 := Try.underlying38
 have HR0_3 := am hr0_3
 have HC0_3 := am hc0_3
 clear hr0_3 hc0_3
 have HR0_6 := am hr0_6
 have HC0_6 := am hc0_6
 clear hr0_6 hc0_6
 have HB := am (Below.refl w.heap.size w)
 have H : (if a0_0 = 1 then (if a0_5 = (-1) then (if a0_2.toList = ([] : List UInt8) then (if (l0_3.length : Int) = 0 then (if a0_1 = 0 then (some (a0_4.toList == ([] : List UInt8))) else (some false)) else (some false)) else (some false)) else (some false)) else (some false)) = some r := h
 clear h
 replace H := ie_ H; rcases H with ⟨c2b0, c2b1, H⟩ | ⟨c2, c2b0, c2b1, H⟩
 ·replace H := ie_ H; rcases H with ⟨c3b0, c3b1, H⟩ | ⟨c3, c3b0, c3b1, H⟩
  ·replace H := ie_ H; rcases H with ⟨c4b0, c4b1, H⟩ | ⟨c4, c4b0, c4b1, H⟩
   ·replace H := ie_ H; rcases H with ⟨c5b0, c5b1, H⟩ | ⟨c5, c5b0, c5b1, H⟩
    ·replace H := ie_ H; rcases H with ⟨c6b0, c6b1, H⟩ | ⟨c6, c6b0, c6b1, H⟩
     ·obtain rfl := Option.some.inj H
      go_enter Try.func68, Try.ntmps68
      go_wp2_with (first | ((with_reducible refine gd_ 1 ?_); (try (refine gate_guard (by rfl) ?_; dsimp only)); refine bx_ 1 (cs := #[.int .i64 a0_0, .int .i64 a0_1, .string a0_2, .slice A0_3 l0_3.length c0_3, .string a0_4, .int .i64 a0_5, .slice A0_6 l0_6.length c0_6]) 38 ?_; intro gb363 hg w7 hbox hb; have BK363 := am hbox; have GW363 := ge_ (w := w) hg; have GE363 := ge_ (w := w) hg; replace HB := am (below_step ab1 hb); clear hb hbox hg; obtain ⟨⟨_, _, _, _, _, _, _⟩, _, _, _, _, _, _, _⟩ := Op.cells7 BK363.out))
      go_ret
      exact ⟨ab7, ab2 GE363⟩
     ·obtain rfl := Option.some.inj H
      go_enter Try.func68, Try.ntmps68
      go_wp2_with (first | ((with_reducible refine gd_ 1 ?_); (try (refine gate_guard (by rfl) ?_; dsimp only)); refine bx_ 1 (cs := #[.int .i64 a0_0, .int .i64 a0_1, .string a0_2, .slice A0_3 l0_3.length c0_3, .string a0_4, .int .i64 a0_5, .slice A0_6 l0_6.length c0_6]) 38 ?_; intro gb363 hg w9 hbox hb; have BK363 := am hbox; have GW363 := ge_ (w := w) hg; have GE363 := ge_ (w := w) hg; replace HB := am (below_step ab1 hb); clear hb hbox hg; obtain ⟨⟨_, _, _, _, _, _, _⟩, _, _, _, _, _, _, _⟩ := Op.cells7 BK363.out))
      go_ret
      exact ⟨ab7, ab2 GE363⟩
    ·have c5b2 : ¬ (l0_3 = []) := fun h_ => c5 (by rw [h_]; rfl)
     obtain rfl := Option.some.inj H
     go_enter Try.func68, Try.ntmps68
     go_wp2_with (first | ((with_reducible refine gd_ 1 ?_); (try (refine gate_guard (by rfl) ?_; dsimp only)); refine bx_ 1 (cs := #[.int .i64 a0_0, .int .i64 a0_1, .string a0_2, .slice A0_3 l0_3.length c0_3, .string a0_4, .int .i64 a0_5, .slice A0_6 l0_6.length c0_6]) 38 ?_; intro gb363 hg w11 hbox hb; have BK363 := am hbox; have GW363 := ge_ (w := w) hg; have GE363 := ge_ (w := w) hg; replace HB := am (below_step ab1 hb); clear hb hbox hg; obtain ⟨⟨_, _, _, _, _, _, _⟩, _, _, _, _, _, _, _⟩ := Op.cells7 BK363.out))
     go_ret
     exact ⟨ab7, ab2 GE363⟩
   ·obtain rfl := Option.some.inj H
    go_enter Try.func68, Try.ntmps68
    go_wp2_with (first | ((with_reducible refine gd_ 1 ?_); (try (refine gate_guard (by rfl) ?_; dsimp only)); refine bx_ 1 (cs := #[.int .i64 a0_0, .int .i64 a0_1, .string a0_2, .slice A0_3 l0_3.length c0_3, .string a0_4, .int .i64 a0_5, .slice A0_6 l0_6.length c0_6]) 38 ?_; intro gb363 hg w13 hbox hb; have BK363 := am hbox; have GW363 := ge_ (w := w) hg; have GE363 := ge_ (w := w) hg; replace HB := am (below_step ab1 hb); clear hb hbox hg; obtain ⟨⟨_, _, _, _, _, _, _⟩, _, _, _, _, _, _, _⟩ := Op.cells7 BK363.out))
    go_ret
    exact ⟨ab7, ab2 GE363⟩
  ·obtain rfl := Option.some.inj H
   go_enter Try.func68, Try.ntmps68
   go_wp2_with (first | ((with_reducible refine gd_ 1 ?_); (try (refine gate_guard (by rfl) ?_; dsimp only)); refine bx_ 1 (cs := #[.int .i64 a0_0, .int .i64 a0_1, .string a0_2, .slice A0_3 l0_3.length c0_3, .string a0_4, .int .i64 a0_5, .slice A0_6 l0_6.length c0_6]) 38 ?_; intro gb363 hg w15 hbox hb; have BK363 := am hbox; have GW363 := ge_ (w := w) hg; have GE363 := ge_ (w := w) hg; replace HB := am (below_step ab1 hb); clear hb hbox hg; obtain ⟨⟨_, _, _, _, _, _, _⟩, _, _, _, _, _, _, _⟩ := Op.cells7 BK363.out))
   go_ret
   exact ⟨ab7, ab2 GE363⟩
 ·obtain rfl := Option.some.inj H
  go_enter Try.func68, Try.ntmps68
  go_wp2_with (first | ((with_reducible refine gd_ 1 ?_); (try (refine gate_guard (by rfl) ?_; dsimp only)); refine bx_ 1 (cs := #[.int .i64 a0_0, .int .i64 a0_1, .string a0_2, .slice A0_3 l0_3.length c0_3, .string a0_4, .int .i64 a0_5, .slice A0_6 l0_6.length c0_6]) 38 ?_; intro gb363 hg w17 hbox hb; have BK363 := am hbox; have GW363 := ge_ (w := w) hg; have GE363 := ge_ (w := w) hg; replace HB := am (below_step ab1 hb); clear hb hbox hg; obtain ⟨⟨_, _, _, _, _, _, _⟩, _, _, _, _, _, _, _⟩ := Op.cells7 BK363.out))
  go_ret
  exact ⟨ab7, ab2 GE363⟩
def impl_hasKids.f (a0 : Int) : Option (Bool) := if a0 = 1 then (some true) else (some (a0 == 2))
theorem impl_hasKids.calls (a0 : Int) (r : Bool) (w : World) (h : impl_hasKids.f a0 = some r) :
  Calls Try.prog 69 #[.int .i64 a0] w fun e w' => e = .returned (.bool r) ∧ Drawn0 w w' := by
 have H : (if a0 = 1 then (some true) else (some (a0 == 2))) = some r := h
 clear h
 replace H := ie_ H; rcases H with ⟨c2b0, c2b1, H⟩ | ⟨c2, c2b0, c2b1, H⟩
 ·obtain rfl := Option.some.inj H
  go_enter Try.func69, Try.ntmps69
  go_wp2
  go_ret
  exact ⟨ab6, by repeat (first | exact Drawn0.refl _ | apply Drawn0.step)⟩
 ·obtain rfl := Option.some.inj H
  go_enter Try.func69, Try.ntmps69
  go_wp2
  go_ret
  exact ⟨ab6, by repeat (first | exact Drawn0.refl _ | apply Drawn0.step)⟩
def impl_Page_putIn.f (k : Nat) (s0 : List S38) (s1 s2 : List Int) (h b : Int) (a0 a1 : Int) (a2 : ByteArray) (l3 : List S69) (a4 : ByteArray) (a5 : Int) : Option (List S38) :=
 (impl_Page_hasRoom.f s0 s1 s2 h b).bind fun t => if t.1 = true then (impl_itemOk.f k a0 a1 a2 l3 a4 a5 []).bind fun u => if u = true then (impl_Page_last.f s0 s1 s2 h b).bind fun v => (impl_hang.f s0 v.1 (-1) a0 a1 a2 l3 a4).bind fun z => some z.1 else some s0 else some s0
theorem impl_Page_putIn.calls (k : Nat) (U : Nat → Prop) (g : Nat) (s0 : List S38) (s1 s2 : List Int) (h b : Int) (a0 a1 : Int) (a2 : ByteArray) (A3 : Option Addr) (c3 : Nat) (l3 : List S69) (a4 : ByteArray) (a5 : Int) (A6 : Option Addr) (n6 c6 : Nat) (r : List S38) (w0 w : World) (hP : PgS w0.heap.size w U g s0 s1 s2 h b) (hB : Below w0.heap.size w0 w) (hr3 : Kd.C k69 w A3 l3.length l3) (hc3 : l3.length ≤ c3) (H : impl_Page_putIn.f k s0 s1 s2 h b a0 a1 a2 l3 a4 a5 = some r) :
  Calls Try.prog 27 #[.pointer (some ⟨g, 0, none⟩), .agg #[.int .i64 a0, .int .i64 a1, .string a2, .slice A3 l3.length c3, .string a4, .int .i64 a5, .slice A6 n6 c6]] w fun e w' => e = .returned (.tuple #[]) ∧ PgS w0.heap.size w' (fun k => U k ∨ w.heap.size ≤ k) g r s1 s2 h b ∧ Below w0.heap.size w0 w' ∧ Kept w w' (fun k => U k ∨ k = g) := by
 unfold impl_Page_putIn.f at H
 obtain ⟨⟨t, t3, t4⟩, ht, H⟩ := Option.bind_eq_some_iff.mp H
 dsimp only at H
 obtain ⟨v0, v1, v2, hg, hgb, hU, hO⟩ := hP
 obtain ⟨A0, c0, A1, c1, A2, c2, rfl, rfl, rfl, R0, R1, R2⟩ := hO.slices
 have HO := am (hO.bound.mono (U' := fun k => U k ∧ k < w.heap.size) (fun k hk => ⟨hk.1, hk.2.2⟩))
 have HU : Aside0 (∀ k, U k ∧ k < w.heap.size → k ≠ g) := ⟨fun k hk => hU k hk.1⟩
 have HUU := am hU
 have HGL := am (blk_lt hg)
 have BG := am hg
 have HGB := am hgb
 have HP : Aside0 (PgS w0.heap.size w (fun k => U k ∧ k < w.heap.size) g s0 s1 s2 h b) := ⟨⟨_, _, _, hg, hgb, HU.out, HO.out⟩⟩
 have HB := am hB
 have HX := am (Below.refl w.heap.size w)
 have HR3 := am hr3
 have HC3 := am hc3
 have AT := am ht
 clear hO hg hgb hU hB hr3 hc3 R0 R1 R2 ht
 have HEND : Aside0 (∀ k, U k ∨ w.heap.size ≤ k → k ≠ g) := ⟨fun k hk => hk.elim (fun q => HUU.out k q) (fun q => by have := HGL.out; omega)⟩
 cases t with
 | false =>
  obtain rfl : s0 = r := by simpa using H
  go_enter Try.func27, Try.ntmps27
  go_wp2_with (first | ((with_reducible refine gd_ 3 ?_); refine bx_ 3 (cs := #[.int .i64 a0, .int .i64 a1, .string a2, .slice A3 l3.length c3, .string a4, .int .i64 a5, .slice A6 n6 c6]) 38 ?_; intro gb hg w1 hbox hb; have GE := am (show w.heap.size ≤ gb by rw [hg]; exact Nat.le_refl _); replace HX := am (below_step HX.out hb); have BK := am hbox; clear hb hbox hg; obtain ⟨hczz_0, hczz_1, hczz_2, hczz_3, hczz_4, hczz_5, hczz_6⟩ := cl7 BK; obtain ⟨hfzz_0, hfzz_1, hfzz_2, hfzz_3, hfzz_4, hfzz_5, hfzz_6⟩ := fz7 BK) | ((with_reducible refine gate_store (t := 23) (p := 4) rfl ?_); refine store_event (t := 23) (p := 4) (v := ?vo4) (w1 := (w1.setCell ⟨gb, 6, none⟩ (.slice none 0 0))) ?hg ?ho ?hn ?hr ?_; (case ho => rfl); (case hg => rfl); (case hn => rfl); (case hr => first | (go_simp; done) | (go_simp; rfl)); intro w2 hw; replace HX : Aside0 (Below w.heap.size w w2) := ⟨by rw [hw]; exact below_set HX.out GE.out⟩; replace BK : Aside0 (w2.heap[gb]? = some (.cells #[.int .i64 a0, .int .i64 a1, .string a2, .slice A3 l3.length c3, .string a4, .int .i64 a5, .slice none 0 0] 38 (0, 0))) := ⟨by rw [hw]; exact blk_put (cs := #[.int .i64 a0, .int .i64 a1, .string a2, .slice A3 l3.length c3, .string a4, .int .i64 a5, .slice A6 n6 c6]) BK.out 6 _ rfl⟩; clear hw; obtain ⟨hczy_0, hczy_1, hczy_2, hczy_3, hczy_4, hczy_5, hczy_6⟩ := cl7 BK; obtain ⟨hfzy_0, hfzy_1, hfzy_2, hfzy_3, hfzy_4, hfzy_5, hfzy_6⟩ := fz7 BK) | (go_at_call 51; (refine (impl_Page_hasRoom.calls g s0 s1 s2 h b false t3 t4 _ _ (PgS.isS (HP.out.below HX.out)) (Below.refl _ _) AT.out).mono ?_); rintro e w3 ⟨rfl, hi_, hb, hk_⟩; clear hi_ hk_; replace HX := am (below_step HX.out hb); replace BK := am (blk_below BK.out hb); clear hb; obtain ⟨hczx_0, hczx_1, hczx_2, hczx_3, hczx_4, hczx_5, hczx_6⟩ := cl7 BK; obtain ⟨hfzx_0, hfzx_1, hfzx_2, hfzx_3, hfzx_4, hfzx_5, hfzx_6⟩ := fz7 BK))
  go_end0
  exact ⟨rfl, (HP.out.below HX.out).mono (fun k hk => Or.inl hk.1) HEND.out, below_step HB.out HX.out, Kept.of_below HX.out _⟩
 | true =>
  rw [if_pos rfl] at H
  obtain ⟨u, hu, H⟩ := Option.bind_eq_some_iff.mp H
  have AU := am hu
  clear hu
  cases u with
  | false =>
   obtain rfl : s0 = r := by simpa using H
   go_enter Try.func27, Try.ntmps27
   go_wp2_with (first | ((with_reducible refine gd_ 3 ?_); refine bx_ 3 (cs := #[.int .i64 a0, .int .i64 a1, .string a2, .slice A3 l3.length c3, .string a4, .int .i64 a5, .slice A6 n6 c6]) 38 ?_; intro gb hg w1 hbox hb; have GE := am (show w.heap.size ≤ gb by rw [hg]; exact Nat.le_refl _); replace HX := am (below_step HX.out hb); have BK := am hbox; clear hb hbox hg; obtain ⟨hczz_0, hczz_1, hczz_2, hczz_3, hczz_4, hczz_5, hczz_6⟩ := cl7 BK; obtain ⟨hfzz_0, hfzz_1, hfzz_2, hfzz_3, hfzz_4, hfzz_5, hfzz_6⟩ := fz7 BK) | ((with_reducible refine gate_store (t := 23) (p := 4) rfl ?_); refine store_event (t := 23) (p := 4) (v := ?vo4) (w1 := (w1.setCell ⟨gb, 6, none⟩ (.slice none 0 0))) ?hg ?ho ?hn ?hr ?_; (case ho => rfl); (case hg => rfl); (case hn => rfl); (case hr => first | (go_simp; done) | (go_simp; rfl)); intro w2 hw; replace HX : Aside0 (Below w.heap.size w w2) := ⟨by rw [hw]; exact below_set HX.out GE.out⟩; replace BK : Aside0 (w2.heap[gb]? = some (.cells #[.int .i64 a0, .int .i64 a1, .string a2, .slice A3 l3.length c3, .string a4, .int .i64 a5, .slice none 0 0] 38 (0, 0))) := ⟨by rw [hw]; exact blk_put (cs := #[.int .i64 a0, .int .i64 a1, .string a2, .slice A3 l3.length c3, .string a4, .int .i64 a5, .slice A6 n6 c6]) BK.out 6 _ rfl⟩; clear hw; obtain ⟨hczy_0, hczy_1, hczy_2, hczy_3, hczy_4, hczy_5, hczy_6⟩ := cl7 BK; obtain ⟨hfzy_0, hfzy_1, hfzy_2, hfzy_3, hfzy_4, hfzy_5, hfzy_6⟩ := fz7 BK) | (go_at_call 51; (refine (impl_Page_hasRoom.calls g s0 s1 s2 h b true t3 t4 _ _ (PgS.isS (HP.out.below HX.out)) (Below.refl _ _) AT.out).mono ?_); rintro e w3 ⟨rfl, hi_, hb, hk_⟩; clear hi_ hk_; replace HX := am (below_step HX.out hb); replace BK := am (blk_below BK.out hb); clear hb; obtain ⟨hczx_0, hczx_1, hczx_2, hczx_3, hczx_4, hczx_5, hczx_6⟩ := cl7 BK; obtain ⟨hfzx_0, hfzx_1, hfzx_2, hfzx_3, hfzx_4, hfzx_5, hfzx_6⟩ := fz7 BK) | (go_at_call 52; (refine (impl_itemOk.calls k a0 a1 a2 A3 c3 l3 a4 a5 none 0 [] false _ (Kd.C_below HR3.out HX.out) HC3.out (Kd.C_nil _ _) (Nat.le_refl 0) AU.out).mono ?_); rintro e w4 ⟨rfl, hb⟩; replace HX := am (below_step HX.out hb); replace BK := am (blk_below BK.out hb); clear hb; obtain ⟨hczu_0, hczu_1, hczu_2, hczu_3, hczu_4, hczu_5, hczu_6⟩ := cl7 BK; obtain ⟨hfzu_0, hfzu_1, hfzu_2, hfzu_3, hfzu_4, hfzu_5, hfzu_6⟩ := fz7 BK))
   go_end0
   exact ⟨rfl, (HP.out.below HX.out).mono (fun k hk => Or.inl hk.1) HEND.out, below_step HB.out HX.out, Kept.of_below HX.out _⟩
  | true =>
   rw [if_pos rfl] at H
   obtain ⟨⟨v, v3, v4⟩, hv, H⟩ := Option.bind_eq_some_iff.mp H
   obtain ⟨⟨z1, z2⟩, hz, H⟩ := Option.bind_eq_some_iff.mp H
   obtain rfl := Option.some.inj H
   have AV := am hv
   have AZ := am hz
   clear hv hz H
   go_enter Try.func27, Try.ntmps27
   go_wp2_with (first | ((with_reducible refine gd_ 3 ?_); refine bx_ 3 (cs := #[.int .i64 a0, .int .i64 a1, .string a2, .slice A3 l3.length c3, .string a4, .int .i64 a5, .slice A6 n6 c6]) 38 ?_; intro gb hg w1 hbox hb; have GE := am (show w.heap.size ≤ gb by rw [hg]; exact Nat.le_refl _); replace HX := am (below_step HX.out hb); have BK := am hbox; clear hb hbox hg; obtain ⟨hczz_0, hczz_1, hczz_2, hczz_3, hczz_4, hczz_5, hczz_6⟩ := cl7 BK; obtain ⟨hfzz_0, hfzz_1, hfzz_2, hfzz_3, hfzz_4, hfzz_5, hfzz_6⟩ := fz7 BK) | ((with_reducible refine gate_store (t := 23) (p := 4) rfl ?_); refine store_event (t := 23) (p := 4) (v := ?vo4) (w1 := (w1.setCell ⟨gb, 6, none⟩ (.slice none 0 0))) ?hg ?ho ?hn ?hr ?_; (case ho => rfl); (case hg => rfl); (case hn => rfl); (case hr => first | (go_simp; done) | (go_simp; rfl)); intro w2 hw; replace HX : Aside0 (Below w.heap.size w w2) := ⟨by rw [hw]; exact below_set HX.out GE.out⟩; replace BK : Aside0 (w2.heap[gb]? = some (.cells #[.int .i64 a0, .int .i64 a1, .string a2, .slice A3 l3.length c3, .string a4, .int .i64 a5, .slice none 0 0] 38 (0, 0))) := ⟨by rw [hw]; exact blk_put (cs := #[.int .i64 a0, .int .i64 a1, .string a2, .slice A3 l3.length c3, .string a4, .int .i64 a5, .slice A6 n6 c6]) BK.out 6 _ rfl⟩; clear hw; obtain ⟨hczy_0, hczy_1, hczy_2, hczy_3, hczy_4, hczy_5, hczy_6⟩ := cl7 BK; obtain ⟨hfzy_0, hfzy_1, hfzy_2, hfzy_3, hfzy_4, hfzy_5, hfzy_6⟩ := fz7 BK) | (go_at_call 51; (refine (impl_Page_hasRoom.calls g s0 s1 s2 h b true t3 t4 _ _ (PgS.isS (HP.out.below HX.out)) (Below.refl _ _) AT.out).mono ?_); rintro e w3 ⟨rfl, hi_, hb, hk_⟩; clear hi_ hk_; replace HX := am (below_step HX.out hb); replace BK := am (blk_below BK.out hb); clear hb; obtain ⟨hczx_0, hczx_1, hczx_2, hczx_3, hczx_4, hczx_5, hczx_6⟩ := cl7 BK; obtain ⟨hfzx_0, hfzx_1, hfzx_2, hfzx_3, hfzx_4, hfzx_5, hfzx_6⟩ := fz7 BK) | (go_at_call 52; (refine (impl_itemOk.calls k a0 a1 a2 A3 c3 l3 a4 a5 none 0 [] true _ (Kd.C_below HR3.out HX.out) HC3.out (Kd.C_nil _ _) (Nat.le_refl 0) AU.out).mono ?_); rintro e w4 ⟨rfl, hb⟩; replace HX := am (below_step HX.out hb); replace BK := am (blk_below BK.out hb); clear hb; obtain ⟨hczu_0, hczu_1, hczu_2, hczu_3, hczu_4, hczu_5, hczu_6⟩ := cl7 BK; obtain ⟨hfzu_0, hfzu_1, hfzu_2, hfzu_3, hfzu_4, hfzu_5, hfzu_6⟩ := fz7 BK))
   have HXd := am (below_drew1 HX.out)
   have BKd := am (blk_drew BK.out)
   refine start_ (n := 15) (S := fun w' => w'.cell? ⟨gb, 0, none⟩ = some (.int .i64 a0) ∧ w'.cell? ⟨gb, 1, none⟩ = some (.int .i64 a1) ∧ w'.cell? ⟨gb, 2, none⟩ = some (.string a2) ∧ w'.cell? ⟨gb, 3, none⟩ = some (.slice A3 l3.length c3) ∧ w'.cell? ⟨gb, 4, none⟩ = some (.string a4) ∧ w'.cell? ⟨gb, 5, none⟩ = some (.int .i64 a5) ∧ w'.cell? ⟨gb, 6, none⟩ = some (.slice none 0 0) ∧ w'.cell? ⟨g, 0, none⟩ = some (.slice A0 s0.length c0)) (ds := [14]) #[false, false, false, false, false, false, false, false, false, false, false, false, false, false, false] (by kernel_rfl) rfl rfl ⟨(blk_cell BK.out 0).trans rfl, (blk_cell BK.out 1).trans rfl, (blk_cell BK.out 2).trans rfl, (blk_cell BK.out 3).trans rfl, (blk_cell BK.out 4).trans rfl, (blk_cell BK.out 5).trans rfl, (blk_cell BK.out 6).trans rfl, (blk_cell (blk_below BG.out HX.out) 0).trans rfl⟩ (fun hHeld => ?_)
   clear HX BK hczu_0 hczu_1 hczu_2 hczu_3 hczu_4 hczu_5 hczu_6 hfzu_0 hfzu_1 hfzu_2 hfzu_3 hfzu_4 hfzu_5 hfzu_6
   have HX := HXd
   have BK := BKd
   clear HXd BKd
   generalize World.drew _ = w5 at HX BK hHeld ⊢
   refine pk_ 0 12 ?_
   refine pk_ 1 13 ?_
   refine pk_ 2 14 ?_
   refine pk_ 3 15 ?_
   refine pk_ 5 17 ?_
   refine tk3_ 4 16 hHeld ?_
   refine tk3_ 7 19 hHeld ?_
   refine one_ (i := 6) (N := some 18) #[true, true, true, true, true, true, true, true, false, false, false, false, false, false, false] rfl rfl (by kernel_rfl) (by decide) (fun K hK => ?_)
   refine goes_ Try.func54 (by kernel_rfl) rfl #[.pointer (some ⟨g, 0, none⟩)] (by rfl) rfl rfl ab5 ?_
   refine (impl_Page_last.calls g s0 s1 s2 h b v v3 v4 _ _ (PgS.isS (HP.out.below HX.out)) (Below.refl _ _) AV.out).mono ?_
   rintro e w6 ⟨rfl, hi_, hb, hk_⟩
   refine ⟨_, rfl, ?_⟩
   clear hHeld hi_ hk_
   replace HX := am (below_step HX.out hb)
   replace BK := am (blk_below BK.out hb)
   clear hb
   refine hK.out _ _ ⟨(blk_cell BK.out 0).trans rfl, (blk_cell BK.out 1).trans rfl, (blk_cell BK.out 2).trans rfl, (blk_cell BK.out 3).trans rfl, (blk_cell BK.out 4).trans rfl, (blk_cell BK.out 5).trans rfl, (blk_cell BK.out 6).trans rfl, (blk_cell (blk_below BG.out HX.out) 0).trans rfl⟩ (fun hHeld => ?_)
   clear hK K
   refine nk_ 18 ?_
   refine one_ (i := 8) (N := some 20) #[true, true, true, true, true, true, true, true, true, false, false, false, false, false, false] rfl rfl (by kernel_rfl) (by decide) (fun K hK => ?_)
   obtain ⟨P0, hP0, hs0, hback⟩ := OwnP.items (HO.out.below HX.out)
   have HP0 := am hP0
   have HBK := am hback
   clear hP0 hback
   refine goes_ Try.func53 (by kernel_rfl) rfl #[.slice A0 s0.length c0, .int .i64 v, .int .i64 (-1), .agg #[.int .i64 a0, .int .i64 a1, .string a2, .slice A3 l3.length c3, .string a4, .int .i64 a5, .slice none 0 0]] (by rfl) rfl rfl ab5 ?_
   refine (impl_hang.calls P0 _ s0 v (-1) a0 a1 a2 A3 c3 l3 a4 a5 none 0 0 z1 z2 w0 _ (below_step HB.out HX.out) hs0 (Kd.C_below HR3.out HX.out) HC3.out AZ.out).mono ?_
   rintro e w7 ⟨v7, rfl, hs7, hb7, hk7⟩
   refine ⟨_, rfl, ?_⟩
   clear hHeld hs0
   obtain ⟨Av, cv, rfl⟩ := Kd.S_slice hs7
   replace BK := am (blk_kept BK.out hk7 (fun q => by have := GE.out; have := (HP0.out _ q).2; omega))
   have BG7 := am (blk_kept (blk_below BG.out HX.out) hk7 (fun q => HU.out _ (HP0.out _ q) rfl))
   have HO7 := am (HBK.out _ _ _ hs7 hk7)
   have HK7 := am (Kept.then_ (Kept.of_below HX.out (fun k => U k ∨ k = g)) hk7 (fun k q => Or.inl (Or.inl (HP0.out k q).1)))
   have HB7 := am hb7
   have HX6 := am (below_size HX.out)
   have hcg := (blk_cell BG7.out 0).trans rfl
   have hfg := blk_frozen BG7.out 0
   clear hs7 hb7 hk7 HBK HX
   refine hK.out _ _ ⟨(blk_cell BK.out 0).trans rfl, (blk_cell BK.out 1).trans rfl, (blk_cell BK.out 2).trans rfl, (blk_cell BK.out 3).trans rfl, (blk_cell BK.out 4).trans rfl, (blk_cell BK.out 5).trans rfl, (blk_cell BK.out 6).trans rfl, hcg⟩ (fun hHeld => ?_)
   clear hK K
   refine nk_ 20 ?_
   refine pk_ 9 11 ?_
   refine pk_ 10 21 ?_
   refine pk_ 11 22 ?_
   refine pk_ 12 23 ?_
   refine pk_ 13 24 ?_
   refine last_ (i := 14) (N := none) #[true, true, true, true, true, true, true, true, true, true, true, true, true, true, true] rfl rfl (by kernel_rfl) (by decide) (fun K hK => ?_)
   refine skip_ (w1 := w7.setCell ⟨g, 0, none⟩ (.slice Av z1.length cv)) (by rfl) rfl ?_ ?_
   ·first | (go_simp; done) | (go_simp; rfl)
   refine hK.out _ _ ?_
   clear hK K
   refine done_ (by kernel_rfl) ?_
   try go_wp2
   go_end0
   refine ⟨rfl, ⟨_, _, _, blk_put BG7.out 0 _ rfl, HGB.out, HEND.out, ?_⟩, below_set HB7.out HGB.out, Kept.setCell HK7.out (Or.inl (Or.inr rfl)) _⟩
   refine OwnP.far (HO7.out.mono (fun k q => ?_)) (p := ⟨g, 0, none⟩) (fun k q => HEND.out k q) _
   exact q.elim (fun q => Or.inl q.1) (fun q => Or.inr (Nat.le_trans HX6.out q))
theorem bu_Contains (s sub : ByteArray) (b : Bool) (m : Int) (w : World) (h : Lib.contains s.data.toList sub.data.toList = b) (hs : s.size ≤ 100000000) (hm : w.cell? ⟨0, 0, none⟩ = some (.int .i64 m)) :
  Calls Try.prog 80 #[.string s, .string sub] w fun e w' => e = .returned (.bool b) ∧ w' = w := by
 subst h
 exact Try.strings_Contains s sub m w (by omega) hm
def strings_Contains.f (a0 a1 : ByteArray) : Option Bool := if a0.size ≤ 100000000 then some (Lib.contains a0.data.toList a1.data.toList) else none
theorem strings_Contains.calls (a0 a1 : ByteArray) (r : Bool) (w : World) (M_ : Int) (hm_ : w.cell? ⟨0, 0, none⟩ = some (.int .i64 M_)) (h : strings_Contains.f a0 a1 = some r) :
  Calls Try.prog 80 #[.string a0, .string a1] w fun e w' => e = .returned (.bool r) ∧ Drawn0 w w' := by
 unfold strings_Contains.f at h
 by_cases hs : a0.size ≤ 100000000
 ·rw [if_pos hs] at h
  exact (bu_Contains a0 a1 r M_ w (Option.some.inj h) hs hm_).mono fun e w' ⟨he, hw⟩ => ⟨he, by rw [hw]; exact Drawn0.refl _⟩
 ·rw [if_neg hs] at h; cases h
end Go.Proofs.Ytekkalnafngfeaa.P
