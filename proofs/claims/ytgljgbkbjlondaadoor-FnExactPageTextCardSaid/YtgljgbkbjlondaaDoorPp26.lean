-- WRITTEN BY hprint.py, this session's own program, over the kit's printer: not typed by hand; Lean checks it
import Derived.Test.YtgljgbkbjlondaaDoorPp0
import Derived.Test.YtgljgbkbjlondaaDoorPp16
import Derived.Test.YtgljgbkbjlondaaDoorPp22
import Derived.Test.YtgljgbkbjlondaaDoorPp23
import Derived.Test.YtgljgbkbjlondaaDoorPp25
namespace Go.Proofs.YtgljgbkbjlondaaDoor.P
open Go.RowKit Go.Proofs.YtgljgbkbjlondaaDoorW.PrintWords Go.Proofs.YtgljgbkbjlondaaDoorW.PrintLast Go.Proofs.YtgljgbkbjlondaaDoorW.PrintMore
attribute [local go_sem] max2_int min2_int max_two min_two max_three min_three max_four min_four   -- for this text's walks alone
set_option linter.unusedVariables false
set_option linter.unusedSimpArgs false

/-! ### impl_sayItem: function 78 (by hand) -/
/-- What stands while an element is said: the Builder's text, the caller's memory, all other blocks. -/
structure Say (w0 : World) (b : Nat) (acc : ByteArray) (we w : World) : Prop where
 bu : Lib.IsBuilderF 64 5 w0.heap.size b (Lib.strCells acc) w
 below : Below w0.heap.size w0 w
 kept : Lib.OthersKept 5 (some b) we w
 size : we.heap.size ≤ w.heap.size
 blt : b < we.heap.size
theorem kept_below {b : Option Nat} {a w w' : World} (h : Lib.OthersKept 5 b a w) (hb : Below w.heap.size w w') : Lib.OthersKept 5 b a w' := fun k o hk hn ho => by
 have h1 := h k o hk hn ho
 rw [← h1]
 exact hb.block k (Array.getElem?_eq_some_iff.mp h1).1
section
variable {w0 we w w1 : World} {b : Nat} {acc : ByteArray}
theorem sy_step (h : Say w0 b acc we w) (hb : Below w.heap.size w w1) : Say w0 b acc we w1 := ⟨Op.bu_below h.bu hb, below_step h.below hb, kept_below h.kept hb, Nat.le_trans h.size hb.size, h.blt⟩
theorem sy_alloc (h : Say w0 b acc we w) (o : Obj) : Say w0 b acc we (w.alloc o) := sy_step h ((Below.refl _ w).alloc (Nat.le_refl _) _)
theorem sy_drewN (h : Say w0 b acc we w) (n : Nat) : Say w0 b acc we (w.drewN n) := ⟨h.bu, pw_below_drewN h.below n, h.kept, h.size, h.blt⟩
theorem sy_drew1 (h : Say w0 b acc we w) : Say w0 b acc we w.drew := ⟨h.bu.elim (fun x => .inl x.drew) (fun x => .inr x.drew), below_drew1 h.below, h.kept.drew, h.size, h.blt⟩
theorem sy_size (h : Say w0 b acc we w) : we.heap.size ≤ w.heap.size := h.size
theorem sy_as {acc' : ByteArray} (e : acc = acc') (h : Say w0 b acc we w) : Say w0 b acc' we w := e ▸ h
theorem sy_self (h : Say w0 b acc we w) : Say w0 b acc w w := ⟨h.bu, h.below, Lib.OthersKept.refl _ _ _, Nat.le_refl _, Nat.lt_of_lt_of_le h.blt h.size⟩
theorem sy_trans {acc' : ByteArray} (h : Say w0 b acc we w) (k : Say w0 b acc' w w1) : Say w0 b acc' we w1 := ⟨k.bu, k.below, h.kept.trans k.kept, Nat.le_trans h.size k.size, h.blt⟩
theorem sy_cell (h : Say w0 b acc we w) {p : Addr} {v : Value} (hp : w0.cell? p = some v) : w.cell? p = some v := (h.below.cell (World.block_lt_of_cell? w0 _ hp)).trans hp
/-- A block that the walk has just made, and stores into. -/
def Bx (w0 : World) (b : Nat) (acc : ByteArray) (we : World) (g : Nat) (w : World) : Prop := ∃ wp, Say w0 b acc we wp ∧ Below wp.heap.size wp w ∧ wp.heap.size ≤ g
theorem bx_mk {g : Nat} (h : Say w0 b acc we w) (hb : Below w.heap.size w w1) (hg : g = w.heap.size) : Bx w0 b acc we g w1 := ⟨w, h, hb, by omega⟩
theorem bx_set {g : Nat} (h : Bx w0 b acc we g w) {i : Nat} {v : Value} : Bx w0 b acc we g (w.setCell ⟨g, i, none⟩ v) := by
 obtain ⟨wp, h1, h2, h3⟩ := h
 exact ⟨wp, h1, below_set h2 h3, h3⟩
theorem bx_alloc {g : Nat} (h : Bx w0 b acc we g w) (o : Obj) : Bx w0 b acc we g (w.alloc o) := by
 obtain ⟨wp, h1, h2, h3⟩ := h
 exact ⟨wp, h1, below_step h2 ((Below.refl _ w).alloc (Nat.le_refl _) _), h3⟩
theorem bx_drewN {g : Nat} (h : Bx w0 b acc we g w) (n : Nat) : Bx w0 b acc we g (w.drewN n) := by
 obtain ⟨wp, h1, h2, h3⟩ := h
 exact ⟨wp, h1, pw_below_drewN h2 n, h3⟩
theorem bx_drew1 {g : Nat} (h : Bx w0 b acc we g w) : Bx w0 b acc we g w.drew := by
 obtain ⟨wp, h1, h2, h3⟩ := h
 exact ⟨wp, h1, below_drew1 h2, h3⟩
theorem bx_say {g : Nat} (h : Bx w0 b acc we g w) : Say w0 b acc we w := by
 obtain ⟨wp, h1, h2, _⟩ := h
 exact sy_step h1 h2
theorem blk_others {g : Nat} {cs : Array Value} {T : Nat} {fz : Nat × Nat} (h : w.heap[g]? = some (.cells cs T fz)) (hk : Lib.OthersKept 5 (some b) w w1) (hn : g ≠ b) (hT : T ≠ 5) : w1.heap[g]? = some (.cells cs T fz) :=
 hk g _ h (fun e => hn (Option.some.inj e)) (fun c f e => by injection e with _ e2 _; exact hT e2)
theorem sy_WriteString (s : ByteArray) (h : Say w0 b acc we w) (hl : acc.size + s.size ≤ 140737488355328) :
  Calls Tryd.prog 49 #[.pointer (some ⟨b, 0, none⟩), .string s] w fun e w' => e = .returned (.tuple #[.int .i64 s.size, .nilIface]) ∧ Say w0 b (acc ++ s) we w' ∧ Lib.OthersKept 5 (some b) w w' := by
 refine (bu_WriteString w0.heap.size b (Lib.strCells acc) s w h.bu (by rw [Lib.strCells_length]; exact hl) h.below.size).mono ?_
 rintro e w' ⟨he, h1, h2, h3⟩
 exact ⟨he, ⟨by rw [Op.strCells_add]; exact h1, h.below.trans h2, h.kept.trans h3, Nat.le_trans h.size h2.size, h.blt⟩, h3⟩
end
mutual
def impl_sayItem.j0 : Nat → ByteArray → List (S90) → Int → Int → ByteArray → List (S114) → ByteArray → Int → List Int → Option (ByteArray)
 | 0, _, _, _, _, _, _, _, _, _ => none
 | k + 1, x0, x1, x295000, x295001, x295002, x295003, x295004, x295005, x295006 => impl_sayItem.l0 k x0 x1 x295006 (x295006.length : Int) 0 x295000 x295001 x295002 x295003 x295004 x295005 x295006
def impl_sayItem.l0 : Nat → ByteArray → List (S90) → List Int → Int → Int → Int → Int → ByteArray → List (S114) → ByteArray → Int → List Int → Option (ByteArray)
 | 0, _, _, _, _, _, _, _, _, _, _, _, _ => none
 | k + 1, x0, x1, x60, x61, x62, x295000, x295001, x295002, x295003, x295004, x295005, x295006 => if x62 < x61 then (if 0 ≤ x62 then (if x62 < (x60.length : Int) then ((impl_sayItem.f k x0 x1 (rd x60 x62)).bind fun t305 => (impl_sayItem.l0 k t305 x1 x60 x61 (wrap64 (x62 + 1)) x295000 x295001 x295002 x295003 x295004 x295005 x295006)) else (none)) else (none)) else (if x295000 = 2 then (if x295001 = 0 then ((impl_Void.f x295002).bind fun t306 => (if t306 = true then (some x0) else (if 2 + x295002.size ≤ 9223372036854775807 then (if ((⟨#[60, 47]⟩ : ByteArray) ++ x295002).size + 1 ≤ 9223372036854775807 then (if x0.size + (((⟨#[60, 47]⟩ : ByteArray) ++ x295002) ++ (⟨#[62]⟩ : ByteArray)).size ≤ 140737488355328 then ((some (x0 ++ (((⟨#[60, 47]⟩ : ByteArray) ++ x295002) ++ (⟨#[62]⟩ : ByteArray)))).bind fun t307 => (some t307)) else (none)) else (none)) else (none)))) else (if 2 + x295002.size ≤ 9223372036854775807 then (if ((⟨#[60, 47]⟩ : ByteArray) ++ x295002).size + 1 ≤ 9223372036854775807 then (if x0.size + (((⟨#[60, 47]⟩ : ByteArray) ++ x295002) ++ (⟨#[62]⟩ : ByteArray)).size ≤ 140737488355328 then ((some (x0 ++ (((⟨#[60, 47]⟩ : ByteArray) ++ x295002) ++ (⟨#[62]⟩ : ByteArray)))).bind fun t308 => (some t308)) else (none)) else (none)) else (none))) else (some x0))
def impl_sayItem.f : Nat → ByteArray → List (S90) → Int → Option (ByteArray)
 | 0, _, _, _ => none
 | k + 1, a0, l1, a2 => if 0 ≤ a2 then (if a2 < (l1.length : Int) then (if ((rd_T90 l1 a2).f0) = 5 then (if 10 + ((rd_T90 l1 a2).f4).size ≤ 9223372036854775807 then (if ((⟨#[60, 33, 100, 111, 99, 116, 121, 112, 101, 32]⟩ : ByteArray) ++ ((rd_T90 l1 a2).f4)).size + 1 ≤ 9223372036854775807 then (if a0.size + (((⟨#[60, 33, 100, 111, 99, 116, 121, 112, 101, 32]⟩ : ByteArray) ++ ((rd_T90 l1 a2).f4)) ++ (⟨#[62]⟩ : ByteArray)).size ≤ 140737488355328 then ((some (a0 ++ (((⟨#[60, 33, 100, 111, 99, 116, 121, 112, 101, 32]⟩ : ByteArray) ++ ((rd_T90 l1 a2).f4)) ++ (⟨#[62]⟩ : ByteArray)))).bind fun t295 => (impl_sayItem.j0 k t295 l1 ((rd_T90 l1 a2).f0) ((rd_T90 l1 a2).f1) ((rd_T90 l1 a2).f2) ((rd_T90 l1 a2).f3) ((rd_T90 l1 a2).f4) ((rd_T90 l1 a2).f5) ((rd_T90 l1 a2).f6))) else (none)) else (none)) else (none)) else (if ((rd_T90 l1 a2).f0) = 4 then (if 4 + ((rd_T90 l1 a2).f4).size ≤ 9223372036854775807 then (if ((⟨#[60, 33, 45, 45]⟩ : ByteArray) ++ ((rd_T90 l1 a2).f4)).size + 3 ≤ 9223372036854775807 then (if a0.size + (((⟨#[60, 33, 45, 45]⟩ : ByteArray) ++ ((rd_T90 l1 a2).f4)) ++ (⟨#[45, 45, 62]⟩ : ByteArray)).size ≤ 140737488355328 then ((some (a0 ++ (((⟨#[60, 33, 45, 45]⟩ : ByteArray) ++ ((rd_T90 l1 a2).f4)) ++ (⟨#[45, 45, 62]⟩ : ByteArray)))).bind fun t296 => (impl_sayItem.j0 k t296 l1 ((rd_T90 l1 a2).f0) ((rd_T90 l1 a2).f1) ((rd_T90 l1 a2).f2) ((rd_T90 l1 a2).f3) ((rd_T90 l1 a2).f4) ((rd_T90 l1 a2).f5) ((rd_T90 l1 a2).f6))) else (none)) else (none)) else (none)) else (if ((rd_T90 l1 a2).f0) = 3 then (if 0 ≤ ((rd_T90 l1 a2).f5) then (if ((rd_T90 l1 a2).f5) < (l1.length : Int) then ((impl_isPlainRaw.f ((rd_T90 l1 ((rd_T90 l1 a2).f5)).f2)).bind fun t298 => (if t298 = true then (if a0.size + ((rd_T90 l1 a2).f4).size ≤ 140737488355328 then ((some (a0 ++ ((rd_T90 l1 a2).f4))).bind fun t299 => (impl_sayItem.j0 k t299 l1 ((rd_T90 l1 a2).f0) ((rd_T90 l1 a2).f1) ((rd_T90 l1 a2).f2) ((rd_T90 l1 a2).f3) ((rd_T90 l1 a2).f4) ((rd_T90 l1 a2).f5) ((rd_T90 l1 a2).f6))) else (none)) else ((impl_textSaid.f ((rd_T90 l1 a2).f4)).bind fun t300 => (if a0.size + t300.size ≤ 140737488355328 then ((some (a0 ++ t300)).bind fun t301 => (impl_sayItem.j0 k t301 l1 ((rd_T90 l1 a2).f0) ((rd_T90 l1 a2).f1) ((rd_T90 l1 a2).f2) ((rd_T90 l1 a2).f3) ((rd_T90 l1 a2).f4) ((rd_T90 l1 a2).f5) ((rd_T90 l1 a2).f6))) else (none))))) else (none)) else (none)) else (if ((rd_T90 l1 a2).f0) = 2 then ((impl_startSpelt.f k ((rd_T90 l1 a2).f2) ((rd_T90 l1 a2).f3)).bind fun t302 => (if t302.size + 1 ≤ 9223372036854775807 then (if a0.size + (t302 ++ (⟨#[62]⟩ : ByteArray)).size ≤ 140737488355328 then ((some (a0 ++ (t302 ++ (⟨#[62]⟩ : ByteArray)))).bind fun t303 => (impl_sayItem.j0 k t303 l1 ((rd_T90 l1 a2).f0) ((rd_T90 l1 a2).f1) ((rd_T90 l1 a2).f2) ((rd_T90 l1 a2).f3) ((rd_T90 l1 a2).f4) ((rd_T90 l1 a2).f5) ((rd_T90 l1 a2).f6))) else (none)) else (none))) else (impl_sayItem.j0 k a0 l1 ((rd_T90 l1 a2).f0) ((rd_T90 l1 a2).f1) ((rd_T90 l1 a2).f2) ((rd_T90 l1 a2).f3) ((rd_T90 l1 a2).f4) ((rd_T90 l1 a2).f5) ((rd_T90 l1 a2).f6)))))) else (none)) else (none)
end
theorem impl_sayItem.mono_l : ∀ k, (∀ y0 y1 y2, LeO (impl_sayItem.f k y0 y1 y2) (impl_sayItem.f (k + 1) y0 y1 y2)) ∧ (∀ y0 y1 y2 y3 y4 y5 y6 y7 y8, LeO (impl_sayItem.j0 k y0 y1 y2 y3 y4 y5 y6 y7 y8) (impl_sayItem.j0 (k + 1) y0 y1 y2 y3 y4 y5 y6 y7 y8)) ∧ (∀ y0 y1 y2 y3 y4 y5 y6 y7 y8 y9 y10 y11, LeO (impl_sayItem.l0 k y0 y1 y2 y3 y4 y5 y6 y7 y8 y9 y10 y11) (impl_sayItem.l0 (k + 1) y0 y1 y2 y3 y4 y5 y6 y7 y8 y9 y10 y11))
 | 0 => ⟨fun _ _ _ r h => by simp [impl_sayItem.f] at h, fun _ _ _ _ _ _ _ _ _ r h => by simp [impl_sayItem.j0] at h, fun _ _ _ _ _ _ _ _ _ _ _ _ r h => by simp [impl_sayItem.l0] at h⟩
 | k + 1 => by
  obtain ⟨ih0, ih1, ih2⟩ := impl_sayItem.mono_l k
  refine ⟨?_, ?_, ?_⟩
  ·intro y0 y1 y2
   unfold impl_sayItem.f
   repeat' first
   | (with_reducible exact ih0 _ _ _)
   | (with_reducible exact ih1 _ _ _ _ _ _ _ _ _)
   | (with_reducible exact ih2 _ _ _ _ _ _ _ _ _ _ _ _)
   | (with_reducible exact impl_startSpelt.mono _ _ _)
   | (with_reducible exact LeO.refl _)
   | (with_reducible exact LeO.none _)
   | (with_reducible refine LeO.ite ?_ ?_)
   | (with_reducible refine LeO.bind ?_ (fun _ => ?_))
  ·intro y0 y1 y2 y3 y4 y5 y6 y7 y8
   unfold impl_sayItem.j0
   repeat' first
   | (with_reducible exact ih0 _ _ _)
   | (with_reducible exact ih1 _ _ _ _ _ _ _ _ _)
   | (with_reducible exact ih2 _ _ _ _ _ _ _ _ _ _ _ _)
   | (with_reducible exact impl_startSpelt.mono _ _ _)
   | (with_reducible exact LeO.refl _)
   | (with_reducible exact LeO.none _)
   | (with_reducible refine LeO.ite ?_ ?_)
   | (with_reducible refine LeO.bind ?_ (fun _ => ?_))
  ·intro y0 y1 y2 y3 y4 y5 y6 y7 y8 y9 y10 y11
   unfold impl_sayItem.l0
   repeat' first
   | (with_reducible exact ih0 _ _ _)
   | (with_reducible exact ih1 _ _ _ _ _ _ _ _ _)
   | (with_reducible exact ih2 _ _ _ _ _ _ _ _ _ _ _ _)
   | (with_reducible exact impl_startSpelt.mono _ _ _)
   | (with_reducible exact LeO.refl _)
   | (with_reducible exact LeO.none _)
   | (with_reducible refine LeO.ite ?_ ?_)
   | (with_reducible refine LeO.bind ?_ (fun _ => ?_))
theorem impl_sayItem.mono : ∀ a0 a1 a2 k, LeO (impl_sayItem.f k a0 a1 a2) (impl_sayItem.f (k + 1) a0 a1 a2) := by
 intro a0 a1 a2 k
 obtain ⟨ih0, ih1, ih2⟩ := impl_sayItem.mono_l k
 exact ih0 a0 a1 a2
set_option maxHeartbeats 8000000 in
set_option maxRecDepth 100000 in
theorem impl_sayItem.calls_b (w0 : World) (b : Nat) (M_ : Int) (hm : w0.cell? ⟨0, 0, none⟩ = some (.int .i64 M_)) (k : Nat) : ∀ (a0 : ByteArray) (A1 : Option Addr) (c1 : Nat) (l1 : List (S90)) (a2 : Int) (r : ByteArray) (w : World) (hr1 : Kd.C k90 w0 A1 l1.length l1) (hc1 : l1.length ≤ c1) (hS : Say w0 b a0 w w) (h : impl_sayItem.f k a0 l1 a2 = some r),
  Calls Tryd.prog 78 #[.pointer (some ⟨b, 0, none⟩), .slice A1 l1.length c1, .int .i64 a2] w fun e w' => e = .returned (.tuple #[]) ∧ Say w0 b r w w' := by
 induction k using Nat.strongRecOn with
 | _ k ih =>
 intro a0 A1 c1 l1 a2 r w hr1 hc1 hS h
 cases k with
 | zero => exact absurd h (by simp [impl_sayItem.f])
 | succ k =>
 simp only [impl_sayItem.f] at h
 have hu90 := Tryd.underlying90
 have HR1 := Aside0.mk hr1
 have HC1 := Aside0.mk hc1
 clear hr1 hc1
 have HB := Aside0.mk hS
 have HBLT := Aside0.mk hS.blt
 have HW0 := Aside0.mk hS.below.size
 have HM_ := Aside0.mk hm
 clear hS
 have H : (if 0 ≤ a2 then (if a2 < (l1.length : Int) then (if ((rd_T90 l1 a2).f0) = 5 then (if 10 + ((rd_T90 l1 a2).f4).size ≤ 9223372036854775807 then (if ((⟨#[60, 33, 100, 111, 99, 116, 121, 112, 101, 32]⟩ : ByteArray) ++ ((rd_T90 l1 a2).f4)).size + 1 ≤ 9223372036854775807 then (if a0.size + (((⟨#[60, 33, 100, 111, 99, 116, 121, 112, 101, 32]⟩ : ByteArray) ++ ((rd_T90 l1 a2).f4)) ++ (⟨#[62]⟩ : ByteArray)).size ≤ 140737488355328 then ((some (a0 ++ (((⟨#[60, 33, 100, 111, 99, 116, 121, 112, 101, 32]⟩ : ByteArray) ++ ((rd_T90 l1 a2).f4)) ++ (⟨#[62]⟩ : ByteArray)))).bind fun t295 => (impl_sayItem.j0 k t295 l1 ((rd_T90 l1 a2).f0) ((rd_T90 l1 a2).f1) ((rd_T90 l1 a2).f2) ((rd_T90 l1 a2).f3) ((rd_T90 l1 a2).f4) ((rd_T90 l1 a2).f5) ((rd_T90 l1 a2).f6))) else (none)) else (none)) else (none)) else (if ((rd_T90 l1 a2).f0) = 4 then (if 4 + ((rd_T90 l1 a2).f4).size ≤ 9223372036854775807 then (if ((⟨#[60, 33, 45, 45]⟩ : ByteArray) ++ ((rd_T90 l1 a2).f4)).size + 3 ≤ 9223372036854775807 then (if a0.size + (((⟨#[60, 33, 45, 45]⟩ : ByteArray) ++ ((rd_T90 l1 a2).f4)) ++ (⟨#[45, 45, 62]⟩ : ByteArray)).size ≤ 140737488355328 then ((some (a0 ++ (((⟨#[60, 33, 45, 45]⟩ : ByteArray) ++ ((rd_T90 l1 a2).f4)) ++ (⟨#[45, 45, 62]⟩ : ByteArray)))).bind fun t296 => (impl_sayItem.j0 k t296 l1 ((rd_T90 l1 a2).f0) ((rd_T90 l1 a2).f1) ((rd_T90 l1 a2).f2) ((rd_T90 l1 a2).f3) ((rd_T90 l1 a2).f4) ((rd_T90 l1 a2).f5) ((rd_T90 l1 a2).f6))) else (none)) else (none)) else (none)) else (if ((rd_T90 l1 a2).f0) = 3 then (if 0 ≤ ((rd_T90 l1 a2).f5) then (if ((rd_T90 l1 a2).f5) < (l1.length : Int) then ((impl_isPlainRaw.f ((rd_T90 l1 ((rd_T90 l1 a2).f5)).f2)).bind fun t298 => (if t298 = true then (if a0.size + ((rd_T90 l1 a2).f4).size ≤ 140737488355328 then ((some (a0 ++ ((rd_T90 l1 a2).f4))).bind fun t299 => (impl_sayItem.j0 k t299 l1 ((rd_T90 l1 a2).f0) ((rd_T90 l1 a2).f1) ((rd_T90 l1 a2).f2) ((rd_T90 l1 a2).f3) ((rd_T90 l1 a2).f4) ((rd_T90 l1 a2).f5) ((rd_T90 l1 a2).f6))) else (none)) else ((impl_textSaid.f ((rd_T90 l1 a2).f4)).bind fun t300 => (if a0.size + t300.size ≤ 140737488355328 then ((some (a0 ++ t300)).bind fun t301 => (impl_sayItem.j0 k t301 l1 ((rd_T90 l1 a2).f0) ((rd_T90 l1 a2).f1) ((rd_T90 l1 a2).f2) ((rd_T90 l1 a2).f3) ((rd_T90 l1 a2).f4) ((rd_T90 l1 a2).f5) ((rd_T90 l1 a2).f6))) else (none))))) else (none)) else (none)) else (if ((rd_T90 l1 a2).f0) = 2 then ((impl_startSpelt.f k ((rd_T90 l1 a2).f2) ((rd_T90 l1 a2).f3)).bind fun t302 => (if t302.size + 1 ≤ 9223372036854775807 then (if a0.size + (t302 ++ (⟨#[62]⟩ : ByteArray)).size ≤ 140737488355328 then ((some (a0 ++ (t302 ++ (⟨#[62]⟩ : ByteArray)))).bind fun t303 => (impl_sayItem.j0 k t303 l1 ((rd_T90 l1 a2).f0) ((rd_T90 l1 a2).f1) ((rd_T90 l1 a2).f2) ((rd_T90 l1 a2).f3) ((rd_T90 l1 a2).f4) ((rd_T90 l1 a2).f5) ((rd_T90 l1 a2).f6))) else (none)) else (none))) else (impl_sayItem.j0 k a0 l1 ((rd_T90 l1 a2).f0) ((rd_T90 l1 a2).f1) ((rd_T90 l1 a2).f2) ((rd_T90 l1 a2).f3) ((rd_T90 l1 a2).f4) ((rd_T90 l1 a2).f5) ((rd_T90 l1 a2).f6)))))) else (none)) else (none)) = some r := h
 clear h
 by_cases c4 : 0 ≤ a2
 case neg => rw [if_neg c4] at H; exact absurd H (by simp)
 rw [if_pos c4] at H
 have c4b0 := decide_eq_true c4
 clear c4
 by_cases c5 : a2 < (l1.length : Int)
 case neg => rw [if_neg c5] at H; exact absurd H (by simp)
 rw [if_pos c5] at H
 have c5b0 := decide_eq_true c5
 clear c5
 have HC6 := Aside0.mk H
 clear H
 have p293 : 0 ≤ (a2 : Int) := of_decide_eq_true ab4
 have q293 : a2 < (l1.length : Int) := of_decide_eq_true ab4
 obtain ⟨ad293, A293_3, c293_3, A293_6, c293_6, e293, hx293_0, hx293_1, hx293_2, hx293_3, hx293_4, hx293_5, hx293_6, hl293_3, hi293_3, hl293_6, hi293_6⟩ := at_T90 HR1.out a2 p293 q293
 cases e293
 replace hx293_0 := (HB.out.below.cell (World.block_lt_of_cell? w0 _ hx293_0)).trans hx293_0
 replace hx293_1 := (HB.out.below.cell (World.block_lt_of_cell? w0 _ hx293_1)).trans hx293_1
 replace hx293_2 := (HB.out.below.cell (World.block_lt_of_cell? w0 _ hx293_2)).trans hx293_2
 replace hx293_3 := (HB.out.below.cell (World.block_lt_of_cell? w0 _ hx293_3)).trans hx293_3
 replace hx293_4 := (HB.out.below.cell (World.block_lt_of_cell? w0 _ hx293_4)).trans hx293_4
 replace hx293_5 := (HB.out.below.cell (World.block_lt_of_cell? w0 _ hx293_5)).trans hx293_5
 replace hx293_6 := (HB.out.below.cell (World.block_lt_of_cell? w0 _ hx293_6)).trans hx293_6
 have HR293_3 := Aside0.mk hi293_3
 have HC293_3 := Aside0.mk hl293_3
 clear hi293_3 hl293_3
 have HR293_6 := Aside0.mk hi293_6
 have HC293_6 := Aside0.mk hl293_6
 clear hi293_6 hl293_6
 replace p293 := eq_true p293
 replace q293 := eq_true q293
 go_enter Tryd.func78, Tryd.ntmps78
 go_upto_block 0 with (first | ((with_reducible refine gate_dst (N := 6) rfl ?_); refine box_event ?hg (N := 6) ?hd (cs := #[.int .i64 0, .int .i64 0, .string (⟨#[]⟩ : ByteArray), .slice none 0 0, .string (⟨#[]⟩ : ByteArray), .int .i64 0, .slice none 0 0]) (t := 90) ?hr ?_; (case hd => rfl); (case hg => rfl); (case hr => first | (go_simp; done) | (go_simp; rfl)); intro gb294 hg w7 hbox hb; have HX294 := Aside0.mk (bx_mk (by repeat (first | (with_reducible first | exact HB.out | apply sy_alloc | apply sy_drewN | apply sy_drew1) | exact HB.out)) hb hg); have n0_ := Aside0.mk (sy_step (by repeat (first | (with_reducible first | exact HB.out | apply sy_alloc | apply sy_drewN | apply sy_drew1) | exact HB.out)) hb); have n1_ := Aside0.mk (hbox); have n2_ := Aside0.mk ((by rw [hg]; exact (sy_size (by repeat (first | (with_reducible first | exact HB.out | apply sy_alloc | apply sy_drewN | apply sy_drew1) | exact HB.out))) : w.heap.size ≤ gb294)); have n3_ := Aside0.mk ((by rw [hg]; exact (sy_size (by repeat (first | (with_reducible first | exact HB.out | apply sy_alloc | apply sy_drewN | apply sy_drew1) | exact HB.out))) : w.heap.size ≤ gb294)); clear HB; have HB := n0_; have BK294 := n1_; have GW294 := n2_; have GE294 := n3_; clear n0_ n1_ n2_ n3_; clear hb hbox hg; obtain ⟨⟨hcz8_0, hcz8_1, hcz8_2, hcz8_3, hcz8_4, hcz8_5, hcz8_6⟩, hfz8_0, hfz8_1, hfz8_2, hfz8_3, hfz8_4, hfz8_5, hfz8_6⟩ := Op.cells7 BK294.out))
 (try simp only [Act.put, List.setIfInBounds_toArray, List.set_cons_zero, List.set_cons_succ])
 go_cut [] (fun wc => ∃ (kq : Nat) (x0_5 : ByteArray), Aside0 (impl_sayItem.j0 kq x0_5 l1 ((rd_T90 l1 a2).f0) ((rd_T90 l1 a2).f1) ((rd_T90 l1 a2).f2) ((rd_T90 l1 a2).f3) ((rd_T90 l1 a2).f4) ((rd_T90 l1 a2).f5) ((rd_T90 l1 a2).f6) = some r) ∧ Aside0 (kq ≤ k) ∧ Aside0 (wc.heap[gb294]? = some (.cells #[.int .i64 ((rd_T90 l1 a2).f0), .int .i64 ((rd_T90 l1 a2).f1), .string ((rd_T90 l1 a2).f2), (.slice A293_3 ((rd_T90 l1 a2).f3).length c293_3), .string ((rd_T90 l1 a2).f4), .int .i64 ((rd_T90 l1 a2).f5), (.slice A293_6 ((rd_T90 l1 a2).f6).length c293_6)] 90 (0, 0))) ∧ Aside0 (Say w0 b x0_5 w wc))
 case first =>
  have H := HC6.out
  clear HC6
  by_cases c9 : ((rd_T90 l1 a2).f0) = 5
  ·rw [if_pos c9] at H
   have c9b0 : (((rd_T90 l1 a2).f0) == 5) = true := beq_iff_eq.mpr c9
   have c9b1 : (((rd_T90 l1 a2).f0) != 5) = false := bne_eq_false_iff_eq.mpr c9
   clear c9
   (first | rw [c9b0] | (simp only [i64_w, i32_w]; rw [c9b0]) | skip)
   (try (generalize hgzc9 : (((rd_T90 l1 a2).f0) == 5) = bqc9 at *; subst c9b0; have c9b0 := hgzc9; clear hgzc9))
   by_cases c10 : 10 + ((rd_T90 l1 a2).f4).size ≤ 9223372036854775807
   case neg => rw [if_neg c10] at H; exact absurd H (by simp)
   rw [if_pos c10] at H
   have c10b0 := eq_true c10
   have c10b1 := decide_eq_true c10
   try have c10b2 : (9223372036854775807 < 10 + ((rd_T90 l1 a2).f4).size) = False := eq_false (Nat.not_lt.2 c10)
   by_cases c11 : ((⟨#[60, 33, 100, 111, 99, 116, 121, 112, 101, 32]⟩ : ByteArray) ++ ((rd_T90 l1 a2).f4)).size + 1 ≤ 9223372036854775807
   case neg => rw [if_neg c11] at H; exact absurd H (by simp)
   rw [if_pos c11] at H
   have c11b0 := eq_true c11
   have c11b1 := decide_eq_true c11
   try (have c11b5 := c11; simp only [ByteArray.size_append, show (⟨#[60, 33, 100, 111, 99, 116, 121, 112, 101, 32]⟩ : ByteArray).size = 10 from rfl] at c11b5; have c11b6 := eq_false (Nat.not_lt.2 c11b5))
   try have c11b2 : (9223372036854775807 < ((⟨#[60, 33, 100, 111, 99, 116, 121, 112, 101, 32]⟩ : ByteArray) ++ ((rd_T90 l1 a2).f4)).size + 1) = False := eq_false (Nat.not_lt.2 c11)
   by_cases c12 : a0.size + (((⟨#[60, 33, 100, 111, 99, 116, 121, 112, 101, 32]⟩ : ByteArray) ++ ((rd_T90 l1 a2).f4)) ++ (⟨#[62]⟩ : ByteArray)).size ≤ 140737488355328
   case neg => rw [if_neg c12] at H; exact absurd H (by simp)
   rw [if_pos c12] at H
   have LA13 := Aside0.mk c12
   replace H := Option.bind_eq_some_iff.mp H
   obtain ⟨t295, A130, H⟩ := H
   replace H : (impl_sayItem.j0 k t295 l1 ((rd_T90 l1 a2).f0) ((rd_T90 l1 a2).f1) ((rd_T90 l1 a2).f2) ((rd_T90 l1 a2).f3) ((rd_T90 l1 a2).f4) ((rd_T90 l1 a2).f5) ((rd_T90 l1 a2).f6)) = some r := by first | exact H | (rw [c9b0]; exact H)
   have A13 := Aside0.mk (Option.some.inj A130)
   clear A130
   have H' := Aside0.mk H
   clear H
   obtain ⟨⟨hcz14_0, hcz14_1, hcz14_2, hcz14_3, hcz14_4, hcz14_5, hcz14_6⟩, hfz14_0, hfz14_1, hfz14_2, hfz14_3, hfz14_4, hfz14_5, hfz14_6⟩ := Op.cells7 BK294.out
   go_wp2_with (first | ((with_reducible refine gate_callee (f := 49) rfl ?_); refine goesL_ (some 22) rfl rfl Tryd.func49 (by kernel_rfl) rfl #[.pointer (some ⟨b, 0, none⟩), .string (((⟨#[60, 33, 100, 111, 99, 116, 121, 112, 101, 32]⟩ : ByteArray) ++ ((rd_T90 l1 a2).f4)) ++ (⟨#[62]⟩ : ByteArray))] rfl ab5 ?_; (with_reducible refine (sy_WriteString (w0 := w0) (we := w) (acc := a0) (((⟨#[60, 33, 100, 111, 99, 116, 121, 112, 101, 32]⟩ : ByteArray) ++ ((rd_T90 l1 a2).f4)) ++ (⟨#[62]⟩ : ByteArray)) ?sideS ?sideL).mono ?_); (case sideL => exact LA13.out); (case sideS => exact (by first | ((repeat (with_reducible first | exact HB.out | apply sy_alloc | apply sy_drewN | apply sy_drew1)); done) | exact bx_say (by repeat (with_reducible first | exact HX294.out | apply bx_set | apply bx_alloc | apply bx_drewN | apply bx_drew1)) | (repeat (first | (with_reducible first | exact HB.out | apply sy_alloc | apply sy_drewN | apply sy_drew1) | exact HB.out)))); rintro e w15 ⟨rfl, hs, hk_⟩; refine ⟨_, rfl, ?_⟩; have n0_ := Aside0.mk (blk_others (g := gb294) (cs := #[.int .i64 ((rd_T90 l1 a2).f0), .int .i64 ((rd_T90 l1 a2).f1), .string ((rd_T90 l1 a2).f2), .slice A293_3 ((rd_T90 l1 a2).f3).length c293_3, .string ((rd_T90 l1 a2).f4), .int .i64 ((rd_T90 l1 a2).f5), .slice A293_6 ((rd_T90 l1 a2).f6).length c293_6]) (T := 90) (by (with_reducible repeat (first | refine blk_drewN ?_ _ | refine blk_drew ?_ | refine blk_alloc ?_ _)); refine blk_put (cs := #[.int .i64 ((rd_T90 l1 a2).f0), .int .i64 ((rd_T90 l1 a2).f1), .string ((rd_T90 l1 a2).f2), .slice A293_3 ((rd_T90 l1 a2).f3).length c293_3, .string ((rd_T90 l1 a2).f4), .int .i64 ((rd_T90 l1 a2).f5), .slice none 0 0]) ?_ 6 _ rfl; (with_reducible repeat (first | refine blk_drewN ?_ _ | refine blk_drew ?_ | refine blk_alloc ?_ _)); refine blk_put (cs := #[.int .i64 ((rd_T90 l1 a2).f0), .int .i64 ((rd_T90 l1 a2).f1), .string ((rd_T90 l1 a2).f2), .slice A293_3 ((rd_T90 l1 a2).f3).length c293_3, .string ((rd_T90 l1 a2).f4), .int .i64 0, .slice none 0 0]) ?_ 5 _ rfl; (with_reducible repeat (first | refine blk_drewN ?_ _ | refine blk_drew ?_ | refine blk_alloc ?_ _)); refine blk_put (cs := #[.int .i64 ((rd_T90 l1 a2).f0), .int .i64 ((rd_T90 l1 a2).f1), .string ((rd_T90 l1 a2).f2), .slice A293_3 ((rd_T90 l1 a2).f3).length c293_3, .string (⟨#[]⟩ : ByteArray), .int .i64 0, .slice none 0 0]) ?_ 4 _ rfl; (with_reducible repeat (first | refine blk_drewN ?_ _ | refine blk_drew ?_ | refine blk_alloc ?_ _)); refine blk_put (cs := #[.int .i64 ((rd_T90 l1 a2).f0), .int .i64 ((rd_T90 l1 a2).f1), .string ((rd_T90 l1 a2).f2), .slice none 0 0, .string (⟨#[]⟩ : ByteArray), .int .i64 0, .slice none 0 0]) ?_ 3 _ rfl; (with_reducible repeat (first | refine blk_drewN ?_ _ | refine blk_drew ?_ | refine blk_alloc ?_ _)); refine blk_put (cs := #[.int .i64 ((rd_T90 l1 a2).f0), .int .i64 ((rd_T90 l1 a2).f1), .string (⟨#[]⟩ : ByteArray), .slice none 0 0, .string (⟨#[]⟩ : ByteArray), .int .i64 0, .slice none 0 0]) ?_ 2 _ rfl; (with_reducible repeat (first | refine blk_drewN ?_ _ | refine blk_drew ?_ | refine blk_alloc ?_ _)); refine blk_put (cs := #[.int .i64 ((rd_T90 l1 a2).f0), .int .i64 0, .string (⟨#[]⟩ : ByteArray), .slice none 0 0, .string (⟨#[]⟩ : ByteArray), .int .i64 0, .slice none 0 0]) ?_ 1 _ rfl; (with_reducible repeat (first | refine blk_drewN ?_ _ | refine blk_drew ?_ | refine blk_alloc ?_ _)); refine blk_put (cs := #[.int .i64 0, .int .i64 0, .string (⟨#[]⟩ : ByteArray), .slice none 0 0, .string (⟨#[]⟩ : ByteArray), .int .i64 0, .slice none 0 0]) ?_ 0 _ rfl; (with_reducible repeat (first | refine blk_drewN ?_ _ | refine blk_drew ?_ | refine blk_alloc ?_ _)); exact BK294.out) hk_ (by have := HBLT.out; have := GW294.out; omega) (by decide)); have n1_ := Aside0.mk (sy_as A13.out hs); clear BK294; clear HB; have BK294 := n0_; have HB := n1_; clear n0_ n1_; clear hs hk_))
   go_meet
   case rel => exact ⟨_, (t295), (by first | exact H' | (have h_ := H'.out; rw [c9b0] at h_; exact ⟨h_⟩)), ⟨by first | omega | exact Nat.le_refl _⟩, ⟨ab3 BK294⟩, ⟨by first | ((repeat (with_reducible first | exact HB.out | apply sy_alloc | apply sy_drewN | apply sy_drew1)); done) | exact bx_say (by repeat (with_reducible first | exact HX294.out | apply bx_set | apply bx_alloc | apply bx_drewN | apply bx_drew1)) | (repeat (first | (with_reducible first | exact HB.out | apply sy_alloc | apply sy_drewN | apply sy_drew1) | exact HB.out))⟩⟩
  ·rw [if_neg c9] at H
   have c9b0 : (((rd_T90 l1 a2).f0) == 5) = false := beq_eq_false_iff_ne.mpr c9
   have c9b1 : (((rd_T90 l1 a2).f0) != 5) = true := bne_iff_ne.mpr c9
   (first | rw [c9b0] | (simp only [i64_w, i32_w]; rw [c9b0]) | skip)
   (try (generalize hgzc9 : (((rd_T90 l1 a2).f0) == 5) = bqc9 at *; subst c9b0; have c9b0 := hgzc9; clear hgzc9))
   by_cases c16 : ((rd_T90 l1 a2).f0) = 4
   ·rw [if_pos c16] at H
    have c16b0 : (((rd_T90 l1 a2).f0) == 4) = true := beq_iff_eq.mpr c16
    have c16b1 : (((rd_T90 l1 a2).f0) != 4) = false := bne_eq_false_iff_eq.mpr c16
    clear c16
    by_cases c17 : 4 + ((rd_T90 l1 a2).f4).size ≤ 9223372036854775807
    case neg => rw [if_neg c17] at H; exact absurd H (by simp)
    rw [if_pos c17] at H
    have c17b0 := eq_true c17
    have c17b1 := decide_eq_true c17
    try have c17b2 : (9223372036854775807 < 4 + ((rd_T90 l1 a2).f4).size) = False := eq_false (Nat.not_lt.2 c17)
    by_cases c18 : ((⟨#[60, 33, 45, 45]⟩ : ByteArray) ++ ((rd_T90 l1 a2).f4)).size + 3 ≤ 9223372036854775807
    case neg => rw [if_neg c18] at H; exact absurd H (by simp)
    rw [if_pos c18] at H
    have c18b0 := eq_true c18
    have c18b1 := decide_eq_true c18
    try (have c18b5 := c18; simp only [ByteArray.size_append, show (⟨#[60, 33, 45, 45]⟩ : ByteArray).size = 4 from rfl] at c18b5; have c18b6 := eq_false (Nat.not_lt.2 c18b5))
    try have c18b2 : (9223372036854775807 < ((⟨#[60, 33, 45, 45]⟩ : ByteArray) ++ ((rd_T90 l1 a2).f4)).size + 3) = False := eq_false (Nat.not_lt.2 c18)
    by_cases c19 : a0.size + (((⟨#[60, 33, 45, 45]⟩ : ByteArray) ++ ((rd_T90 l1 a2).f4)) ++ (⟨#[45, 45, 62]⟩ : ByteArray)).size ≤ 140737488355328
    case neg => rw [if_neg c19] at H; exact absurd H (by simp)
    rw [if_pos c19] at H
    have LA20 := Aside0.mk c19
    replace H := Option.bind_eq_some_iff.mp H
    obtain ⟨t296, A200, H⟩ := H
    replace H : (impl_sayItem.j0 k t296 l1 ((rd_T90 l1 a2).f0) ((rd_T90 l1 a2).f1) ((rd_T90 l1 a2).f2) ((rd_T90 l1 a2).f3) ((rd_T90 l1 a2).f4) ((rd_T90 l1 a2).f5) ((rd_T90 l1 a2).f6)) = some r := by first | exact H | (rw [c9b0]; exact H)
    have A20 := Aside0.mk (Option.some.inj A200)
    clear A200
    have H' := Aside0.mk H
    clear H
    obtain ⟨⟨hcz21_0, hcz21_1, hcz21_2, hcz21_3, hcz21_4, hcz21_5, hcz21_6⟩, hfz21_0, hfz21_1, hfz21_2, hfz21_3, hfz21_4, hfz21_5, hfz21_6⟩ := Op.cells7 BK294.out
    go_wp2_with (first | ((with_reducible refine gate_callee (f := 49) rfl ?_); refine goesL_ (some 30) rfl rfl Tryd.func49 (by kernel_rfl) rfl #[.pointer (some ⟨b, 0, none⟩), .string (((⟨#[60, 33, 45, 45]⟩ : ByteArray) ++ ((rd_T90 l1 a2).f4)) ++ (⟨#[45, 45, 62]⟩ : ByteArray))] rfl ab5 ?_; (with_reducible refine (sy_WriteString (w0 := w0) (we := w) (acc := a0) (((⟨#[60, 33, 45, 45]⟩ : ByteArray) ++ ((rd_T90 l1 a2).f4)) ++ (⟨#[45, 45, 62]⟩ : ByteArray)) ?sideS ?sideL).mono ?_); (case sideL => exact LA20.out); (case sideS => exact (by first | ((repeat (with_reducible first | exact HB.out | apply sy_alloc | apply sy_drewN | apply sy_drew1)); done) | exact bx_say (by repeat (with_reducible first | exact HX294.out | apply bx_set | apply bx_alloc | apply bx_drewN | apply bx_drew1)) | (repeat (first | (with_reducible first | exact HB.out | apply sy_alloc | apply sy_drewN | apply sy_drew1) | exact HB.out)))); rintro e w22 ⟨rfl, hs, hk_⟩; refine ⟨_, rfl, ?_⟩; have n0_ := Aside0.mk (blk_others (g := gb294) (cs := #[.int .i64 ((rd_T90 l1 a2).f0), .int .i64 ((rd_T90 l1 a2).f1), .string ((rd_T90 l1 a2).f2), .slice A293_3 ((rd_T90 l1 a2).f3).length c293_3, .string ((rd_T90 l1 a2).f4), .int .i64 ((rd_T90 l1 a2).f5), .slice A293_6 ((rd_T90 l1 a2).f6).length c293_6]) (T := 90) (by (with_reducible repeat (first | refine blk_drewN ?_ _ | refine blk_drew ?_ | refine blk_alloc ?_ _)); refine blk_put (cs := #[.int .i64 ((rd_T90 l1 a2).f0), .int .i64 ((rd_T90 l1 a2).f1), .string ((rd_T90 l1 a2).f2), .slice A293_3 ((rd_T90 l1 a2).f3).length c293_3, .string ((rd_T90 l1 a2).f4), .int .i64 ((rd_T90 l1 a2).f5), .slice none 0 0]) ?_ 6 _ rfl; (with_reducible repeat (first | refine blk_drewN ?_ _ | refine blk_drew ?_ | refine blk_alloc ?_ _)); refine blk_put (cs := #[.int .i64 ((rd_T90 l1 a2).f0), .int .i64 ((rd_T90 l1 a2).f1), .string ((rd_T90 l1 a2).f2), .slice A293_3 ((rd_T90 l1 a2).f3).length c293_3, .string ((rd_T90 l1 a2).f4), .int .i64 0, .slice none 0 0]) ?_ 5 _ rfl; (with_reducible repeat (first | refine blk_drewN ?_ _ | refine blk_drew ?_ | refine blk_alloc ?_ _)); refine blk_put (cs := #[.int .i64 ((rd_T90 l1 a2).f0), .int .i64 ((rd_T90 l1 a2).f1), .string ((rd_T90 l1 a2).f2), .slice A293_3 ((rd_T90 l1 a2).f3).length c293_3, .string (⟨#[]⟩ : ByteArray), .int .i64 0, .slice none 0 0]) ?_ 4 _ rfl; (with_reducible repeat (first | refine blk_drewN ?_ _ | refine blk_drew ?_ | refine blk_alloc ?_ _)); refine blk_put (cs := #[.int .i64 ((rd_T90 l1 a2).f0), .int .i64 ((rd_T90 l1 a2).f1), .string ((rd_T90 l1 a2).f2), .slice none 0 0, .string (⟨#[]⟩ : ByteArray), .int .i64 0, .slice none 0 0]) ?_ 3 _ rfl; (with_reducible repeat (first | refine blk_drewN ?_ _ | refine blk_drew ?_ | refine blk_alloc ?_ _)); refine blk_put (cs := #[.int .i64 ((rd_T90 l1 a2).f0), .int .i64 ((rd_T90 l1 a2).f1), .string (⟨#[]⟩ : ByteArray), .slice none 0 0, .string (⟨#[]⟩ : ByteArray), .int .i64 0, .slice none 0 0]) ?_ 2 _ rfl; (with_reducible repeat (first | refine blk_drewN ?_ _ | refine blk_drew ?_ | refine blk_alloc ?_ _)); refine blk_put (cs := #[.int .i64 ((rd_T90 l1 a2).f0), .int .i64 0, .string (⟨#[]⟩ : ByteArray), .slice none 0 0, .string (⟨#[]⟩ : ByteArray), .int .i64 0, .slice none 0 0]) ?_ 1 _ rfl; (with_reducible repeat (first | refine blk_drewN ?_ _ | refine blk_drew ?_ | refine blk_alloc ?_ _)); refine blk_put (cs := #[.int .i64 0, .int .i64 0, .string (⟨#[]⟩ : ByteArray), .slice none 0 0, .string (⟨#[]⟩ : ByteArray), .int .i64 0, .slice none 0 0]) ?_ 0 _ rfl; (with_reducible repeat (first | refine blk_drewN ?_ _ | refine blk_drew ?_ | refine blk_alloc ?_ _)); exact BK294.out) hk_ (by have := HBLT.out; have := GW294.out; omega) (by decide)); have n1_ := Aside0.mk (sy_as A20.out hs); clear BK294; clear HB; have BK294 := n0_; have HB := n1_; clear n0_ n1_; clear hs hk_))
    go_meet
    case rel => exact ⟨_, (t296), (by first | exact H' | (have h_ := H'.out; rw [c9b0] at h_; exact ⟨h_⟩)), ⟨by first | omega | exact Nat.le_refl _⟩, ⟨ab3 BK294⟩, ⟨by first | ((repeat (with_reducible first | exact HB.out | apply sy_alloc | apply sy_drewN | apply sy_drew1)); done) | exact bx_say (by repeat (with_reducible first | exact HX294.out | apply bx_set | apply bx_alloc | apply bx_drewN | apply bx_drew1)) | (repeat (first | (with_reducible first | exact HB.out | apply sy_alloc | apply sy_drewN | apply sy_drew1) | exact HB.out))⟩⟩
   ·rw [if_neg c16] at H
    have c16b0 : (((rd_T90 l1 a2).f0) == 4) = false := beq_eq_false_iff_ne.mpr c16
    have c16b1 : (((rd_T90 l1 a2).f0) != 4) = true := bne_iff_ne.mpr c16
    by_cases c23 : ((rd_T90 l1 a2).f0) = 3
    ·rw [if_pos c23] at H
     have c23b0 : (((rd_T90 l1 a2).f0) == 3) = true := beq_iff_eq.mpr c23
     have c23b1 : (((rd_T90 l1 a2).f0) != 3) = false := bne_eq_false_iff_eq.mpr c23
     clear c23
     by_cases c24 : 0 ≤ ((rd_T90 l1 a2).f5)
     case neg => rw [if_neg c24] at H; exact absurd H (by simp)
     rw [if_pos c24] at H
     have c24b0 := decide_eq_true c24
     clear c24
     by_cases c25 : ((rd_T90 l1 a2).f5) < (l1.length : Int)
     case neg => rw [if_neg c25] at H; exact absurd H (by simp)
     rw [if_pos c25] at H
     have c25b0 := decide_eq_true c25
     clear c25
     replace H := Option.bind_eq_some_iff.mp H
     obtain ⟨t298, A260, H⟩ := H
     replace H : (if t298 = true then (if a0.size + ((rd_T90 l1 a2).f4).size ≤ 140737488355328 then ((some (a0 ++ ((rd_T90 l1 a2).f4))).bind fun t299 => (impl_sayItem.j0 k t299 l1 ((rd_T90 l1 a2).f0) ((rd_T90 l1 a2).f1) ((rd_T90 l1 a2).f2) ((rd_T90 l1 a2).f3) ((rd_T90 l1 a2).f4) ((rd_T90 l1 a2).f5) ((rd_T90 l1 a2).f6))) else (none)) else ((impl_textSaid.f ((rd_T90 l1 a2).f4)).bind fun t300 => (if a0.size + t300.size ≤ 140737488355328 then ((some (a0 ++ t300)).bind fun t301 => (impl_sayItem.j0 k t301 l1 ((rd_T90 l1 a2).f0) ((rd_T90 l1 a2).f1) ((rd_T90 l1 a2).f2) ((rd_T90 l1 a2).f3) ((rd_T90 l1 a2).f4) ((rd_T90 l1 a2).f5) ((rd_T90 l1 a2).f6))) else (none)))) = some r := by first | exact H | (rw [c9b0]; exact H)
     have A26 := Aside0.mk A260
     clear A260
     by_cases c27 : t298 = true
     ·subst c27
      rw [if_pos rfl] at H
      by_cases c28 : a0.size + ((rd_T90 l1 a2).f4).size ≤ 140737488355328
      case neg => rw [if_neg c28] at H; exact absurd H (by simp)
      rw [if_pos c28] at H
      have LA29 := Aside0.mk c28
      replace H := Option.bind_eq_some_iff.mp H
      obtain ⟨t299, A290, H⟩ := H
      replace H : (impl_sayItem.j0 k t299 l1 ((rd_T90 l1 a2).f0) ((rd_T90 l1 a2).f1) ((rd_T90 l1 a2).f2) ((rd_T90 l1 a2).f3) ((rd_T90 l1 a2).f4) ((rd_T90 l1 a2).f5) ((rd_T90 l1 a2).f6)) = some r := by first | exact H | (rw [c9b0]; exact H)
      have A29 := Aside0.mk (Option.some.inj A290)
      clear A290
      have H' := Aside0.mk H
      clear H
      obtain ⟨⟨hcz30_0, hcz30_1, hcz30_2, hcz30_3, hcz30_4, hcz30_5, hcz30_6⟩, hfz30_0, hfz30_1, hfz30_2, hfz30_3, hfz30_4, hfz30_5, hfz30_6⟩ := Op.cells7 BK294.out
      have p297 : 0 ≤ (((rd_T90 l1 a2).f5) : Int) := of_decide_eq_true ab4
      have q297 : ((rd_T90 l1 a2).f5) < (l1.length : Int) := of_decide_eq_true ab4
      obtain ⟨ad297, A297_3, c297_3, A297_6, c297_6, e297, hx297_0, hx297_1, hx297_2, hx297_3, hx297_4, hx297_5, hx297_6, hl297_3, hi297_3, hl297_6, hi297_6⟩ := at_T90 HR1.out ((rd_T90 l1 a2).f5) p297 q297
      obtain rfl : ad293 = ad297 := (by injection e297)
      have hn297_0 : ad293.block ≠ gb294 := Nat.ne_of_lt (Nat.lt_of_lt_of_le (by have := World.block_lt_of_cell? _ _ hx297_0; first | rwa [add_block] at this | exact this) (Nat.le_trans HW0.out GW294.out))
      have hn297_1 : ad293.block ≠ gb294 := Nat.ne_of_lt (Nat.lt_of_lt_of_le (by have := World.block_lt_of_cell? _ _ hx297_0; first | rwa [add_block] at this | exact this) (Nat.le_trans HW0.out GW294.out))
      have hn297_2 : ad293.block ≠ gb294 := Nat.ne_of_lt (Nat.lt_of_lt_of_le (by have := World.block_lt_of_cell? _ _ hx297_0; first | rwa [add_block] at this | exact this) (Nat.le_trans HW0.out GW294.out))
      have hn297_3 : ad293.block ≠ gb294 := Nat.ne_of_lt (Nat.lt_of_lt_of_le (by have := World.block_lt_of_cell? _ _ hx297_0; first | rwa [add_block] at this | exact this) (Nat.le_trans HW0.out GW294.out))
      have hn297_4 : ad293.block ≠ gb294 := Nat.ne_of_lt (Nat.lt_of_lt_of_le (by have := World.block_lt_of_cell? _ _ hx297_0; first | rwa [add_block] at this | exact this) (Nat.le_trans HW0.out GW294.out))
      have hn297_5 : ad293.block ≠ gb294 := Nat.ne_of_lt (Nat.lt_of_lt_of_le (by have := World.block_lt_of_cell? _ _ hx297_0; first | rwa [add_block] at this | exact this) (Nat.le_trans HW0.out GW294.out))
      have hn297_6 : ad293.block ≠ gb294 := Nat.ne_of_lt (Nat.lt_of_lt_of_le (by have := World.block_lt_of_cell? _ _ hx297_0; first | rwa [add_block] at this | exact this) (Nat.le_trans HW0.out GW294.out))
      replace hx297_0 := (HB.out.below.cell (World.block_lt_of_cell? w0 _ hx297_0)).trans hx297_0
      replace hx297_1 := (HB.out.below.cell (World.block_lt_of_cell? w0 _ hx297_1)).trans hx297_1
      replace hx297_2 := (HB.out.below.cell (World.block_lt_of_cell? w0 _ hx297_2)).trans hx297_2
      replace hx297_3 := (HB.out.below.cell (World.block_lt_of_cell? w0 _ hx297_3)).trans hx297_3
      replace hx297_4 := (HB.out.below.cell (World.block_lt_of_cell? w0 _ hx297_4)).trans hx297_4
      replace hx297_5 := (HB.out.below.cell (World.block_lt_of_cell? w0 _ hx297_5)).trans hx297_5
      replace hx297_6 := (HB.out.below.cell (World.block_lt_of_cell? w0 _ hx297_6)).trans hx297_6
      have HR297_3 := Aside0.mk hi297_3
      have HC297_3 := Aside0.mk hl297_3
      clear hi297_3 hl297_3
      have HR297_6 := Aside0.mk hi297_6
      have HC297_6 := Aside0.mk hl297_6
      clear hi297_6 hl297_6
      replace hx297_0 := (cell_far (p := ⟨gb294, 0, none⟩) (by first | (rw [add_block]; exact hn297_0) | (show (Addr.add _ _).block ≠ _; rw [add_block]; exact hn297_0) | exact hn297_0) (.int .i64 ((rd_T90 l1 a2).f0))).trans hx297_0
      replace hx297_1 := (cell_far (p := ⟨gb294, 0, none⟩) (by first | (rw [add_block]; exact hn297_0) | (show (Addr.add _ _).block ≠ _; rw [add_block]; exact hn297_0) | exact hn297_0) (.int .i64 ((rd_T90 l1 a2).f0))).trans hx297_1
      replace hx297_2 := (cell_far (p := ⟨gb294, 0, none⟩) (by first | (rw [add_block]; exact hn297_0) | (show (Addr.add _ _).block ≠ _; rw [add_block]; exact hn297_0) | exact hn297_0) (.int .i64 ((rd_T90 l1 a2).f0))).trans hx297_2
      replace hx297_3 := (cell_far (p := ⟨gb294, 0, none⟩) (by first | (rw [add_block]; exact hn297_0) | (show (Addr.add _ _).block ≠ _; rw [add_block]; exact hn297_0) | exact hn297_0) (.int .i64 ((rd_T90 l1 a2).f0))).trans hx297_3
      replace hx297_4 := (cell_far (p := ⟨gb294, 0, none⟩) (by first | (rw [add_block]; exact hn297_0) | (show (Addr.add _ _).block ≠ _; rw [add_block]; exact hn297_0) | exact hn297_0) (.int .i64 ((rd_T90 l1 a2).f0))).trans hx297_4
      replace hx297_5 := (cell_far (p := ⟨gb294, 0, none⟩) (by first | (rw [add_block]; exact hn297_0) | (show (Addr.add _ _).block ≠ _; rw [add_block]; exact hn297_0) | exact hn297_0) (.int .i64 ((rd_T90 l1 a2).f0))).trans hx297_5
      replace hx297_6 := (cell_far (p := ⟨gb294, 0, none⟩) (by first | (rw [add_block]; exact hn297_0) | (show (Addr.add _ _).block ≠ _; rw [add_block]; exact hn297_0) | exact hn297_0) (.int .i64 ((rd_T90 l1 a2).f0))).trans hx297_6
      replace hx297_0 := (cell_far (p := ⟨gb294, 1, none⟩) (by first | (rw [add_block]; exact hn297_1) | (show (Addr.add _ _).block ≠ _; rw [add_block]; exact hn297_1) | exact hn297_1) (.int .i64 ((rd_T90 l1 a2).f1))).trans hx297_0
      replace hx297_1 := (cell_far (p := ⟨gb294, 1, none⟩) (by first | (rw [add_block]; exact hn297_1) | (show (Addr.add _ _).block ≠ _; rw [add_block]; exact hn297_1) | exact hn297_1) (.int .i64 ((rd_T90 l1 a2).f1))).trans hx297_1
      replace hx297_2 := (cell_far (p := ⟨gb294, 1, none⟩) (by first | (rw [add_block]; exact hn297_1) | (show (Addr.add _ _).block ≠ _; rw [add_block]; exact hn297_1) | exact hn297_1) (.int .i64 ((rd_T90 l1 a2).f1))).trans hx297_2
      replace hx297_3 := (cell_far (p := ⟨gb294, 1, none⟩) (by first | (rw [add_block]; exact hn297_1) | (show (Addr.add _ _).block ≠ _; rw [add_block]; exact hn297_1) | exact hn297_1) (.int .i64 ((rd_T90 l1 a2).f1))).trans hx297_3
      replace hx297_4 := (cell_far (p := ⟨gb294, 1, none⟩) (by first | (rw [add_block]; exact hn297_1) | (show (Addr.add _ _).block ≠ _; rw [add_block]; exact hn297_1) | exact hn297_1) (.int .i64 ((rd_T90 l1 a2).f1))).trans hx297_4
      replace hx297_5 := (cell_far (p := ⟨gb294, 1, none⟩) (by first | (rw [add_block]; exact hn297_1) | (show (Addr.add _ _).block ≠ _; rw [add_block]; exact hn297_1) | exact hn297_1) (.int .i64 ((rd_T90 l1 a2).f1))).trans hx297_5
      replace hx297_6 := (cell_far (p := ⟨gb294, 1, none⟩) (by first | (rw [add_block]; exact hn297_1) | (show (Addr.add _ _).block ≠ _; rw [add_block]; exact hn297_1) | exact hn297_1) (.int .i64 ((rd_T90 l1 a2).f1))).trans hx297_6
      replace hx297_0 := (cell_far (p := ⟨gb294, 2, none⟩) (by first | (rw [add_block]; exact hn297_2) | (show (Addr.add _ _).block ≠ _; rw [add_block]; exact hn297_2) | exact hn297_2) (.string ((rd_T90 l1 a2).f2))).trans hx297_0
      replace hx297_1 := (cell_far (p := ⟨gb294, 2, none⟩) (by first | (rw [add_block]; exact hn297_2) | (show (Addr.add _ _).block ≠ _; rw [add_block]; exact hn297_2) | exact hn297_2) (.string ((rd_T90 l1 a2).f2))).trans hx297_1
      replace hx297_2 := (cell_far (p := ⟨gb294, 2, none⟩) (by first | (rw [add_block]; exact hn297_2) | (show (Addr.add _ _).block ≠ _; rw [add_block]; exact hn297_2) | exact hn297_2) (.string ((rd_T90 l1 a2).f2))).trans hx297_2
      replace hx297_3 := (cell_far (p := ⟨gb294, 2, none⟩) (by first | (rw [add_block]; exact hn297_2) | (show (Addr.add _ _).block ≠ _; rw [add_block]; exact hn297_2) | exact hn297_2) (.string ((rd_T90 l1 a2).f2))).trans hx297_3
      replace hx297_4 := (cell_far (p := ⟨gb294, 2, none⟩) (by first | (rw [add_block]; exact hn297_2) | (show (Addr.add _ _).block ≠ _; rw [add_block]; exact hn297_2) | exact hn297_2) (.string ((rd_T90 l1 a2).f2))).trans hx297_4
      replace hx297_5 := (cell_far (p := ⟨gb294, 2, none⟩) (by first | (rw [add_block]; exact hn297_2) | (show (Addr.add _ _).block ≠ _; rw [add_block]; exact hn297_2) | exact hn297_2) (.string ((rd_T90 l1 a2).f2))).trans hx297_5
      replace hx297_6 := (cell_far (p := ⟨gb294, 2, none⟩) (by first | (rw [add_block]; exact hn297_2) | (show (Addr.add _ _).block ≠ _; rw [add_block]; exact hn297_2) | exact hn297_2) (.string ((rd_T90 l1 a2).f2))).trans hx297_6
      replace hx297_0 := (cell_far (p := ⟨gb294, 3, none⟩) (by first | (rw [add_block]; exact hn297_3) | (show (Addr.add _ _).block ≠ _; rw [add_block]; exact hn297_3) | exact hn297_3) (.slice A293_3 ((rd_T90 l1 a2).f3).length c293_3)).trans hx297_0
      replace hx297_1 := (cell_far (p := ⟨gb294, 3, none⟩) (by first | (rw [add_block]; exact hn297_3) | (show (Addr.add _ _).block ≠ _; rw [add_block]; exact hn297_3) | exact hn297_3) (.slice A293_3 ((rd_T90 l1 a2).f3).length c293_3)).trans hx297_1
      replace hx297_2 := (cell_far (p := ⟨gb294, 3, none⟩) (by first | (rw [add_block]; exact hn297_3) | (show (Addr.add _ _).block ≠ _; rw [add_block]; exact hn297_3) | exact hn297_3) (.slice A293_3 ((rd_T90 l1 a2).f3).length c293_3)).trans hx297_2
      replace hx297_3 := (cell_far (p := ⟨gb294, 3, none⟩) (by first | (rw [add_block]; exact hn297_3) | (show (Addr.add _ _).block ≠ _; rw [add_block]; exact hn297_3) | exact hn297_3) (.slice A293_3 ((rd_T90 l1 a2).f3).length c293_3)).trans hx297_3
      replace hx297_4 := (cell_far (p := ⟨gb294, 3, none⟩) (by first | (rw [add_block]; exact hn297_3) | (show (Addr.add _ _).block ≠ _; rw [add_block]; exact hn297_3) | exact hn297_3) (.slice A293_3 ((rd_T90 l1 a2).f3).length c293_3)).trans hx297_4
      replace hx297_5 := (cell_far (p := ⟨gb294, 3, none⟩) (by first | (rw [add_block]; exact hn297_3) | (show (Addr.add _ _).block ≠ _; rw [add_block]; exact hn297_3) | exact hn297_3) (.slice A293_3 ((rd_T90 l1 a2).f3).length c293_3)).trans hx297_5
      replace hx297_6 := (cell_far (p := ⟨gb294, 3, none⟩) (by first | (rw [add_block]; exact hn297_3) | (show (Addr.add _ _).block ≠ _; rw [add_block]; exact hn297_3) | exact hn297_3) (.slice A293_3 ((rd_T90 l1 a2).f3).length c293_3)).trans hx297_6
      replace hx297_0 := (cell_far (p := ⟨gb294, 4, none⟩) (by first | (rw [add_block]; exact hn297_4) | (show (Addr.add _ _).block ≠ _; rw [add_block]; exact hn297_4) | exact hn297_4) (.string ((rd_T90 l1 a2).f4))).trans hx297_0
      replace hx297_1 := (cell_far (p := ⟨gb294, 4, none⟩) (by first | (rw [add_block]; exact hn297_4) | (show (Addr.add _ _).block ≠ _; rw [add_block]; exact hn297_4) | exact hn297_4) (.string ((rd_T90 l1 a2).f4))).trans hx297_1
      replace hx297_2 := (cell_far (p := ⟨gb294, 4, none⟩) (by first | (rw [add_block]; exact hn297_4) | (show (Addr.add _ _).block ≠ _; rw [add_block]; exact hn297_4) | exact hn297_4) (.string ((rd_T90 l1 a2).f4))).trans hx297_2
      replace hx297_3 := (cell_far (p := ⟨gb294, 4, none⟩) (by first | (rw [add_block]; exact hn297_4) | (show (Addr.add _ _).block ≠ _; rw [add_block]; exact hn297_4) | exact hn297_4) (.string ((rd_T90 l1 a2).f4))).trans hx297_3
      replace hx297_4 := (cell_far (p := ⟨gb294, 4, none⟩) (by first | (rw [add_block]; exact hn297_4) | (show (Addr.add _ _).block ≠ _; rw [add_block]; exact hn297_4) | exact hn297_4) (.string ((rd_T90 l1 a2).f4))).trans hx297_4
      replace hx297_5 := (cell_far (p := ⟨gb294, 4, none⟩) (by first | (rw [add_block]; exact hn297_4) | (show (Addr.add _ _).block ≠ _; rw [add_block]; exact hn297_4) | exact hn297_4) (.string ((rd_T90 l1 a2).f4))).trans hx297_5
      replace hx297_6 := (cell_far (p := ⟨gb294, 4, none⟩) (by first | (rw [add_block]; exact hn297_4) | (show (Addr.add _ _).block ≠ _; rw [add_block]; exact hn297_4) | exact hn297_4) (.string ((rd_T90 l1 a2).f4))).trans hx297_6
      replace hx297_0 := (cell_far (p := ⟨gb294, 5, none⟩) (by first | (rw [add_block]; exact hn297_5) | (show (Addr.add _ _).block ≠ _; rw [add_block]; exact hn297_5) | exact hn297_5) (.int .i64 ((rd_T90 l1 a2).f5))).trans hx297_0
      replace hx297_1 := (cell_far (p := ⟨gb294, 5, none⟩) (by first | (rw [add_block]; exact hn297_5) | (show (Addr.add _ _).block ≠ _; rw [add_block]; exact hn297_5) | exact hn297_5) (.int .i64 ((rd_T90 l1 a2).f5))).trans hx297_1
      replace hx297_2 := (cell_far (p := ⟨gb294, 5, none⟩) (by first | (rw [add_block]; exact hn297_5) | (show (Addr.add _ _).block ≠ _; rw [add_block]; exact hn297_5) | exact hn297_5) (.int .i64 ((rd_T90 l1 a2).f5))).trans hx297_2
      replace hx297_3 := (cell_far (p := ⟨gb294, 5, none⟩) (by first | (rw [add_block]; exact hn297_5) | (show (Addr.add _ _).block ≠ _; rw [add_block]; exact hn297_5) | exact hn297_5) (.int .i64 ((rd_T90 l1 a2).f5))).trans hx297_3
      replace hx297_4 := (cell_far (p := ⟨gb294, 5, none⟩) (by first | (rw [add_block]; exact hn297_5) | (show (Addr.add _ _).block ≠ _; rw [add_block]; exact hn297_5) | exact hn297_5) (.int .i64 ((rd_T90 l1 a2).f5))).trans hx297_4
      replace hx297_5 := (cell_far (p := ⟨gb294, 5, none⟩) (by first | (rw [add_block]; exact hn297_5) | (show (Addr.add _ _).block ≠ _; rw [add_block]; exact hn297_5) | exact hn297_5) (.int .i64 ((rd_T90 l1 a2).f5))).trans hx297_5
      replace hx297_6 := (cell_far (p := ⟨gb294, 5, none⟩) (by first | (rw [add_block]; exact hn297_5) | (show (Addr.add _ _).block ≠ _; rw [add_block]; exact hn297_5) | exact hn297_5) (.int .i64 ((rd_T90 l1 a2).f5))).trans hx297_6
      replace hx297_0 := (cell_far (p := ⟨gb294, 6, none⟩) (by first | (rw [add_block]; exact hn297_6) | (show (Addr.add _ _).block ≠ _; rw [add_block]; exact hn297_6) | exact hn297_6) (.slice A293_6 ((rd_T90 l1 a2).f6).length c293_6)).trans hx297_0
      replace hx297_1 := (cell_far (p := ⟨gb294, 6, none⟩) (by first | (rw [add_block]; exact hn297_6) | (show (Addr.add _ _).block ≠ _; rw [add_block]; exact hn297_6) | exact hn297_6) (.slice A293_6 ((rd_T90 l1 a2).f6).length c293_6)).trans hx297_1
      replace hx297_2 := (cell_far (p := ⟨gb294, 6, none⟩) (by first | (rw [add_block]; exact hn297_6) | (show (Addr.add _ _).block ≠ _; rw [add_block]; exact hn297_6) | exact hn297_6) (.slice A293_6 ((rd_T90 l1 a2).f6).length c293_6)).trans hx297_2
      replace hx297_3 := (cell_far (p := ⟨gb294, 6, none⟩) (by first | (rw [add_block]; exact hn297_6) | (show (Addr.add _ _).block ≠ _; rw [add_block]; exact hn297_6) | exact hn297_6) (.slice A293_6 ((rd_T90 l1 a2).f6).length c293_6)).trans hx297_3
      replace hx297_4 := (cell_far (p := ⟨gb294, 6, none⟩) (by first | (rw [add_block]; exact hn297_6) | (show (Addr.add _ _).block ≠ _; rw [add_block]; exact hn297_6) | exact hn297_6) (.slice A293_6 ((rd_T90 l1 a2).f6).length c293_6)).trans hx297_4
      replace hx297_5 := (cell_far (p := ⟨gb294, 6, none⟩) (by first | (rw [add_block]; exact hn297_6) | (show (Addr.add _ _).block ≠ _; rw [add_block]; exact hn297_6) | exact hn297_6) (.slice A293_6 ((rd_T90 l1 a2).f6).length c293_6)).trans hx297_5
      replace hx297_6 := (cell_far (p := ⟨gb294, 6, none⟩) (by first | (rw [add_block]; exact hn297_6) | (show (Addr.add _ _).block ≠ _; rw [add_block]; exact hn297_6) | exact hn297_6) (.slice A293_6 ((rd_T90 l1 a2).f6).length c293_6)).trans hx297_6
      clear hn297_0
      clear hn297_1
      clear hn297_2
      clear hn297_3
      clear hn297_4
      clear hn297_5
      clear hn297_6
      replace p297 := eq_true p297
      replace q297 := eq_true q297
      go_wp2_with (first | ((with_reducible refine gate_callee (f := 114) rfl ?_); refine goesL_ (some 39) rfl rfl Tryd.func114 (by kernel_rfl) rfl #[.string ((rd_T90 l1 ((rd_T90 l1 a2).f5)).f2)] rfl ab5 ?_; (with_reducible refine (impl_isPlainRaw.calls ((rd_T90 l1 ((rd_T90 l1 a2).f5)).f2) true _ A26.out).mono ?_); rintro e wq ⟨rfl, ⟨nd, hW_⟩⟩; refine ⟨_, rfl, ?_⟩; have nb_ : Aside0 (wq.heap[gb294]? = some (.cells #[.int .i64 ((rd_T90 l1 a2).f0), .int .i64 ((rd_T90 l1 a2).f1), .string ((rd_T90 l1 a2).f2), .slice A293_3 ((rd_T90 l1 a2).f3).length c293_3, .string ((rd_T90 l1 a2).f4), .int .i64 ((rd_T90 l1 a2).f5), .slice A293_6 ((rd_T90 l1 a2).f6).length c293_6] 90 (0, 0))) := ⟨by rw [hW_]; (with_reducible repeat (first | refine blk_drewN ?_ _ | refine blk_drew ?_ | refine blk_alloc ?_ _)); refine blk_put (cs := #[.int .i64 ((rd_T90 l1 a2).f0), .int .i64 ((rd_T90 l1 a2).f1), .string ((rd_T90 l1 a2).f2), .slice A293_3 ((rd_T90 l1 a2).f3).length c293_3, .string ((rd_T90 l1 a2).f4), .int .i64 ((rd_T90 l1 a2).f5), .slice none 0 0]) ?_ 6 _ rfl; (with_reducible repeat (first | refine blk_drewN ?_ _ | refine blk_drew ?_ | refine blk_alloc ?_ _)); refine blk_put (cs := #[.int .i64 ((rd_T90 l1 a2).f0), .int .i64 ((rd_T90 l1 a2).f1), .string ((rd_T90 l1 a2).f2), .slice A293_3 ((rd_T90 l1 a2).f3).length c293_3, .string ((rd_T90 l1 a2).f4), .int .i64 0, .slice none 0 0]) ?_ 5 _ rfl; (with_reducible repeat (first | refine blk_drewN ?_ _ | refine blk_drew ?_ | refine blk_alloc ?_ _)); refine blk_put (cs := #[.int .i64 ((rd_T90 l1 a2).f0), .int .i64 ((rd_T90 l1 a2).f1), .string ((rd_T90 l1 a2).f2), .slice A293_3 ((rd_T90 l1 a2).f3).length c293_3, .string (⟨#[]⟩ : ByteArray), .int .i64 0, .slice none 0 0]) ?_ 4 _ rfl; (with_reducible repeat (first | refine blk_drewN ?_ _ | refine blk_drew ?_ | refine blk_alloc ?_ _)); refine blk_put (cs := #[.int .i64 ((rd_T90 l1 a2).f0), .int .i64 ((rd_T90 l1 a2).f1), .string ((rd_T90 l1 a2).f2), .slice none 0 0, .string (⟨#[]⟩ : ByteArray), .int .i64 0, .slice none 0 0]) ?_ 3 _ rfl; (with_reducible repeat (first | refine blk_drewN ?_ _ | refine blk_drew ?_ | refine blk_alloc ?_ _)); refine blk_put (cs := #[.int .i64 ((rd_T90 l1 a2).f0), .int .i64 ((rd_T90 l1 a2).f1), .string (⟨#[]⟩ : ByteArray), .slice none 0 0, .string (⟨#[]⟩ : ByteArray), .int .i64 0, .slice none 0 0]) ?_ 2 _ rfl; (with_reducible repeat (first | refine blk_drewN ?_ _ | refine blk_drew ?_ | refine blk_alloc ?_ _)); refine blk_put (cs := #[.int .i64 ((rd_T90 l1 a2).f0), .int .i64 0, .string (⟨#[]⟩ : ByteArray), .slice none 0 0, .string (⟨#[]⟩ : ByteArray), .int .i64 0, .slice none 0 0]) ?_ 1 _ rfl; (with_reducible repeat (first | refine blk_drewN ?_ _ | refine blk_drew ?_ | refine blk_alloc ?_ _)); refine blk_put (cs := #[.int .i64 0, .int .i64 0, .string (⟨#[]⟩ : ByteArray), .slice none 0 0, .string (⟨#[]⟩ : ByteArray), .int .i64 0, .slice none 0 0]) ?_ 0 _ rfl; (with_reducible repeat (first | refine blk_drewN ?_ _ | refine blk_drew ?_ | refine blk_alloc ?_ _)); exact BK294.out⟩; have nh_ : Aside0 (Say w0 b a0 w wq) := ⟨by rw [hW_]; exact (by first | ((repeat (with_reducible first | exact HB.out | apply sy_alloc | apply sy_drewN | apply sy_drew1)); done) | exact bx_say (by repeat (with_reducible first | exact HX294.out | apply bx_set | apply bx_alloc | apply bx_drewN | apply bx_drew1)) | (repeat (first | (with_reducible first | exact HB.out | apply sy_alloc | apply sy_drewN | apply sy_drew1) | exact HB.out)))⟩; clear hW_ BK294 HB; have BK294 := nb_; have HB := nh_; clear nb_ nh_; have hczq_4 := (blk_cell BK294.out 4); replace hczq_4 : wq.cell? ⟨gb294, 4, none⟩ = some (.string ((rd_T90 l1 a2).f4)) := hczq_4.trans rfl; clear hx297_0 hx297_1 hx297_2 hx297_3 hx297_4 hx297_5 hx297_6) | ((with_reducible refine gate_callee (f := 49) rfl ?_); refine goesL_ (some 43) rfl rfl Tryd.func49 (by kernel_rfl) rfl #[.pointer (some ⟨b, 0, none⟩), .string ((rd_T90 l1 a2).f4)] rfl ab5 ?_; (with_reducible refine (sy_WriteString (w0 := w0) (we := w) (acc := a0) ((rd_T90 l1 a2).f4) ?sideS ?sideL).mono ?_); (case sideL => exact LA29.out); (case sideS => exact (by first | ((repeat (with_reducible first | exact HB.out | apply sy_alloc | apply sy_drewN | apply sy_drew1)); done) | exact bx_say (by repeat (with_reducible first | exact HX294.out | apply bx_set | apply bx_alloc | apply bx_drewN | apply bx_drew1)) | (repeat (first | (with_reducible first | exact HB.out | apply sy_alloc | apply sy_drewN | apply sy_drew1) | exact HB.out)))); rintro e w31 ⟨rfl, hs, hk_⟩; refine ⟨_, rfl, ?_⟩; have n0_ := Aside0.mk (blk_others (g := gb294) (cs := #[.int .i64 ((rd_T90 l1 a2).f0), .int .i64 ((rd_T90 l1 a2).f1), .string ((rd_T90 l1 a2).f2), .slice A293_3 ((rd_T90 l1 a2).f3).length c293_3, .string ((rd_T90 l1 a2).f4), .int .i64 ((rd_T90 l1 a2).f5), .slice A293_6 ((rd_T90 l1 a2).f6).length c293_6]) (T := 90) (by exact BK294.out) hk_ (by have := HBLT.out; have := GW294.out; omega) (by decide)); have n1_ := Aside0.mk (sy_as A29.out hs); clear BK294; clear HB; have BK294 := n0_; have HB := n1_; clear n0_ n1_; clear hs hk_))
      go_meet
      case rel => exact ⟨_, (t299), (by first | exact H' | (have h_ := H'.out; rw [c9b0] at h_; exact ⟨h_⟩)), ⟨by first | omega | exact Nat.le_refl _⟩, ⟨ab3 BK294⟩, ⟨by first | ((repeat (with_reducible first | exact HB.out | apply sy_alloc | apply sy_drewN | apply sy_drew1)); done) | exact bx_say (by repeat (with_reducible first | exact HX294.out | apply bx_set | apply bx_alloc | apply bx_drewN | apply bx_drew1)) | (repeat (first | (with_reducible first | exact HB.out | apply sy_alloc | apply sy_drewN | apply sy_drew1) | exact HB.out))⟩⟩
     ·replace c27 := Bool.eq_false_iff.mpr c27
      subst c27
      rw [if_neg (show ¬ (false = true) by decide)] at H
      replace H := Option.bind_eq_some_iff.mp H
      obtain ⟨t300, A320, H⟩ := H
      replace H : (if a0.size + t300.size ≤ 140737488355328 then ((some (a0 ++ t300)).bind fun t301 => (impl_sayItem.j0 k t301 l1 ((rd_T90 l1 a2).f0) ((rd_T90 l1 a2).f1) ((rd_T90 l1 a2).f2) ((rd_T90 l1 a2).f3) ((rd_T90 l1 a2).f4) ((rd_T90 l1 a2).f5) ((rd_T90 l1 a2).f6))) else (none)) = some r := by first | exact H | (rw [c9b0]; exact H)
      have A32 := Aside0.mk A320
      clear A320
      by_cases c33 : a0.size + t300.size ≤ 140737488355328
      case neg => rw [if_neg c33] at H; exact absurd H (by simp)
      rw [if_pos c33] at H
      have LA34 := Aside0.mk c33
      replace H := Option.bind_eq_some_iff.mp H
      obtain ⟨t301, A340, H⟩ := H
      replace H : (impl_sayItem.j0 k t301 l1 ((rd_T90 l1 a2).f0) ((rd_T90 l1 a2).f1) ((rd_T90 l1 a2).f2) ((rd_T90 l1 a2).f3) ((rd_T90 l1 a2).f4) ((rd_T90 l1 a2).f5) ((rd_T90 l1 a2).f6)) = some r := by first | exact H | (rw [c9b0]; exact H)
      have A34 := Aside0.mk (Option.some.inj A340)
      clear A340
      have H' := Aside0.mk H
      clear H
      obtain ⟨⟨hcz35_0, hcz35_1, hcz35_2, hcz35_3, hcz35_4, hcz35_5, hcz35_6⟩, hfz35_0, hfz35_1, hfz35_2, hfz35_3, hfz35_4, hfz35_5, hfz35_6⟩ := Op.cells7 BK294.out
      have p297 : 0 ≤ (((rd_T90 l1 a2).f5) : Int) := of_decide_eq_true ab4
      have q297 : ((rd_T90 l1 a2).f5) < (l1.length : Int) := of_decide_eq_true ab4
      obtain ⟨ad297, A297_3, c297_3, A297_6, c297_6, e297, hx297_0, hx297_1, hx297_2, hx297_3, hx297_4, hx297_5, hx297_6, hl297_3, hi297_3, hl297_6, hi297_6⟩ := at_T90 HR1.out ((rd_T90 l1 a2).f5) p297 q297
      obtain rfl : ad293 = ad297 := (by injection e297)
      have hn297_0 : ad293.block ≠ gb294 := Nat.ne_of_lt (Nat.lt_of_lt_of_le (by have := World.block_lt_of_cell? _ _ hx297_0; first | rwa [add_block] at this | exact this) (Nat.le_trans HW0.out GW294.out))
      have hn297_1 : ad293.block ≠ gb294 := Nat.ne_of_lt (Nat.lt_of_lt_of_le (by have := World.block_lt_of_cell? _ _ hx297_0; first | rwa [add_block] at this | exact this) (Nat.le_trans HW0.out GW294.out))
      have hn297_2 : ad293.block ≠ gb294 := Nat.ne_of_lt (Nat.lt_of_lt_of_le (by have := World.block_lt_of_cell? _ _ hx297_0; first | rwa [add_block] at this | exact this) (Nat.le_trans HW0.out GW294.out))
      have hn297_3 : ad293.block ≠ gb294 := Nat.ne_of_lt (Nat.lt_of_lt_of_le (by have := World.block_lt_of_cell? _ _ hx297_0; first | rwa [add_block] at this | exact this) (Nat.le_trans HW0.out GW294.out))
      have hn297_4 : ad293.block ≠ gb294 := Nat.ne_of_lt (Nat.lt_of_lt_of_le (by have := World.block_lt_of_cell? _ _ hx297_0; first | rwa [add_block] at this | exact this) (Nat.le_trans HW0.out GW294.out))
      have hn297_5 : ad293.block ≠ gb294 := Nat.ne_of_lt (Nat.lt_of_lt_of_le (by have := World.block_lt_of_cell? _ _ hx297_0; first | rwa [add_block] at this | exact this) (Nat.le_trans HW0.out GW294.out))
      have hn297_6 : ad293.block ≠ gb294 := Nat.ne_of_lt (Nat.lt_of_lt_of_le (by have := World.block_lt_of_cell? _ _ hx297_0; first | rwa [add_block] at this | exact this) (Nat.le_trans HW0.out GW294.out))
      replace hx297_0 := (HB.out.below.cell (World.block_lt_of_cell? w0 _ hx297_0)).trans hx297_0
      replace hx297_1 := (HB.out.below.cell (World.block_lt_of_cell? w0 _ hx297_1)).trans hx297_1
      replace hx297_2 := (HB.out.below.cell (World.block_lt_of_cell? w0 _ hx297_2)).trans hx297_2
      replace hx297_3 := (HB.out.below.cell (World.block_lt_of_cell? w0 _ hx297_3)).trans hx297_3
      replace hx297_4 := (HB.out.below.cell (World.block_lt_of_cell? w0 _ hx297_4)).trans hx297_4
      replace hx297_5 := (HB.out.below.cell (World.block_lt_of_cell? w0 _ hx297_5)).trans hx297_5
      replace hx297_6 := (HB.out.below.cell (World.block_lt_of_cell? w0 _ hx297_6)).trans hx297_6
      have HR297_3 := Aside0.mk hi297_3
      have HC297_3 := Aside0.mk hl297_3
      clear hi297_3 hl297_3
      have HR297_6 := Aside0.mk hi297_6
      have HC297_6 := Aside0.mk hl297_6
      clear hi297_6 hl297_6
      replace hx297_0 := (cell_far (p := ⟨gb294, 0, none⟩) (by first | (rw [add_block]; exact hn297_0) | (show (Addr.add _ _).block ≠ _; rw [add_block]; exact hn297_0) | exact hn297_0) (.int .i64 ((rd_T90 l1 a2).f0))).trans hx297_0
      replace hx297_1 := (cell_far (p := ⟨gb294, 0, none⟩) (by first | (rw [add_block]; exact hn297_0) | (show (Addr.add _ _).block ≠ _; rw [add_block]; exact hn297_0) | exact hn297_0) (.int .i64 ((rd_T90 l1 a2).f0))).trans hx297_1
      replace hx297_2 := (cell_far (p := ⟨gb294, 0, none⟩) (by first | (rw [add_block]; exact hn297_0) | (show (Addr.add _ _).block ≠ _; rw [add_block]; exact hn297_0) | exact hn297_0) (.int .i64 ((rd_T90 l1 a2).f0))).trans hx297_2
      replace hx297_3 := (cell_far (p := ⟨gb294, 0, none⟩) (by first | (rw [add_block]; exact hn297_0) | (show (Addr.add _ _).block ≠ _; rw [add_block]; exact hn297_0) | exact hn297_0) (.int .i64 ((rd_T90 l1 a2).f0))).trans hx297_3
      replace hx297_4 := (cell_far (p := ⟨gb294, 0, none⟩) (by first | (rw [add_block]; exact hn297_0) | (show (Addr.add _ _).block ≠ _; rw [add_block]; exact hn297_0) | exact hn297_0) (.int .i64 ((rd_T90 l1 a2).f0))).trans hx297_4
      replace hx297_5 := (cell_far (p := ⟨gb294, 0, none⟩) (by first | (rw [add_block]; exact hn297_0) | (show (Addr.add _ _).block ≠ _; rw [add_block]; exact hn297_0) | exact hn297_0) (.int .i64 ((rd_T90 l1 a2).f0))).trans hx297_5
      replace hx297_6 := (cell_far (p := ⟨gb294, 0, none⟩) (by first | (rw [add_block]; exact hn297_0) | (show (Addr.add _ _).block ≠ _; rw [add_block]; exact hn297_0) | exact hn297_0) (.int .i64 ((rd_T90 l1 a2).f0))).trans hx297_6
      replace hx297_0 := (cell_far (p := ⟨gb294, 1, none⟩) (by first | (rw [add_block]; exact hn297_1) | (show (Addr.add _ _).block ≠ _; rw [add_block]; exact hn297_1) | exact hn297_1) (.int .i64 ((rd_T90 l1 a2).f1))).trans hx297_0
      replace hx297_1 := (cell_far (p := ⟨gb294, 1, none⟩) (by first | (rw [add_block]; exact hn297_1) | (show (Addr.add _ _).block ≠ _; rw [add_block]; exact hn297_1) | exact hn297_1) (.int .i64 ((rd_T90 l1 a2).f1))).trans hx297_1
      replace hx297_2 := (cell_far (p := ⟨gb294, 1, none⟩) (by first | (rw [add_block]; exact hn297_1) | (show (Addr.add _ _).block ≠ _; rw [add_block]; exact hn297_1) | exact hn297_1) (.int .i64 ((rd_T90 l1 a2).f1))).trans hx297_2
      replace hx297_3 := (cell_far (p := ⟨gb294, 1, none⟩) (by first | (rw [add_block]; exact hn297_1) | (show (Addr.add _ _).block ≠ _; rw [add_block]; exact hn297_1) | exact hn297_1) (.int .i64 ((rd_T90 l1 a2).f1))).trans hx297_3
      replace hx297_4 := (cell_far (p := ⟨gb294, 1, none⟩) (by first | (rw [add_block]; exact hn297_1) | (show (Addr.add _ _).block ≠ _; rw [add_block]; exact hn297_1) | exact hn297_1) (.int .i64 ((rd_T90 l1 a2).f1))).trans hx297_4
      replace hx297_5 := (cell_far (p := ⟨gb294, 1, none⟩) (by first | (rw [add_block]; exact hn297_1) | (show (Addr.add _ _).block ≠ _; rw [add_block]; exact hn297_1) | exact hn297_1) (.int .i64 ((rd_T90 l1 a2).f1))).trans hx297_5
      replace hx297_6 := (cell_far (p := ⟨gb294, 1, none⟩) (by first | (rw [add_block]; exact hn297_1) | (show (Addr.add _ _).block ≠ _; rw [add_block]; exact hn297_1) | exact hn297_1) (.int .i64 ((rd_T90 l1 a2).f1))).trans hx297_6
      replace hx297_0 := (cell_far (p := ⟨gb294, 2, none⟩) (by first | (rw [add_block]; exact hn297_2) | (show (Addr.add _ _).block ≠ _; rw [add_block]; exact hn297_2) | exact hn297_2) (.string ((rd_T90 l1 a2).f2))).trans hx297_0
      replace hx297_1 := (cell_far (p := ⟨gb294, 2, none⟩) (by first | (rw [add_block]; exact hn297_2) | (show (Addr.add _ _).block ≠ _; rw [add_block]; exact hn297_2) | exact hn297_2) (.string ((rd_T90 l1 a2).f2))).trans hx297_1
      replace hx297_2 := (cell_far (p := ⟨gb294, 2, none⟩) (by first | (rw [add_block]; exact hn297_2) | (show (Addr.add _ _).block ≠ _; rw [add_block]; exact hn297_2) | exact hn297_2) (.string ((rd_T90 l1 a2).f2))).trans hx297_2
      replace hx297_3 := (cell_far (p := ⟨gb294, 2, none⟩) (by first | (rw [add_block]; exact hn297_2) | (show (Addr.add _ _).block ≠ _; rw [add_block]; exact hn297_2) | exact hn297_2) (.string ((rd_T90 l1 a2).f2))).trans hx297_3
      replace hx297_4 := (cell_far (p := ⟨gb294, 2, none⟩) (by first | (rw [add_block]; exact hn297_2) | (show (Addr.add _ _).block ≠ _; rw [add_block]; exact hn297_2) | exact hn297_2) (.string ((rd_T90 l1 a2).f2))).trans hx297_4
      replace hx297_5 := (cell_far (p := ⟨gb294, 2, none⟩) (by first | (rw [add_block]; exact hn297_2) | (show (Addr.add _ _).block ≠ _; rw [add_block]; exact hn297_2) | exact hn297_2) (.string ((rd_T90 l1 a2).f2))).trans hx297_5
      replace hx297_6 := (cell_far (p := ⟨gb294, 2, none⟩) (by first | (rw [add_block]; exact hn297_2) | (show (Addr.add _ _).block ≠ _; rw [add_block]; exact hn297_2) | exact hn297_2) (.string ((rd_T90 l1 a2).f2))).trans hx297_6
      replace hx297_0 := (cell_far (p := ⟨gb294, 3, none⟩) (by first | (rw [add_block]; exact hn297_3) | (show (Addr.add _ _).block ≠ _; rw [add_block]; exact hn297_3) | exact hn297_3) (.slice A293_3 ((rd_T90 l1 a2).f3).length c293_3)).trans hx297_0
      replace hx297_1 := (cell_far (p := ⟨gb294, 3, none⟩) (by first | (rw [add_block]; exact hn297_3) | (show (Addr.add _ _).block ≠ _; rw [add_block]; exact hn297_3) | exact hn297_3) (.slice A293_3 ((rd_T90 l1 a2).f3).length c293_3)).trans hx297_1
      replace hx297_2 := (cell_far (p := ⟨gb294, 3, none⟩) (by first | (rw [add_block]; exact hn297_3) | (show (Addr.add _ _).block ≠ _; rw [add_block]; exact hn297_3) | exact hn297_3) (.slice A293_3 ((rd_T90 l1 a2).f3).length c293_3)).trans hx297_2
      replace hx297_3 := (cell_far (p := ⟨gb294, 3, none⟩) (by first | (rw [add_block]; exact hn297_3) | (show (Addr.add _ _).block ≠ _; rw [add_block]; exact hn297_3) | exact hn297_3) (.slice A293_3 ((rd_T90 l1 a2).f3).length c293_3)).trans hx297_3
      replace hx297_4 := (cell_far (p := ⟨gb294, 3, none⟩) (by first | (rw [add_block]; exact hn297_3) | (show (Addr.add _ _).block ≠ _; rw [add_block]; exact hn297_3) | exact hn297_3) (.slice A293_3 ((rd_T90 l1 a2).f3).length c293_3)).trans hx297_4
      replace hx297_5 := (cell_far (p := ⟨gb294, 3, none⟩) (by first | (rw [add_block]; exact hn297_3) | (show (Addr.add _ _).block ≠ _; rw [add_block]; exact hn297_3) | exact hn297_3) (.slice A293_3 ((rd_T90 l1 a2).f3).length c293_3)).trans hx297_5
      replace hx297_6 := (cell_far (p := ⟨gb294, 3, none⟩) (by first | (rw [add_block]; exact hn297_3) | (show (Addr.add _ _).block ≠ _; rw [add_block]; exact hn297_3) | exact hn297_3) (.slice A293_3 ((rd_T90 l1 a2).f3).length c293_3)).trans hx297_6
      replace hx297_0 := (cell_far (p := ⟨gb294, 4, none⟩) (by first | (rw [add_block]; exact hn297_4) | (show (Addr.add _ _).block ≠ _; rw [add_block]; exact hn297_4) | exact hn297_4) (.string ((rd_T90 l1 a2).f4))).trans hx297_0
      replace hx297_1 := (cell_far (p := ⟨gb294, 4, none⟩) (by first | (rw [add_block]; exact hn297_4) | (show (Addr.add _ _).block ≠ _; rw [add_block]; exact hn297_4) | exact hn297_4) (.string ((rd_T90 l1 a2).f4))).trans hx297_1
      replace hx297_2 := (cell_far (p := ⟨gb294, 4, none⟩) (by first | (rw [add_block]; exact hn297_4) | (show (Addr.add _ _).block ≠ _; rw [add_block]; exact hn297_4) | exact hn297_4) (.string ((rd_T90 l1 a2).f4))).trans hx297_2
      replace hx297_3 := (cell_far (p := ⟨gb294, 4, none⟩) (by first | (rw [add_block]; exact hn297_4) | (show (Addr.add _ _).block ≠ _; rw [add_block]; exact hn297_4) | exact hn297_4) (.string ((rd_T90 l1 a2).f4))).trans hx297_3
      replace hx297_4 := (cell_far (p := ⟨gb294, 4, none⟩) (by first | (rw [add_block]; exact hn297_4) | (show (Addr.add _ _).block ≠ _; rw [add_block]; exact hn297_4) | exact hn297_4) (.string ((rd_T90 l1 a2).f4))).trans hx297_4
      replace hx297_5 := (cell_far (p := ⟨gb294, 4, none⟩) (by first | (rw [add_block]; exact hn297_4) | (show (Addr.add _ _).block ≠ _; rw [add_block]; exact hn297_4) | exact hn297_4) (.string ((rd_T90 l1 a2).f4))).trans hx297_5
      replace hx297_6 := (cell_far (p := ⟨gb294, 4, none⟩) (by first | (rw [add_block]; exact hn297_4) | (show (Addr.add _ _).block ≠ _; rw [add_block]; exact hn297_4) | exact hn297_4) (.string ((rd_T90 l1 a2).f4))).trans hx297_6
      replace hx297_0 := (cell_far (p := ⟨gb294, 5, none⟩) (by first | (rw [add_block]; exact hn297_5) | (show (Addr.add _ _).block ≠ _; rw [add_block]; exact hn297_5) | exact hn297_5) (.int .i64 ((rd_T90 l1 a2).f5))).trans hx297_0
      replace hx297_1 := (cell_far (p := ⟨gb294, 5, none⟩) (by first | (rw [add_block]; exact hn297_5) | (show (Addr.add _ _).block ≠ _; rw [add_block]; exact hn297_5) | exact hn297_5) (.int .i64 ((rd_T90 l1 a2).f5))).trans hx297_1
      replace hx297_2 := (cell_far (p := ⟨gb294, 5, none⟩) (by first | (rw [add_block]; exact hn297_5) | (show (Addr.add _ _).block ≠ _; rw [add_block]; exact hn297_5) | exact hn297_5) (.int .i64 ((rd_T90 l1 a2).f5))).trans hx297_2
      replace hx297_3 := (cell_far (p := ⟨gb294, 5, none⟩) (by first | (rw [add_block]; exact hn297_5) | (show (Addr.add _ _).block ≠ _; rw [add_block]; exact hn297_5) | exact hn297_5) (.int .i64 ((rd_T90 l1 a2).f5))).trans hx297_3
      replace hx297_4 := (cell_far (p := ⟨gb294, 5, none⟩) (by first | (rw [add_block]; exact hn297_5) | (show (Addr.add _ _).block ≠ _; rw [add_block]; exact hn297_5) | exact hn297_5) (.int .i64 ((rd_T90 l1 a2).f5))).trans hx297_4
      replace hx297_5 := (cell_far (p := ⟨gb294, 5, none⟩) (by first | (rw [add_block]; exact hn297_5) | (show (Addr.add _ _).block ≠ _; rw [add_block]; exact hn297_5) | exact hn297_5) (.int .i64 ((rd_T90 l1 a2).f5))).trans hx297_5
      replace hx297_6 := (cell_far (p := ⟨gb294, 5, none⟩) (by first | (rw [add_block]; exact hn297_5) | (show (Addr.add _ _).block ≠ _; rw [add_block]; exact hn297_5) | exact hn297_5) (.int .i64 ((rd_T90 l1 a2).f5))).trans hx297_6
      replace hx297_0 := (cell_far (p := ⟨gb294, 6, none⟩) (by first | (rw [add_block]; exact hn297_6) | (show (Addr.add _ _).block ≠ _; rw [add_block]; exact hn297_6) | exact hn297_6) (.slice A293_6 ((rd_T90 l1 a2).f6).length c293_6)).trans hx297_0
      replace hx297_1 := (cell_far (p := ⟨gb294, 6, none⟩) (by first | (rw [add_block]; exact hn297_6) | (show (Addr.add _ _).block ≠ _; rw [add_block]; exact hn297_6) | exact hn297_6) (.slice A293_6 ((rd_T90 l1 a2).f6).length c293_6)).trans hx297_1
      replace hx297_2 := (cell_far (p := ⟨gb294, 6, none⟩) (by first | (rw [add_block]; exact hn297_6) | (show (Addr.add _ _).block ≠ _; rw [add_block]; exact hn297_6) | exact hn297_6) (.slice A293_6 ((rd_T90 l1 a2).f6).length c293_6)).trans hx297_2
      replace hx297_3 := (cell_far (p := ⟨gb294, 6, none⟩) (by first | (rw [add_block]; exact hn297_6) | (show (Addr.add _ _).block ≠ _; rw [add_block]; exact hn297_6) | exact hn297_6) (.slice A293_6 ((rd_T90 l1 a2).f6).length c293_6)).trans hx297_3
      replace hx297_4 := (cell_far (p := ⟨gb294, 6, none⟩) (by first | (rw [add_block]; exact hn297_6) | (show (Addr.add _ _).block ≠ _; rw [add_block]; exact hn297_6) | exact hn297_6) (.slice A293_6 ((rd_T90 l1 a2).f6).length c293_6)).trans hx297_4
      replace hx297_5 := (cell_far (p := ⟨gb294, 6, none⟩) (by first | (rw [add_block]; exact hn297_6) | (show (Addr.add _ _).block ≠ _; rw [add_block]; exact hn297_6) | exact hn297_6) (.slice A293_6 ((rd_T90 l1 a2).f6).length c293_6)).trans hx297_5
      replace hx297_6 := (cell_far (p := ⟨gb294, 6, none⟩) (by first | (rw [add_block]; exact hn297_6) | (show (Addr.add _ _).block ≠ _; rw [add_block]; exact hn297_6) | exact hn297_6) (.slice A293_6 ((rd_T90 l1 a2).f6).length c293_6)).trans hx297_6
      clear hn297_0
      clear hn297_1
      clear hn297_2
      clear hn297_3
      clear hn297_4
      clear hn297_5
      clear hn297_6
      replace p297 := eq_true p297
      replace q297 := eq_true q297
      go_wp2_with (first | ((with_reducible refine gate_callee (f := 114) rfl ?_); refine goesL_ (some 39) rfl rfl Tryd.func114 (by kernel_rfl) rfl #[.string ((rd_T90 l1 ((rd_T90 l1 a2).f5)).f2)] rfl ab5 ?_; (with_reducible refine (impl_isPlainRaw.calls ((rd_T90 l1 ((rd_T90 l1 a2).f5)).f2) false _ A26.out).mono ?_); rintro e wq ⟨rfl, ⟨nd, hW_⟩⟩; refine ⟨_, rfl, ?_⟩; have nb_ : Aside0 (wq.heap[gb294]? = some (.cells #[.int .i64 ((rd_T90 l1 a2).f0), .int .i64 ((rd_T90 l1 a2).f1), .string ((rd_T90 l1 a2).f2), .slice A293_3 ((rd_T90 l1 a2).f3).length c293_3, .string ((rd_T90 l1 a2).f4), .int .i64 ((rd_T90 l1 a2).f5), .slice A293_6 ((rd_T90 l1 a2).f6).length c293_6] 90 (0, 0))) := ⟨by rw [hW_]; (with_reducible repeat (first | refine blk_drewN ?_ _ | refine blk_drew ?_ | refine blk_alloc ?_ _)); refine blk_put (cs := #[.int .i64 ((rd_T90 l1 a2).f0), .int .i64 ((rd_T90 l1 a2).f1), .string ((rd_T90 l1 a2).f2), .slice A293_3 ((rd_T90 l1 a2).f3).length c293_3, .string ((rd_T90 l1 a2).f4), .int .i64 ((rd_T90 l1 a2).f5), .slice none 0 0]) ?_ 6 _ rfl; (with_reducible repeat (first | refine blk_drewN ?_ _ | refine blk_drew ?_ | refine blk_alloc ?_ _)); refine blk_put (cs := #[.int .i64 ((rd_T90 l1 a2).f0), .int .i64 ((rd_T90 l1 a2).f1), .string ((rd_T90 l1 a2).f2), .slice A293_3 ((rd_T90 l1 a2).f3).length c293_3, .string ((rd_T90 l1 a2).f4), .int .i64 0, .slice none 0 0]) ?_ 5 _ rfl; (with_reducible repeat (first | refine blk_drewN ?_ _ | refine blk_drew ?_ | refine blk_alloc ?_ _)); refine blk_put (cs := #[.int .i64 ((rd_T90 l1 a2).f0), .int .i64 ((rd_T90 l1 a2).f1), .string ((rd_T90 l1 a2).f2), .slice A293_3 ((rd_T90 l1 a2).f3).length c293_3, .string (⟨#[]⟩ : ByteArray), .int .i64 0, .slice none 0 0]) ?_ 4 _ rfl; (with_reducible repeat (first | refine blk_drewN ?_ _ | refine blk_drew ?_ | refine blk_alloc ?_ _)); refine blk_put (cs := #[.int .i64 ((rd_T90 l1 a2).f0), .int .i64 ((rd_T90 l1 a2).f1), .string ((rd_T90 l1 a2).f2), .slice none 0 0, .string (⟨#[]⟩ : ByteArray), .int .i64 0, .slice none 0 0]) ?_ 3 _ rfl; (with_reducible repeat (first | refine blk_drewN ?_ _ | refine blk_drew ?_ | refine blk_alloc ?_ _)); refine blk_put (cs := #[.int .i64 ((rd_T90 l1 a2).f0), .int .i64 ((rd_T90 l1 a2).f1), .string (⟨#[]⟩ : ByteArray), .slice none 0 0, .string (⟨#[]⟩ : ByteArray), .int .i64 0, .slice none 0 0]) ?_ 2 _ rfl; (with_reducible repeat (first | refine blk_drewN ?_ _ | refine blk_drew ?_ | refine blk_alloc ?_ _)); refine blk_put (cs := #[.int .i64 ((rd_T90 l1 a2).f0), .int .i64 0, .string (⟨#[]⟩ : ByteArray), .slice none 0 0, .string (⟨#[]⟩ : ByteArray), .int .i64 0, .slice none 0 0]) ?_ 1 _ rfl; (with_reducible repeat (first | refine blk_drewN ?_ _ | refine blk_drew ?_ | refine blk_alloc ?_ _)); refine blk_put (cs := #[.int .i64 0, .int .i64 0, .string (⟨#[]⟩ : ByteArray), .slice none 0 0, .string (⟨#[]⟩ : ByteArray), .int .i64 0, .slice none 0 0]) ?_ 0 _ rfl; (with_reducible repeat (first | refine blk_drewN ?_ _ | refine blk_drew ?_ | refine blk_alloc ?_ _)); exact BK294.out⟩; have nh_ : Aside0 (Say w0 b a0 w wq) := ⟨by rw [hW_]; exact (by first | ((repeat (with_reducible first | exact HB.out | apply sy_alloc | apply sy_drewN | apply sy_drew1)); done) | exact bx_say (by repeat (with_reducible first | exact HX294.out | apply bx_set | apply bx_alloc | apply bx_drewN | apply bx_drew1)) | (repeat (first | (with_reducible first | exact HB.out | apply sy_alloc | apply sy_drewN | apply sy_drew1) | exact HB.out)))⟩; clear hW_ BK294 HB; have BK294 := nb_; have HB := nh_; clear nb_ nh_; have hczq_4 := (blk_cell BK294.out 4); replace hczq_4 : wq.cell? ⟨gb294, 4, none⟩ = some (.string ((rd_T90 l1 a2).f4)) := hczq_4.trans rfl; clear hx297_0 hx297_1 hx297_2 hx297_3 hx297_4 hx297_5 hx297_6) | ((with_reducible refine gate_callee (f := 70) rfl ?_); refine goesL_ (some 47) rfl rfl Tryd.func70 (by kernel_rfl) rfl #[.string ((rd_T90 l1 a2).f4)] rfl ab5 ?_; (with_reducible refine (impl_textSaid.calls ((rd_T90 l1 a2).f4) t300 _ M_ ?side1 A32.out).mono ?_); (case side1 => exact sy_cell (by first | ((repeat (with_reducible first | exact HB.out | apply sy_alloc | apply sy_drewN | apply sy_drew1)); done) | exact bx_say (by repeat (with_reducible first | exact HX294.out | apply bx_set | apply bx_alloc | apply bx_drewN | apply bx_drew1)) | (repeat (first | (with_reducible first | exact HB.out | apply sy_alloc | apply sy_drewN | apply sy_drew1) | exact HB.out))) HM_.out); rintro e w36 ⟨rfl, hb⟩; refine ⟨_, rfl, ?_⟩; have n0_ := Aside0.mk (blk_below (g := gb294) (o := .cells #[.int .i64 ((rd_T90 l1 a2).f0), .int .i64 ((rd_T90 l1 a2).f1), .string ((rd_T90 l1 a2).f2), .slice A293_3 ((rd_T90 l1 a2).f3).length c293_3, .string ((rd_T90 l1 a2).f4), .int .i64 ((rd_T90 l1 a2).f5), .slice A293_6 ((rd_T90 l1 a2).f6).length c293_6] 90 (0, 0)) (by exact BK294.out) hb); have n1_ := Aside0.mk (sy_step (by first | ((repeat (with_reducible first | exact HB.out | apply sy_alloc | apply sy_drewN | apply sy_drew1)); done) | exact bx_say (by repeat (with_reducible first | exact HX294.out | apply bx_set | apply bx_alloc | apply bx_drewN | apply bx_drew1)) | (repeat (first | (with_reducible first | exact HB.out | apply sy_alloc | apply sy_drewN | apply sy_drew1) | exact HB.out))) hb); clear BK294; clear HB; have BK294 := n0_; have HB := n1_; clear n0_ n1_; (try clear hb); (try clear hb2); (try clear hk); (try clear hi)) | ((with_reducible refine gate_callee (f := 49) rfl ?_); refine goesL_ (some 48) rfl rfl Tryd.func49 (by kernel_rfl) rfl #[.pointer (some ⟨b, 0, none⟩), .string t300] rfl ab5 ?_; (with_reducible refine (sy_WriteString (w0 := w0) (we := w) (acc := a0) t300 ?sideS ?sideL).mono ?_); (case sideL => exact LA34.out); (case sideS => exact (by first | ((repeat (with_reducible first | exact HB.out | apply sy_alloc | apply sy_drewN | apply sy_drew1)); done) | exact bx_say (by repeat (with_reducible first | exact HX294.out | apply bx_set | apply bx_alloc | apply bx_drewN | apply bx_drew1)) | (repeat (first | (with_reducible first | exact HB.out | apply sy_alloc | apply sy_drewN | apply sy_drew1) | exact HB.out)))); rintro e w37 ⟨rfl, hs, hk_⟩; refine ⟨_, rfl, ?_⟩; have n0_ := Aside0.mk (blk_others (g := gb294) (cs := #[.int .i64 ((rd_T90 l1 a2).f0), .int .i64 ((rd_T90 l1 a2).f1), .string ((rd_T90 l1 a2).f2), .slice A293_3 ((rd_T90 l1 a2).f3).length c293_3, .string ((rd_T90 l1 a2).f4), .int .i64 ((rd_T90 l1 a2).f5), .slice A293_6 ((rd_T90 l1 a2).f6).length c293_6]) (T := 90) (ab3 BK294) hk_ (by have := HBLT.out; have := GW294.out; omega) (by decide)); have n1_ := Aside0.mk (sy_as A34.out hs); clear BK294; clear HB; have BK294 := n0_; have HB := n1_; clear n0_ n1_; clear hs hk_))
      go_meet
      case rel => exact ⟨_, (t301), (by first | exact H' | (have h_ := H'.out; rw [c9b0] at h_; exact ⟨h_⟩)), ⟨by first | omega | exact Nat.le_refl _⟩, ⟨ab3 BK294⟩, ⟨by first | ((repeat (with_reducible first | exact HB.out | apply sy_alloc | apply sy_drewN | apply sy_drew1)); done) | exact bx_say (by repeat (with_reducible first | exact HX294.out | apply bx_set | apply bx_alloc | apply bx_drewN | apply bx_drew1)) | (repeat (first | (with_reducible first | exact HB.out | apply sy_alloc | apply sy_drewN | apply sy_drew1) | exact HB.out))⟩⟩
    ·rw [if_neg c23] at H
     have c23b0 : (((rd_T90 l1 a2).f0) == 3) = false := beq_eq_false_iff_ne.mpr c23
     have c23b1 : (((rd_T90 l1 a2).f0) != 3) = true := bne_iff_ne.mpr c23
     by_cases c38 : ((rd_T90 l1 a2).f0) = 2
     ·rw [if_pos c38] at H
      have c38b0 : (((rd_T90 l1 a2).f0) == 2) = true := beq_iff_eq.mpr c38
      have c38b1 : (((rd_T90 l1 a2).f0) != 2) = false := bne_eq_false_iff_eq.mpr c38
      clear c38
      replace H := Option.bind_eq_some_iff.mp H
      obtain ⟨t302, A390, H⟩ := H
      replace H : (if t302.size + 1 ≤ 9223372036854775807 then (if a0.size + (t302 ++ (⟨#[62]⟩ : ByteArray)).size ≤ 140737488355328 then ((some (a0 ++ (t302 ++ (⟨#[62]⟩ : ByteArray)))).bind fun t303 => (impl_sayItem.j0 k t303 l1 ((rd_T90 l1 a2).f0) ((rd_T90 l1 a2).f1) ((rd_T90 l1 a2).f2) ((rd_T90 l1 a2).f3) ((rd_T90 l1 a2).f4) ((rd_T90 l1 a2).f5) ((rd_T90 l1 a2).f6))) else (none)) else (none)) = some r := by first | exact H | (rw [c9b0]; exact H)
      have A39 := Aside0.mk A390
      clear A390
      by_cases c40 : t302.size + 1 ≤ 9223372036854775807
      case neg => rw [if_neg c40] at H; exact absurd H (by simp)
      rw [if_pos c40] at H
      have c40b0 := eq_true c40
      have c40b1 := decide_eq_true c40
      try have c40b2 : (9223372036854775807 < t302.size + 1) = False := eq_false (Nat.not_lt.2 c40)
      by_cases c41 : a0.size + (t302 ++ (⟨#[62]⟩ : ByteArray)).size ≤ 140737488355328
      case neg => rw [if_neg c41] at H; exact absurd H (by simp)
      rw [if_pos c41] at H
      have LA42 := Aside0.mk c41
      replace H := Option.bind_eq_some_iff.mp H
      obtain ⟨t303, A420, H⟩ := H
      replace H : (impl_sayItem.j0 k t303 l1 ((rd_T90 l1 a2).f0) ((rd_T90 l1 a2).f1) ((rd_T90 l1 a2).f2) ((rd_T90 l1 a2).f3) ((rd_T90 l1 a2).f4) ((rd_T90 l1 a2).f5) ((rd_T90 l1 a2).f6)) = some r := by first | exact H | (rw [c9b0]; exact H)
      have A42 := Aside0.mk (Option.some.inj A420)
      clear A420
      have H' := Aside0.mk H
      clear H
      obtain ⟨⟨hcz43_0, hcz43_1, hcz43_2, hcz43_3, hcz43_4, hcz43_5, hcz43_6⟩, hfz43_0, hfz43_1, hfz43_2, hfz43_3, hfz43_4, hfz43_5, hfz43_6⟩ := Op.cells7 BK294.out
      go_wp2_with (first | ((with_reducible refine gate_callee (f := 115) rfl ?_); refine goesL_ (some 56) rfl rfl Tryd.func115 (by kernel_rfl) rfl #[.string ((rd_T90 l1 a2).f2), .slice A293_3 ((rd_T90 l1 a2).f3).length c293_3, .func (.func 116) #[] #[]] rfl ab5 ?_; (with_reducible refine (impl_startSpelt.calls k ((rd_T90 l1 a2).f2) _ _ ((rd_T90 l1 a2).f3)  t302 _ ?side1 ?side2 M_ ?side3 A39.out).mono ?_); (case side1 => exact Kd.C_below HR293_3.out (Say.below (by first | ((repeat (with_reducible first | exact HB.out | apply sy_alloc | apply sy_drewN | apply sy_drew1)); done) | exact bx_say (by repeat (with_reducible first | exact HX294.out | apply bx_set | apply bx_alloc | apply bx_drewN | apply bx_drew1)) | (repeat (first | (with_reducible first | exact HB.out | apply sy_alloc | apply sy_drewN | apply sy_drew1) | exact HB.out))))); (case side2 => exact HC293_3.out); (case side3 => exact sy_cell (by first | ((repeat (with_reducible first | exact HB.out | apply sy_alloc | apply sy_drewN | apply sy_drew1)); done) | exact bx_say (by repeat (with_reducible first | exact HX294.out | apply bx_set | apply bx_alloc | apply bx_drewN | apply bx_drew1)) | (repeat (first | (with_reducible first | exact HB.out | apply sy_alloc | apply sy_drewN | apply sy_drew1) | exact HB.out))) HM_.out); rintro e w44 ⟨rfl, hb⟩; refine ⟨_, rfl, ?_⟩; have n0_ := Aside0.mk (blk_below (g := gb294) (o := .cells #[.int .i64 ((rd_T90 l1 a2).f0), .int .i64 ((rd_T90 l1 a2).f1), .string ((rd_T90 l1 a2).f2), .slice A293_3 ((rd_T90 l1 a2).f3).length c293_3, .string ((rd_T90 l1 a2).f4), .int .i64 ((rd_T90 l1 a2).f5), .slice A293_6 ((rd_T90 l1 a2).f6).length c293_6] 90 (0, 0)) (by (with_reducible repeat (first | refine blk_drewN ?_ _ | refine blk_drew ?_ | refine blk_alloc ?_ _)); refine blk_put (cs := #[.int .i64 ((rd_T90 l1 a2).f0), .int .i64 ((rd_T90 l1 a2).f1), .string ((rd_T90 l1 a2).f2), .slice A293_3 ((rd_T90 l1 a2).f3).length c293_3, .string ((rd_T90 l1 a2).f4), .int .i64 ((rd_T90 l1 a2).f5), .slice none 0 0]) ?_ 6 _ rfl; (with_reducible repeat (first | refine blk_drewN ?_ _ | refine blk_drew ?_ | refine blk_alloc ?_ _)); refine blk_put (cs := #[.int .i64 ((rd_T90 l1 a2).f0), .int .i64 ((rd_T90 l1 a2).f1), .string ((rd_T90 l1 a2).f2), .slice A293_3 ((rd_T90 l1 a2).f3).length c293_3, .string ((rd_T90 l1 a2).f4), .int .i64 0, .slice none 0 0]) ?_ 5 _ rfl; (with_reducible repeat (first | refine blk_drewN ?_ _ | refine blk_drew ?_ | refine blk_alloc ?_ _)); refine blk_put (cs := #[.int .i64 ((rd_T90 l1 a2).f0), .int .i64 ((rd_T90 l1 a2).f1), .string ((rd_T90 l1 a2).f2), .slice A293_3 ((rd_T90 l1 a2).f3).length c293_3, .string (⟨#[]⟩ : ByteArray), .int .i64 0, .slice none 0 0]) ?_ 4 _ rfl; (with_reducible repeat (first | refine blk_drewN ?_ _ | refine blk_drew ?_ | refine blk_alloc ?_ _)); refine blk_put (cs := #[.int .i64 ((rd_T90 l1 a2).f0), .int .i64 ((rd_T90 l1 a2).f1), .string ((rd_T90 l1 a2).f2), .slice none 0 0, .string (⟨#[]⟩ : ByteArray), .int .i64 0, .slice none 0 0]) ?_ 3 _ rfl; (with_reducible repeat (first | refine blk_drewN ?_ _ | refine blk_drew ?_ | refine blk_alloc ?_ _)); refine blk_put (cs := #[.int .i64 ((rd_T90 l1 a2).f0), .int .i64 ((rd_T90 l1 a2).f1), .string (⟨#[]⟩ : ByteArray), .slice none 0 0, .string (⟨#[]⟩ : ByteArray), .int .i64 0, .slice none 0 0]) ?_ 2 _ rfl; (with_reducible repeat (first | refine blk_drewN ?_ _ | refine blk_drew ?_ | refine blk_alloc ?_ _)); refine blk_put (cs := #[.int .i64 ((rd_T90 l1 a2).f0), .int .i64 0, .string (⟨#[]⟩ : ByteArray), .slice none 0 0, .string (⟨#[]⟩ : ByteArray), .int .i64 0, .slice none 0 0]) ?_ 1 _ rfl; (with_reducible repeat (first | refine blk_drewN ?_ _ | refine blk_drew ?_ | refine blk_alloc ?_ _)); refine blk_put (cs := #[.int .i64 0, .int .i64 0, .string (⟨#[]⟩ : ByteArray), .slice none 0 0, .string (⟨#[]⟩ : ByteArray), .int .i64 0, .slice none 0 0]) ?_ 0 _ rfl; (with_reducible repeat (first | refine blk_drewN ?_ _ | refine blk_drew ?_ | refine blk_alloc ?_ _)); exact BK294.out) hb); have n1_ := Aside0.mk (sy_step (by first | ((repeat (with_reducible first | exact HB.out | apply sy_alloc | apply sy_drewN | apply sy_drew1)); done) | exact bx_say (by repeat (with_reducible first | exact HX294.out | apply bx_set | apply bx_alloc | apply bx_drewN | apply bx_drew1)) | (repeat (first | (with_reducible first | exact HB.out | apply sy_alloc | apply sy_drewN | apply sy_drew1) | exact HB.out))) hb); clear BK294; clear HB; have BK294 := n0_; have HB := n1_; clear n0_ n1_; (try clear hb); (try clear hb2); (try clear hk); (try clear hi)) | ((with_reducible refine gate_callee (f := 49) rfl ?_); refine goesL_ (some 58) rfl rfl Tryd.func49 (by kernel_rfl) rfl #[.pointer (some ⟨b, 0, none⟩), .string (t302 ++ (⟨#[62]⟩ : ByteArray))] rfl ab5 ?_; (with_reducible refine (sy_WriteString (w0 := w0) (we := w) (acc := a0) (t302 ++ (⟨#[62]⟩ : ByteArray)) ?sideS ?sideL).mono ?_); (case sideL => exact LA42.out); (case sideS => exact (by first | ((repeat (with_reducible first | exact HB.out | apply sy_alloc | apply sy_drewN | apply sy_drew1)); done) | exact bx_say (by repeat (with_reducible first | exact HX294.out | apply bx_set | apply bx_alloc | apply bx_drewN | apply bx_drew1)) | (repeat (first | (with_reducible first | exact HB.out | apply sy_alloc | apply sy_drewN | apply sy_drew1) | exact HB.out)))); rintro e w45 ⟨rfl, hs, hk_⟩; refine ⟨_, rfl, ?_⟩; have n0_ := Aside0.mk (blk_others (g := gb294) (cs := #[.int .i64 ((rd_T90 l1 a2).f0), .int .i64 ((rd_T90 l1 a2).f1), .string ((rd_T90 l1 a2).f2), .slice A293_3 ((rd_T90 l1 a2).f3).length c293_3, .string ((rd_T90 l1 a2).f4), .int .i64 ((rd_T90 l1 a2).f5), .slice A293_6 ((rd_T90 l1 a2).f6).length c293_6]) (T := 90) (ab3 BK294) hk_ (by have := HBLT.out; have := GW294.out; omega) (by decide)); have n1_ := Aside0.mk (sy_as A42.out hs); clear BK294; clear HB; have BK294 := n0_; have HB := n1_; clear n0_ n1_; clear hs hk_))
      go_meet
      case rel => exact ⟨_, (t303), (by first | exact H' | (have h_ := H'.out; rw [c9b0] at h_; exact ⟨h_⟩)), ⟨by first | omega | exact Nat.le_refl _⟩, ⟨ab3 BK294⟩, ⟨by first | ((repeat (with_reducible first | exact HB.out | apply sy_alloc | apply sy_drewN | apply sy_drew1)); done) | exact bx_say (by repeat (with_reducible first | exact HX294.out | apply bx_set | apply bx_alloc | apply bx_drewN | apply bx_drew1)) | (repeat (first | (with_reducible first | exact HB.out | apply sy_alloc | apply sy_drewN | apply sy_drew1) | exact HB.out))⟩⟩
     ·rw [if_neg c38] at H
      have c38b0 : (((rd_T90 l1 a2).f0) == 2) = false := beq_eq_false_iff_ne.mpr c38
      have c38b1 : (((rd_T90 l1 a2).f0) != 2) = true := bne_iff_ne.mpr c38
      have H' := Aside0.mk H
      clear H
      go_wp2
      go_meet
      case rel => exact ⟨_, (a0), (by first | exact H' | (have h_ := H'.out; rw [c9b0] at h_; exact ⟨h_⟩)), ⟨by first | omega | exact Nat.le_refl _⟩, ⟨by (with_reducible repeat (first | refine blk_drewN ?_ _ | refine blk_drew ?_ | refine blk_alloc ?_ _)); refine blk_put (cs := #[.int .i64 ((rd_T90 l1 a2).f0), .int .i64 ((rd_T90 l1 a2).f1), .string ((rd_T90 l1 a2).f2), .slice A293_3 ((rd_T90 l1 a2).f3).length c293_3, .string ((rd_T90 l1 a2).f4), .int .i64 ((rd_T90 l1 a2).f5), .slice none 0 0]) ?_ 6 _ rfl; (with_reducible repeat (first | refine blk_drewN ?_ _ | refine blk_drew ?_ | refine blk_alloc ?_ _)); refine blk_put (cs := #[.int .i64 ((rd_T90 l1 a2).f0), .int .i64 ((rd_T90 l1 a2).f1), .string ((rd_T90 l1 a2).f2), .slice A293_3 ((rd_T90 l1 a2).f3).length c293_3, .string ((rd_T90 l1 a2).f4), .int .i64 0, .slice none 0 0]) ?_ 5 _ rfl; (with_reducible repeat (first | refine blk_drewN ?_ _ | refine blk_drew ?_ | refine blk_alloc ?_ _)); refine blk_put (cs := #[.int .i64 ((rd_T90 l1 a2).f0), .int .i64 ((rd_T90 l1 a2).f1), .string ((rd_T90 l1 a2).f2), .slice A293_3 ((rd_T90 l1 a2).f3).length c293_3, .string (⟨#[]⟩ : ByteArray), .int .i64 0, .slice none 0 0]) ?_ 4 _ rfl; (with_reducible repeat (first | refine blk_drewN ?_ _ | refine blk_drew ?_ | refine blk_alloc ?_ _)); refine blk_put (cs := #[.int .i64 ((rd_T90 l1 a2).f0), .int .i64 ((rd_T90 l1 a2).f1), .string ((rd_T90 l1 a2).f2), .slice none 0 0, .string (⟨#[]⟩ : ByteArray), .int .i64 0, .slice none 0 0]) ?_ 3 _ rfl; (with_reducible repeat (first | refine blk_drewN ?_ _ | refine blk_drew ?_ | refine blk_alloc ?_ _)); refine blk_put (cs := #[.int .i64 ((rd_T90 l1 a2).f0), .int .i64 ((rd_T90 l1 a2).f1), .string (⟨#[]⟩ : ByteArray), .slice none 0 0, .string (⟨#[]⟩ : ByteArray), .int .i64 0, .slice none 0 0]) ?_ 2 _ rfl; (with_reducible repeat (first | refine blk_drewN ?_ _ | refine blk_drew ?_ | refine blk_alloc ?_ _)); refine blk_put (cs := #[.int .i64 ((rd_T90 l1 a2).f0), .int .i64 0, .string (⟨#[]⟩ : ByteArray), .slice none 0 0, .string (⟨#[]⟩ : ByteArray), .int .i64 0, .slice none 0 0]) ?_ 1 _ rfl; (with_reducible repeat (first | refine blk_drewN ?_ _ | refine blk_drew ?_ | refine blk_alloc ?_ _)); refine blk_put (cs := #[.int .i64 0, .int .i64 0, .string (⟨#[]⟩ : ByteArray), .slice none 0 0, .string (⟨#[]⟩ : ByteArray), .int .i64 0, .slice none 0 0]) ?_ 0 _ rfl; (with_reducible repeat (first | refine blk_drewN ?_ _ | refine blk_drew ?_ | refine blk_alloc ?_ _)); exact BK294.out⟩, ⟨by first | ((repeat (with_reducible first | exact HB.out | apply sy_alloc | apply sy_drewN | apply sy_drew1)); done) | exact bx_say (by repeat (with_reducible first | exact HX294.out | apply bx_set | apply bx_alloc | apply bx_drewN | apply bx_drew1)) | (repeat (first | (with_reducible first | exact HB.out | apply sy_alloc | apply sy_drewN | apply sy_drew1) | exact HB.out))⟩⟩
 case rest =>
  clear HC6
  (try clear c1); (try clear c2); (try clear p2); (try clear q2); (try clear hx2); (try clear c3); (try clear c4); (try clear c4b0); (try clear c5); (try clear c5b0); (try clear c7); (try clear c9); (try clear c9b0); (try clear c9b1); (try clear c10); (try clear c10b0); (try clear c10b1); (try clear c10b2); (try clear c11); (try clear c11b0); (try clear c11b1); (try clear c11b2); (try clear c12); (try clear c12b0); (try clear c12b1); (try clear c12b2); (try clear c16); (try clear c16b0); (try clear c16b1); (try clear c17); (try clear c17b0); (try clear c17b1); (try clear c17b2); (try clear c18); (try clear c18b0); (try clear c18b1); (try clear c18b2); (try clear c19); (try clear c19b0); (try clear c19b1); (try clear c19b2); (try clear c23); (try clear c23b0); (try clear c23b1); (try clear c24); (try clear c24b0); (try clear c25); (try clear c25b0); (try clear c27); (try clear c28); (try clear c28b0); (try clear c28b1); (try clear c28b2); (try clear c29); (try clear p29); (try clear q29); (try clear hx29); (try clear c33); (try clear c33b0); (try clear c33b1); (try clear c33b2); (try clear c38); (try clear c38b0); (try clear c38b1); (try clear c40); (try clear c40b0); (try clear c40b1); (try clear c40b2); (try clear c41); (try clear c41b0); (try clear c41b1); (try clear c41b2); (try clear hcz14_0); (try clear hcz14_1); (try clear hcz14_2); (try clear hcz14_3); (try clear hcz14_4); (try clear hcz14_5); (try clear hcz14_6); (try clear hcz21_0); (try clear hcz21_1); (try clear hcz21_2); (try clear hcz21_3); (try clear hcz21_4); (try clear hcz21_5); (try clear hcz21_6); (try clear hcz30_0); (try clear hcz30_1); (try clear hcz30_2); (try clear hcz30_3); (try clear hcz30_4); (try clear hcz30_5); (try clear hcz30_6); (try clear hcz35_0); (try clear hcz35_1); (try clear hcz35_2); (try clear hcz35_3); (try clear hcz35_4); (try clear hcz35_5); (try clear hcz35_6); (try clear hcz43_0); (try clear hcz43_1); (try clear hcz43_2); (try clear hcz43_3); (try clear hcz43_4); (try clear hcz43_5); (try clear hcz43_6); (try clear hcz8_0); (try clear hcz8_1); (try clear hcz8_2); (try clear hcz8_3); (try clear hcz8_4); (try clear hcz8_5); (try clear hcz8_6); (try clear hfz14_0); (try clear hfz14_1); (try clear hfz14_2); (try clear hfz14_3); (try clear hfz14_4); (try clear hfz14_5); (try clear hfz14_6); (try clear hfz21_0); (try clear hfz21_1); (try clear hfz21_2); (try clear hfz21_3); (try clear hfz21_4); (try clear hfz21_5); (try clear hfz21_6); (try clear hfz30_0); (try clear hfz30_1); (try clear hfz30_2); (try clear hfz30_3); (try clear hfz30_4); (try clear hfz30_5); (try clear hfz30_6); (try clear hfz35_0); (try clear hfz35_1); (try clear hfz35_2); (try clear hfz35_3); (try clear hfz35_4); (try clear hfz35_5); (try clear hfz35_6); (try clear hfz43_0); (try clear hfz43_1); (try clear hfz43_2); (try clear hfz43_3); (try clear hfz43_4); (try clear hfz43_5); (try clear hfz43_6); (try clear hfz8_0); (try clear hfz8_1); (try clear hfz8_2); (try clear hfz8_3); (try clear hfz8_4); (try clear hfz8_5); (try clear hfz8_6); (try clear hx293_0); (try clear hx293_1); (try clear hx293_2); (try clear hx293_3); (try clear hx293_4); (try clear hx293_5); (try clear hx293_6); (try clear hx297_0); (try clear hx297_1); (try clear hx297_2); (try clear hx297_3); (try clear hx297_4); (try clear hx297_5); (try clear hx297_6); (try clear p293); (try clear p297); (try clear q293); (try clear q297)
  obtain ⟨kq, x0_5, HA, HJ5, BK294, HB⟩ := hcut
  cases kq with
  | zero => exact absurd HA.out (by simp [impl_sayItem.j0])
  | succ kj5 =>
   have H := HA.out
   clear HA
   simp only [impl_sayItem.j0] at H
   have H' := Aside0.mk H
   clear H
   obtain ⟨⟨hcz46_0, hcz46_1, hcz46_2, hcz46_3, hcz46_4, hcz46_5, hcz46_6⟩, hfz46_0, hfz46_1, hfz46_2, hfz46_3, hfz46_4, hfz46_5, hfz46_6⟩ := Op.cells7 BK294.out
   go_wp2
   go_loopg [62] kj5 (fun kq v62 w' => ∃ (x0_2 : ByteArray) (x62_2 : Int), v62 = .int .i64 x62_2 ∧ Aside0 (impl_sayItem.l0 kq x0_2 l1 ((rd_T90 l1 a2).f6) (((rd_T90 l1 a2).f6).length : Int) x62_2 ((rd_T90 l1 a2).f0) ((rd_T90 l1 a2).f1) ((rd_T90 l1 a2).f2) ((rd_T90 l1 a2).f3) ((rd_T90 l1 a2).f4) ((rd_T90 l1 a2).f5) ((rd_T90 l1 a2).f6) = some r) ∧ Aside0 (kq ≤ kj5) ∧ Aside0 (w'.heap[gb294]? = some (.cells #[.int .i64 ((rd_T90 l1 a2).f0), .int .i64 ((rd_T90 l1 a2).f1), .string ((rd_T90 l1 a2).f2), (.slice A293_3 ((rd_T90 l1 a2).f3).length c293_3), .string ((rd_T90 l1 a2).f4), .int .i64 ((rd_T90 l1 a2).f5), (.slice A293_6 ((rd_T90 l1 a2).f6).length c293_6)] 90 (0, 0))) ∧ Aside0 (Say w0 b x0_2 w w'))
   case atStart => exact ⟨(x0_5), (0), ab6, H', ⟨Nat.le_refl _⟩, ⟨ab3 BK294⟩, ⟨by first | ((repeat (with_reducible first | exact HB.out | apply sy_alloc | apply sy_drewN | apply sy_drew1)); done) | exact bx_say (by repeat (with_reducible first | exact HX294.out | apply bx_set | apply bx_alloc | apply bx_drewN | apply bx_drew1)) | (repeat (first | (with_reducible first | exact HB.out | apply sy_alloc | apply sy_drewN | apply sy_drew1) | exact HB.out))⟩⟩
   case round =>
    clear H'
    (try clear c1); (try clear c2); (try clear p2); (try clear q2); (try clear hx2); (try clear c3); (try clear c4); (try clear c4b0); (try clear c5); (try clear c5b0); (try clear c7); (try clear c9); (try clear c9b0); (try clear c9b1); (try clear c10); (try clear c10b0); (try clear c10b1); (try clear c10b2); (try clear c11); (try clear c11b0); (try clear c11b1); (try clear c11b2); (try clear c12); (try clear c12b0); (try clear c12b1); (try clear c12b2); (try clear c16); (try clear c16b0); (try clear c16b1); (try clear c17); (try clear c17b0); (try clear c17b1); (try clear c17b2); (try clear c18); (try clear c18b0); (try clear c18b1); (try clear c18b2); (try clear c19); (try clear c19b0); (try clear c19b1); (try clear c19b2); (try clear c23); (try clear c23b0); (try clear c23b1); (try clear c24); (try clear c24b0); (try clear c25); (try clear c25b0); (try clear c27); (try clear c28); (try clear c28b0); (try clear c28b1); (try clear c28b2); (try clear c29); (try clear p29); (try clear q29); (try clear hx29); (try clear c33); (try clear c33b0); (try clear c33b1); (try clear c33b2); (try clear c38); (try clear c38b0); (try clear c38b1); (try clear c40); (try clear c40b0); (try clear c40b1); (try clear c40b2); (try clear c41); (try clear c41b0); (try clear c41b1); (try clear c41b2); (try clear hcz14_0); (try clear hcz14_1); (try clear hcz14_2); (try clear hcz14_3); (try clear hcz14_4); (try clear hcz14_5); (try clear hcz14_6); (try clear hcz21_0); (try clear hcz21_1); (try clear hcz21_2); (try clear hcz21_3); (try clear hcz21_4); (try clear hcz21_5); (try clear hcz21_6); (try clear hcz30_0); (try clear hcz30_1); (try clear hcz30_2); (try clear hcz30_3); (try clear hcz30_4); (try clear hcz30_5); (try clear hcz30_6); (try clear hcz35_0); (try clear hcz35_1); (try clear hcz35_2); (try clear hcz35_3); (try clear hcz35_4); (try clear hcz35_5); (try clear hcz35_6); (try clear hcz43_0); (try clear hcz43_1); (try clear hcz43_2); (try clear hcz43_3); (try clear hcz43_4); (try clear hcz43_5); (try clear hcz43_6); (try clear hcz46_0); (try clear hcz46_1); (try clear hcz46_2); (try clear hcz46_3); (try clear hcz46_4); (try clear hcz46_5); (try clear hcz46_6); (try clear hcz8_0); (try clear hcz8_1); (try clear hcz8_2); (try clear hcz8_3); (try clear hcz8_4); (try clear hcz8_5); (try clear hcz8_6); (try clear hfz14_0); (try clear hfz14_1); (try clear hfz14_2); (try clear hfz14_3); (try clear hfz14_4); (try clear hfz14_5); (try clear hfz14_6); (try clear hfz21_0); (try clear hfz21_1); (try clear hfz21_2); (try clear hfz21_3); (try clear hfz21_4); (try clear hfz21_5); (try clear hfz21_6); (try clear hfz30_0); (try clear hfz30_1); (try clear hfz30_2); (try clear hfz30_3); (try clear hfz30_4); (try clear hfz30_5); (try clear hfz30_6); (try clear hfz35_0); (try clear hfz35_1); (try clear hfz35_2); (try clear hfz35_3); (try clear hfz35_4); (try clear hfz35_5); (try clear hfz35_6); (try clear hfz43_0); (try clear hfz43_1); (try clear hfz43_2); (try clear hfz43_3); (try clear hfz43_4); (try clear hfz43_5); (try clear hfz43_6); (try clear hfz46_0); (try clear hfz46_1); (try clear hfz46_2); (try clear hfz46_3); (try clear hfz46_4); (try clear hfz46_5); (try clear hfz46_6); (try clear hfz8_0); (try clear hfz8_1); (try clear hfz8_2); (try clear hfz8_3); (try clear hfz8_4); (try clear hfz8_5); (try clear hfz8_6); (try clear hx293_0); (try clear hx293_1); (try clear hx293_2); (try clear hx293_3); (try clear hx293_4); (try clear hx293_5); (try clear hx293_6); (try clear hx297_0); (try clear hx297_1); (try clear hx297_2); (try clear hx297_3); (try clear hx297_4); (try clear hx297_5); (try clear hx297_6); (try clear p2); (try clear p29); (try clear p293); (try clear p297); (try clear q2); (try clear q29); (try clear q293); (try clear q297)
    obtain ⟨x0_2, x62_2, rfl, HA, HK2, BK294, HB⟩ := hrel
    cases gk with
    | zero => exact absurd HA.out (by simp [impl_sayItem.l0])
    | succ k2 =>
     have H := HA.out
     clear HA
     simp only [impl_sayItem.l0] at H
     by_cases c47 : x62_2 < (((rd_T90 l1 a2).f6).length : Int)
     ·rw [if_pos c47] at H
      have c47b0 := decide_eq_true c47
      clear c47
      by_cases c48 : 0 ≤ x62_2
      case neg => rw [if_neg c48] at H; exact absurd H (by simp)
      rw [if_pos c48] at H
      have c48b0 := decide_eq_true c48
      clear c48
      by_cases c49 : x62_2 < (((rd_T90 l1 a2).f6).length : Int)
      case neg => rw [if_neg c49] at H; exact absurd H (by simp)
      rw [if_pos c49] at H
      have c49b0 := decide_eq_true c49
      clear c49
      replace H := Option.bind_eq_some_iff.mp H
      obtain ⟨t305, A500, H⟩ := H
      try dsimp only at H
      have A50 := Aside0.mk A500
      clear A500
      have H' := Aside0.mk H
      clear H
      have p304 : 0 ≤ (x62_2 : Int) := of_decide_eq_true ab4
      have q304 : x62_2 < (((rd_T90 l1 a2).f6).length : Int) := of_decide_eq_true ab4
      obtain ⟨ad304, e304, hx304_0⟩ := Kd.at_int HR293_6.out x62_2 p304 q304
      cases e304
      replace hx304_0 := (HB.out.below.cell (World.block_lt_of_cell? w0 _ hx304_0)).trans hx304_0
      replace p304 := eq_true p304
      replace q304 := eq_true q304
      go_wp2_with (first | ((with_reducible refine gate_callee (f := 78) rfl ?_); refine goesL_ (some 69) rfl rfl Tryd.func78 (by kernel_rfl) rfl #[.pointer (some ⟨b, 0, none⟩), .slice (some ad293) l1.length c1, .int .i64 (rd ((rd_T90 l1 a2).f6) x62_2)] rfl ab5 ?_; (with_reducible refine (ih k2 (by have := HJ5.out; have := HK2.out; omega) x0_2 _ _ l1 (rd ((rd_T90 l1 a2).f6) x62_2) t305 _ ?side1 ?side2 ?side5 A50.out).mono ?_); (case side1 => exact HR1.out); (case side2 => exact HC1.out); (case side5 => exact sy_self (by first | ((repeat (with_reducible first | exact HB.out | apply sy_alloc | apply sy_drewN | apply sy_drew1)); done) | exact bx_say (by repeat (with_reducible first | exact HX294.out | apply bx_set | apply bx_alloc | apply bx_drewN | apply bx_drew1)) | (repeat (first | (with_reducible first | exact HB.out | apply sy_alloc | apply sy_drewN | apply sy_drew1) | exact HB.out)))); rintro e w51 ⟨rfl, hs⟩; refine ⟨_, rfl, ?_⟩; have n0_ := Aside0.mk (blk_others (g := gb294) (cs := #[.int .i64 ((rd_T90 l1 a2).f0), .int .i64 ((rd_T90 l1 a2).f1), .string ((rd_T90 l1 a2).f2), .slice A293_3 ((rd_T90 l1 a2).f3).length c293_3, .string ((rd_T90 l1 a2).f4), .int .i64 ((rd_T90 l1 a2).f5), .slice (some ad304) ((rd_T90 l1 a2).f6).length c293_6]) (T := 90) (ab3 BK294) hs.kept (by have := HBLT.out; have := GW294.out; omega) (by decide)); have n1_ := Aside0.mk (sy_trans (by first | ((repeat (with_reducible first | exact HB.out | apply sy_alloc | apply sy_drewN | apply sy_drew1)); done) | exact bx_say (by repeat (with_reducible first | exact HX294.out | apply bx_set | apply bx_alloc | apply bx_drewN | apply bx_drew1)) | (repeat (first | (with_reducible first | exact HB.out | apply sy_alloc | apply sy_drewN | apply sy_drew1) | exact HB.out))) hs); clear BK294; clear HB; have BK294 := n0_; have HB := n1_; clear n0_ n1_; clear hs))
      go_roundg k2
      case measure => have := HJ5.out; have := HK2.out; omega
      case rel => exact ⟨(t305), (wrap64 (x62_2 + 1)), ab6, H', ⟨by have := HJ5.out; have := HK2.out; omega⟩, ⟨ab3 BK294⟩, ⟨by first | ((repeat (with_reducible first | exact HB.out | apply sy_alloc | apply sy_drewN | apply sy_drew1)); done) | exact bx_say (by repeat (with_reducible first | exact HX294.out | apply bx_set | apply bx_alloc | apply bx_drewN | apply bx_drew1)) | (repeat (first | (with_reducible first | exact HB.out | apply sy_alloc | apply sy_drewN | apply sy_drew1) | exact HB.out))⟩⟩
     ·rw [if_neg c47] at H
      have c47b0 := decide_eq_false c47
      clear c47
      by_cases c52 : ((rd_T90 l1 a2).f0) = 2
      ·rw [if_pos c52] at H
       have c52b0 : (((rd_T90 l1 a2).f0) == 2) = true := beq_iff_eq.mpr c52
       have c52b1 : (((rd_T90 l1 a2).f0) != 2) = false := bne_eq_false_iff_eq.mpr c52
       clear c52
       by_cases c53 : ((rd_T90 l1 a2).f1) = 0
       ·rw [if_pos c53] at H
        have c53b0 : (((rd_T90 l1 a2).f1) == 0) = true := beq_iff_eq.mpr c53
        have c53b1 : (((rd_T90 l1 a2).f1) != 0) = false := bne_eq_false_iff_eq.mpr c53
        clear c53
        replace H := Option.bind_eq_some_iff.mp H
        obtain ⟨t306, A540, H⟩ := H
        try dsimp only at H
        have A54 := Aside0.mk A540
        clear A540
        by_cases c55 : t306 = true
        ·subst c55
         rw [if_pos rfl] at H
         obtain rfl := Option.some.inj H
         obtain ⟨⟨hcz56_0, hcz56_1, hcz56_2, hcz56_3, hcz56_4, hcz56_5, hcz56_6⟩, hfz56_0, hfz56_1, hfz56_2, hfz56_3, hfz56_4, hfz56_5, hfz56_6⟩ := Op.cells7 BK294.out
         go_wp2_with (first | (go_at_call 117; (with_reducible refine (impl_Void.calls ((rd_T90 l1 a2).f2) true _ M_ ?side1 A54.out).mono ?_); (case side1 => exact sy_cell (by first | ((repeat (with_reducible first | exact HB.out | apply sy_alloc | apply sy_drewN | apply sy_drew1)); done) | exact bx_say (by repeat (with_reducible first | exact HX294.out | apply bx_set | apply bx_alloc | apply bx_drewN | apply bx_drew1)) | (repeat (first | (with_reducible first | exact HB.out | apply sy_alloc | apply sy_drewN | apply sy_drew1) | exact HB.out))) HM_.out); rintro e w' ⟨rfl, ⟨nd, rfl⟩⟩))
         go_end0
         exact ⟨ab7, by first | ((repeat (with_reducible first | exact HB.out | apply sy_alloc | apply sy_drewN | apply sy_drew1)); done) | exact bx_say (by repeat (with_reducible first | exact HX294.out | apply bx_set | apply bx_alloc | apply bx_drewN | apply bx_drew1)) | (repeat (first | (with_reducible first | exact HB.out | apply sy_alloc | apply sy_drewN | apply sy_drew1) | exact HB.out))⟩
        ·replace c55 := Bool.eq_false_iff.mpr c55
         subst c55
         rw [if_neg (show ¬ (false = true) by decide)] at H
         by_cases c57 : 2 + ((rd_T90 l1 a2).f2).size ≤ 9223372036854775807
         case neg => rw [if_neg c57] at H; exact absurd H (by simp)
         rw [if_pos c57] at H
         have c57b0 := eq_true c57
         have c57b1 := decide_eq_true c57
         try have c57b2 : (9223372036854775807 < 2 + ((rd_T90 l1 a2).f2).size) = False := eq_false (Nat.not_lt.2 c57)
         by_cases c58 : ((⟨#[60, 47]⟩ : ByteArray) ++ ((rd_T90 l1 a2).f2)).size + 1 ≤ 9223372036854775807
         case neg => rw [if_neg c58] at H; exact absurd H (by simp)
         rw [if_pos c58] at H
         have c58b0 := eq_true c58
         have c58b1 := decide_eq_true c58
         try (have c58b5 := c58; simp only [ByteArray.size_append, show (⟨#[60, 47]⟩ : ByteArray).size = 2 from rfl] at c58b5; have c58b6 := eq_false (Nat.not_lt.2 c58b5))
         try have c58b2 : (9223372036854775807 < ((⟨#[60, 47]⟩ : ByteArray) ++ ((rd_T90 l1 a2).f2)).size + 1) = False := eq_false (Nat.not_lt.2 c58)
         by_cases c59 : x0_2.size + (((⟨#[60, 47]⟩ : ByteArray) ++ ((rd_T90 l1 a2).f2)) ++ (⟨#[62]⟩ : ByteArray)).size ≤ 140737488355328
         case neg => rw [if_neg c59] at H; exact absurd H (by simp)
         rw [if_pos c59] at H
         have LA60 := Aside0.mk c59
         replace H := Option.bind_eq_some_iff.mp H
         obtain ⟨t307, A600, H⟩ := H
         try dsimp only at H
         have A60 := Aside0.mk (Option.some.inj A600)
         clear A600
         obtain rfl := Option.some.inj H
         obtain ⟨⟨hcz61_0, hcz61_1, hcz61_2, hcz61_3, hcz61_4, hcz61_5, hcz61_6⟩, hfz61_0, hfz61_1, hfz61_2, hfz61_3, hfz61_4, hfz61_5, hfz61_6⟩ := Op.cells7 BK294.out
         go_wp2_with (first | (go_at_call 117; (with_reducible refine (impl_Void.calls ((rd_T90 l1 a2).f2) false _ M_ ?side1 A54.out).mono ?_); (case side1 => exact sy_cell (by first | ((repeat (with_reducible first | exact HB.out | apply sy_alloc | apply sy_drewN | apply sy_drew1)); done) | exact bx_say (by repeat (with_reducible first | exact HX294.out | apply bx_set | apply bx_alloc | apply bx_drewN | apply bx_drew1)) | (repeat (first | (with_reducible first | exact HB.out | apply sy_alloc | apply sy_drewN | apply sy_drew1) | exact HB.out))) HM_.out); rintro e w' ⟨rfl, ⟨nd, rfl⟩⟩) | ((with_reducible refine gate_callee (f := 49) rfl ?_); refine goesL_ (some 90) rfl rfl Tryd.func49 (by kernel_rfl) rfl #[.pointer (some ⟨b, 0, none⟩), .string (((⟨#[60, 47]⟩ : ByteArray) ++ ((rd_T90 l1 a2).f2)) ++ (⟨#[62]⟩ : ByteArray))] rfl ab5 ?_; (with_reducible refine (sy_WriteString (w0 := w0) (we := w) (acc := x0_2) (((⟨#[60, 47]⟩ : ByteArray) ++ ((rd_T90 l1 a2).f2)) ++ (⟨#[62]⟩ : ByteArray)) ?sideS ?sideL).mono ?_); (case sideL => exact LA60.out); (case sideS => exact (by first | ((repeat (with_reducible first | exact HB.out | apply sy_alloc | apply sy_drewN | apply sy_drew1)); done) | exact bx_say (by repeat (with_reducible first | exact HX294.out | apply bx_set | apply bx_alloc | apply bx_drewN | apply bx_drew1)) | (repeat (first | (with_reducible first | exact HB.out | apply sy_alloc | apply sy_drewN | apply sy_drew1) | exact HB.out)))); rintro e w62 ⟨rfl, hs, hk_⟩; refine ⟨_, rfl, ?_⟩; have n0_ := Aside0.mk (blk_others (g := gb294) (cs := #[.int .i64 ((rd_T90 l1 a2).f0), .int .i64 ((rd_T90 l1 a2).f1), .string ((rd_T90 l1 a2).f2), .slice A293_3 ((rd_T90 l1 a2).f3).length c293_3, .string ((rd_T90 l1 a2).f4), .int .i64 ((rd_T90 l1 a2).f5), .slice A293_6 ((rd_T90 l1 a2).f6).length c293_6]) (T := 90) (ab3 BK294) hk_ (by have := HBLT.out; have := GW294.out; omega) (by decide)); have n1_ := Aside0.mk (sy_as A60.out hs); clear BK294; clear HB; have BK294 := n0_; have HB := n1_; clear n0_ n1_; clear hs hk_))
         go_end0
         exact ⟨ab7, by first | ((repeat (with_reducible first | exact HB.out | apply sy_alloc | apply sy_drewN | apply sy_drew1)); done) | exact bx_say (by repeat (with_reducible first | exact HX294.out | apply bx_set | apply bx_alloc | apply bx_drewN | apply bx_drew1)) | (repeat (first | (with_reducible first | exact HB.out | apply sy_alloc | apply sy_drewN | apply sy_drew1) | exact HB.out))⟩
       ·rw [if_neg c53] at H
        have c53b0 : (((rd_T90 l1 a2).f1) == 0) = false := beq_eq_false_iff_ne.mpr c53
        have c53b1 : (((rd_T90 l1 a2).f1) != 0) = true := bne_iff_ne.mpr c53
        by_cases c63 : 2 + ((rd_T90 l1 a2).f2).size ≤ 9223372036854775807
        case neg => rw [if_neg c63] at H; exact absurd H (by simp)
        rw [if_pos c63] at H
        have c63b0 := eq_true c63
        have c63b1 := decide_eq_true c63
        try have c63b2 : (9223372036854775807 < 2 + ((rd_T90 l1 a2).f2).size) = False := eq_false (Nat.not_lt.2 c63)
        by_cases c64 : ((⟨#[60, 47]⟩ : ByteArray) ++ ((rd_T90 l1 a2).f2)).size + 1 ≤ 9223372036854775807
        case neg => rw [if_neg c64] at H; exact absurd H (by simp)
        rw [if_pos c64] at H
        have c64b0 := eq_true c64
        have c64b1 := decide_eq_true c64
        try (have c64b5 := c64; simp only [ByteArray.size_append, show (⟨#[60, 47]⟩ : ByteArray).size = 2 from rfl] at c64b5; have c64b6 := eq_false (Nat.not_lt.2 c64b5))
        try have c64b2 : (9223372036854775807 < ((⟨#[60, 47]⟩ : ByteArray) ++ ((rd_T90 l1 a2).f2)).size + 1) = False := eq_false (Nat.not_lt.2 c64)
        by_cases c65 : x0_2.size + (((⟨#[60, 47]⟩ : ByteArray) ++ ((rd_T90 l1 a2).f2)) ++ (⟨#[62]⟩ : ByteArray)).size ≤ 140737488355328
        case neg => rw [if_neg c65] at H; exact absurd H (by simp)
        rw [if_pos c65] at H
        have LA66 := Aside0.mk c65
        replace H := Option.bind_eq_some_iff.mp H
        obtain ⟨t308, A660, H⟩ := H
        try dsimp only at H
        have A66 := Aside0.mk (Option.some.inj A660)
        clear A660
        obtain rfl := Option.some.inj H
        obtain ⟨⟨hcz67_0, hcz67_1, hcz67_2, hcz67_3, hcz67_4, hcz67_5, hcz67_6⟩, hfz67_0, hfz67_1, hfz67_2, hfz67_3, hfz67_4, hfz67_5, hfz67_6⟩ := Op.cells7 BK294.out
        go_wp2_with (first | ((with_reducible refine gate_callee (f := 49) rfl ?_); refine goesL_ (some 90) rfl rfl Tryd.func49 (by kernel_rfl) rfl #[.pointer (some ⟨b, 0, none⟩), .string (((⟨#[60, 47]⟩ : ByteArray) ++ ((rd_T90 l1 a2).f2)) ++ (⟨#[62]⟩ : ByteArray))] rfl ab5 ?_; (with_reducible refine (sy_WriteString (w0 := w0) (we := w) (acc := x0_2) (((⟨#[60, 47]⟩ : ByteArray) ++ ((rd_T90 l1 a2).f2)) ++ (⟨#[62]⟩ : ByteArray)) ?sideS ?sideL).mono ?_); (case sideL => exact LA66.out); (case sideS => exact (by first | ((repeat (with_reducible first | exact HB.out | apply sy_alloc | apply sy_drewN | apply sy_drew1)); done) | exact bx_say (by repeat (with_reducible first | exact HX294.out | apply bx_set | apply bx_alloc | apply bx_drewN | apply bx_drew1)) | (repeat (first | (with_reducible first | exact HB.out | apply sy_alloc | apply sy_drewN | apply sy_drew1) | exact HB.out)))); rintro e w68 ⟨rfl, hs, hk_⟩; refine ⟨_, rfl, ?_⟩; have n0_ := Aside0.mk (blk_others (g := gb294) (cs := #[.int .i64 ((rd_T90 l1 a2).f0), .int .i64 ((rd_T90 l1 a2).f1), .string ((rd_T90 l1 a2).f2), .slice A293_3 ((rd_T90 l1 a2).f3).length c293_3, .string ((rd_T90 l1 a2).f4), .int .i64 ((rd_T90 l1 a2).f5), .slice A293_6 ((rd_T90 l1 a2).f6).length c293_6]) (T := 90) (ab3 BK294) hk_ (by have := HBLT.out; have := GW294.out; omega) (by decide)); have n1_ := Aside0.mk (sy_as A66.out hs); clear BK294; clear HB; have BK294 := n0_; have HB := n1_; clear n0_ n1_; clear hs hk_))
        go_end0
        exact ⟨ab7, by first | ((repeat (with_reducible first | exact HB.out | apply sy_alloc | apply sy_drewN | apply sy_drew1)); done) | exact bx_say (by repeat (with_reducible first | exact HX294.out | apply bx_set | apply bx_alloc | apply bx_drewN | apply bx_drew1)) | (repeat (first | (with_reducible first | exact HB.out | apply sy_alloc | apply sy_drewN | apply sy_drew1) | exact HB.out))⟩
      ·rw [if_neg c52] at H
       have c52b0 : (((rd_T90 l1 a2).f0) == 2) = false := beq_eq_false_iff_ne.mpr c52
       have c52b1 : (((rd_T90 l1 a2).f0) != 2) = true := bne_iff_ne.mpr c52
       obtain rfl := Option.some.inj H
       obtain ⟨⟨hcz69_0, hcz69_1, hcz69_2, hcz69_3, hcz69_4, hcz69_5, hcz69_6⟩, hfz69_0, hfz69_1, hfz69_2, hfz69_3, hfz69_4, hfz69_5, hfz69_6⟩ := Op.cells7 BK294.out
       go_wp2
       go_end0
       exact ⟨ab7, by first | ((repeat (with_reducible first | exact HB.out | apply sy_alloc | apply sy_drewN | apply sy_drew1)); done) | exact bx_say (by repeat (with_reducible first | exact HX294.out | apply bx_set | apply bx_alloc | apply bx_drewN | apply bx_drew1)) | (repeat (first | (with_reducible first | exact HB.out | apply sy_alloc | apply sy_drewN | apply sy_drew1) | exact HB.out))⟩


end Go.Proofs.YtgljgbkbjlondaaDoor.P
