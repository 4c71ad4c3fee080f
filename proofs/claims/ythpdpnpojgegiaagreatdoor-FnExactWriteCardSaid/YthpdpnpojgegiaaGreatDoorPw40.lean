-- WRITTEN BY hprint.py
import Derived.Test.YthpdpnpojgegiaaGreatDoorPw0
import Derived.Test.YthpdpnpojgegiaaGreatDoorPw15
import Derived.Test.YthpdpnpojgegiaaGreatDoorPw33
import Derived.Test.YthpdpnpojgegiaaGreatDoorPw38
import Derived.Test.YthpdpnpojgegiaaGreatDoorPw39
namespace Go.Proofs.YthpdpnpojgegiaaGreatDoor.P
open Go.RowKit Go.Proofs.YthpdpnpojgegiaaGreatDoorW.PrintWords Go.Proofs.YthpdpnpojgegiaaGreatDoorW.PrintLast Go.Proofs.YthpdpnpojgegiaaGreatDoorW.PrintMore
attribute [local go_sem] max2_int min2_int max_two min_two max_three min_three max_four min_four
set_option linter.unusedVariables false
set_option linter.unusedSimpArgs false
set_option maxHeartbeats 8000000
set_option maxRecDepth 100000
theorem z40_0 {p : Prop} (h : p := by repeat (first | (with_reducible first | exact HB.out | apply sy_alloc | apply sy_drewN | apply sy_drew1) | exact HB.out)) : p := h
theorem z40_1 {q0 p : Prop} (g0 : Aside0 q0) (h : Aside0 q0 → p := by intro g0_; repeat (first | (with_reducible first | exact g0_.out | apply bx_alloc | apply bx_drewN | apply bx_drew1 | apply bx_set) | exact g0_.out)) : p := h g0

/-! ### impl_sayEl: function 20 (by hand) -/
/-- What stands while an element is said: the Builder's text, the caller's memory, all other blocks. -/
structure Say (w0 : World) (b : Nat) (acc : ByteArray) (we w : World) : Prop where
 bu : Lib.IsBuilderF 46 5 w0.heap.size b (Lib.strCells acc) w
 below : Below w0.heap.size w0 w
 kept : Lib.OthersKept 5 (some b) we w
 size : we.heap.size ≤ w.heap.size
 blt : b < we.heap.size
theorem kept_below {b : Option Nat} {a w w' : World} (h : Lib.OthersKept 5 b a w) (hb : Below w.heap.size w w') : Lib.OthersKept 5 b a w' := fun k o hk hn ho => by
 have h1 := h k o hk hn ho
 rw [← h1]
 exact hb.block k (Array.getElem?_eq_some_iff.mp h1).1
section
variable {w0 we w w1 : World} {b : Nat} {acc : ByteArray}
theorem sy_step (h : Say w0 b acc we w) (hb : Below w.heap.size w w1) : Say w0 b acc we w1 := ⟨Op.bu_below h.bu hb, below_step h.below hb, kept_below h.kept hb, Nat.le_trans h.size hb.size, h.blt⟩
theorem sy_alloc (h : Say w0 b acc we w) (o : Obj) : Say w0 b acc we (w.alloc o) := sy_step h ((Below.refl _ w).alloc (Nat.le_refl _) _)
theorem sy_drewN (h : Say w0 b acc we w) (n : Nat) : Say w0 b acc we (w.drewN n) := ⟨h.bu, pw_below_drewN h.below n, h.kept, h.size, h.blt⟩
theorem sy_drew1 (h : Say w0 b acc we w) : Say w0 b acc we w.drew := ⟨h.bu.elim (fun x => .inl x.drew) (fun x => .inr x.drew), below_drew1 h.below, h.kept.drew, h.size, h.blt⟩
theorem sy_size (h : Say w0 b acc we w) : we.heap.size ≤ w.heap.size := h.size
theorem sy_as {acc' : ByteArray} (e : acc = acc') (h : Say w0 b acc we w) : Say w0 b acc' we w := e ▸ h
theorem sy_self (h : Say w0 b acc we w) : Say w0 b acc w w := ⟨h.bu, h.below, Lib.OthersKept.refl _ _ _, Nat.le_refl _, Nat.lt_of_lt_of_le h.blt h.size⟩
theorem sy_trans {acc' : ByteArray} (h : Say w0 b acc we w) (k : Say w0 b acc' w w1) : Say w0 b acc' we w1 := ⟨k.bu, k.below, h.kept.trans k.kept, Nat.le_trans h.size k.size, h.blt⟩
theorem sy_cell (h : Say w0 b acc we w) {p : Addr} {v : Value} (hp : w0.cell? p = some v) : w.cell? p = some v := (h.below.cell (World.block_lt_of_cell? w0 _ hp)).trans hp
/-- A block that the walk has just made, and stores into. -/
def Bx (w0 : World) (b : Nat) (acc : ByteArray) (we : World) (g : Nat) (w : World) : Prop := ∃ wp, Say w0 b acc we wp ∧ Below wp.heap.size wp w ∧ wp.heap.size ≤ g
theorem bx_mk {g : Nat} (h : Say w0 b acc we w) (hb : Below w.heap.size w w1) (hg : g = w.heap.size) : Bx w0 b acc we g w1 := ⟨w, h, hb, by omega⟩
theorem bx_set {g : Nat} (h : Bx w0 b acc we g w) {i : Nat} {v : Value} : Bx w0 b acc we g (w.setCell ⟨g, i, none⟩ v) := by
 obtain ⟨wp, h1, h2, h3⟩ := h
 exact ⟨wp, h1, below_set h2 h3, h3⟩
theorem bx_alloc {g : Nat} (h : Bx w0 b acc we g w) (o : Obj) : Bx w0 b acc we g (w.alloc o) := by
 obtain ⟨wp, h1, h2, h3⟩ := h
 exact ⟨wp, h1, below_step h2 ((Below.refl _ w).alloc (Nat.le_refl _) _), h3⟩
theorem bx_drewN {g : Nat} (h : Bx w0 b acc we g w) (n : Nat) : Bx w0 b acc we g (w.drewN n) := by
 obtain ⟨wp, h1, h2, h3⟩ := h
 exact ⟨wp, h1, pw_below_drewN h2 n, h3⟩
theorem bx_drew1 {g : Nat} (h : Bx w0 b acc we g w) : Bx w0 b acc we g w.drew := by
 obtain ⟨wp, h1, h2, h3⟩ := h
 exact ⟨wp, h1, below_drew1 h2, h3⟩
theorem bx_say {g : Nat} (h : Bx w0 b acc we g w) : Say w0 b acc we w := by
 obtain ⟨wp, h1, h2, _⟩ := h
 exact sy_step h1 h2
theorem blk_others {g : Nat} {cs : Array Value} {T : Nat} {fz : Nat × Nat} (h : w.heap[g]? = some (.cells cs T fz)) (hk : Lib.OthersKept 5 (some b) w w1) (hn : g ≠ b) (hT : T ≠ 5) : w1.heap[g]? = some (.cells cs T fz) :=
 hk g _ h (fun e => hn (Option.some.inj e)) (fun c f e => by injection e with _ e2 _; exact hT e2)
theorem sy_WriteString (s : ByteArray) (h : Say w0 b acc we w) (hl : acc.size + s.size ≤ 140737488355328) :
  Calls Tryz.prog 25 #[.pointer (some ⟨b, 0, none⟩), .string s] w fun e w' => e = .returned (.tuple #[.int .i64 s.size, .nilIface]) ∧ Say w0 b (acc ++ s) we w' ∧ Lib.OthersKept 5 (some b) w w' := by
 refine (bu_WriteString w0.heap.size b (Lib.strCells acc) s w h.bu (by rw [Lib.strCells_length]; exact hl) h.below.size).mono ?_
 rintro e w' ⟨he, h1, h2, h3⟩
 exact ⟨he, ⟨by rw [Op.strCells_add]; exact h1, h.below.trans h2, h.kept.trans h3, Nat.le_trans h.size h2.size, h.blt⟩, h3⟩
theorem sy_WriteByte (c : Int) (s : ByteArray) (hc : Lib.strCells s = [.int .u8 c]) (h : Say w0 b acc we w) (hl : acc.size + 1 ≤ 140737488355328) :
  Calls Tryz.prog 26 #[.pointer (some ⟨b, 0, none⟩), .int .u8 c] w fun e w' => e = .returned .nilIface ∧ Say w0 b (acc ++ s) we w' ∧ Lib.OthersKept 5 (some b) w w' := by
 refine (bu_WriteByte w0.heap.size b (Lib.strCells acc) c w h.bu (by rw [Lib.strCells_length]; exact hl) h.below.size).mono ?_
 rintro e w' ⟨he, h1, h2, h3⟩
 exact ⟨he, ⟨by rw [Op.strCells_add, hc]; exact h1, h.below.trans h2, h.kept.trans h3, Nat.le_trans h.size h2.size, h.blt⟩, h3⟩
end
mutual
def impl_sayEl.j0 : Nat → ByteArray → Int → Int → ByteArray → List (S62) → ByteArray → List (S31) → Option (ByteArray)
 | 0, _, _, _, _, _, _, _ => none
 | k + 1, x0, x398000, x398001, x398002, x398003, x398004, x398005 => impl_sayEl.l0 k x0 x398003 (x398003.length : Int) 0 x398000 x398001 x398002 x398003 x398004 x398005
def impl_sayEl.l0 : Nat → ByteArray → List (S62) → Int → Int → Int → Int → ByteArray → List (S62) → ByteArray → List (S31) → Option (ByteArray)
 | 0, _, _, _, _, _, _, _, _, _, _ => none
 | k + 1, x0, x44, x45, x46, x398000, x398001, x398002, x398003, x398004, x398005 => if x46 < x45 then (if 0 ≤ x46 then (if x46 < (x44.length : Int) then (if 1 + ((rd_T62 x44 x46).f0).size ≤ 9223372036854775807 then (if ((⟨#[32]⟩ : ByteArray) ++ ((rd_T62 x44 x46).f0)).size + 2 ≤ 9223372036854775807 then ((impl_Escape.f ((rd_T62 x44 x46).f1) true).bind fun t406 => (if (((⟨#[32]⟩ : ByteArray) ++ ((rd_T62 x44 x46).f0)) ++ (⟨#[61, 34]⟩ : ByteArray)).size + t406.size ≤ 9223372036854775807 then (if ((((⟨#[32]⟩ : ByteArray) ++ ((rd_T62 x44 x46).f0)) ++ (⟨#[61, 34]⟩ : ByteArray)) ++ t406).size + 1 ≤ 9223372036854775807 then (if x0.size + (((((⟨#[32]⟩ : ByteArray) ++ ((rd_T62 x44 x46).f0)) ++ (⟨#[61, 34]⟩ : ByteArray)) ++ t406) ++ (⟨#[34]⟩ : ByteArray)).size ≤ 140737488355328 then ((some (x0 ++ (((((⟨#[32]⟩ : ByteArray) ++ ((rd_T62 x44 x46).f0)) ++ (⟨#[61, 34]⟩ : ByteArray)) ++ t406) ++ (⟨#[34]⟩ : ByteArray)))).bind fun t407 => (impl_sayEl.l0 k t407 x44 x45 (wrap64 (x46 + 1)) x398000 x398001 x398002 x398003 x398004 x398005)) else (none)) else (none)) else (none))) else (none)) else (none)) else (none)) else (none)) else (if (x398005.length : Int) = 0 then (if x0.size + 2 ≤ 140737488355328 then ((some (x0 ++ (⟨#[47, 62]⟩ : ByteArray))).bind fun t408 => (some t408)) else (none)) else (if x0.size + 1 ≤ 140737488355328 then ((some (x0 ++ (⟨#[62]⟩ : ByteArray))).bind fun t409 => (impl_sayEl.l1 k t409 x398005 (x398005.length : Int) 0 x398000 x398001 x398002 x398003 x398004 x398005)) else (none)))
def impl_sayEl.l1 : Nat → ByteArray → List (S31) → Int → Int → Int → Int → ByteArray → List (S62) → ByteArray → List (S31) → Option (ByteArray)
 | 0, _, _, _, _, _, _, _, _, _, _ => none
 | k + 1, x0, x71, x72, x73, x398000, x398001, x398002, x398003, x398004, x398005 => if x73 < x72 then (if 0 ≤ x73 then (if x73 < (x71.length : Int) then ((impl_sayEl.f k x0 ((rd_T31 x71 x73).f0) ((rd_T31 x71 x73).f1) ((rd_T31 x71 x73).f2) ((rd_T31 x71 x73).f3) ((rd_T31 x71 x73).f4) ((rd_T31 x71 x73).f5) x398001).bind fun t412 => (impl_sayEl.l1 k t412 x71 x72 (wrap64 (x73 + 1)) x398000 x398001 x398002 x398003 x398004 x398005)) else (none)) else (none)) else (if 2 + x398002.size ≤ 9223372036854775807 then (if ((⟨#[60, 47]⟩ : ByteArray) ++ x398002).size + 1 ≤ 9223372036854775807 then (if x0.size + (((⟨#[60, 47]⟩ : ByteArray) ++ x398002) ++ (⟨#[62]⟩ : ByteArray)).size ≤ 140737488355328 then ((some (x0 ++ (((⟨#[60, 47]⟩ : ByteArray) ++ x398002) ++ (⟨#[62]⟩ : ByteArray)))).bind fun t413 => (some t413)) else (none)) else (none)) else (none))
def impl_sayEl.f : Nat → ByteArray → Int → Int → ByteArray → List (S62) → ByteArray → List (S31) → Int → Option (ByteArray)
 | 0, _, _, _, _, _, _, _, _ => none
 | k + 1, a0, a1_0, a1_1, a1_2, l1_3, a1_4, l1_5, a2 => if a1_0 = 2 then ((impl_Escape.f a1_4 false).bind fun t398 => (if a0.size + t398.size ≤ 140737488355328 then ((some (a0 ++ t398)).bind fun t399 => (some t399)) else (none))) else (if a1_0 = 3 then (if 4 + a1_4.size ≤ 9223372036854775807 then (if ((⟨#[60, 33, 45, 45]⟩ : ByteArray) ++ a1_4).size + 3 ≤ 9223372036854775807 then (if a0.size + (((⟨#[60, 33, 45, 45]⟩ : ByteArray) ++ a1_4) ++ (⟨#[45, 45, 62]⟩ : ByteArray)).size ≤ 140737488355328 then ((some (a0 ++ (((⟨#[60, 33, 45, 45]⟩ : ByteArray) ++ a1_4) ++ (⟨#[45, 45, 62]⟩ : ByteArray)))).bind fun t400 => (some t400)) else (none)) else (none)) else (none)) else (if 1 + a1_2.size ≤ 9223372036854775807 then (if a0.size + ((⟨#[60]⟩ : ByteArray) ++ a1_2).size ≤ 140737488355328 then ((some (a0 ++ ((⟨#[60]⟩ : ByteArray) ++ a1_2))).bind fun t401 => (if a1_1 = a2 then (impl_sayEl.j0 k t401 a1_0 a1_1 a1_2 l1_3 a1_4 l1_5) else ((impl_SpaceName.f a1_1).bind fun t402 => (if 8 + t402.size ≤ 9223372036854775807 then (if ((⟨#[32, 120, 109, 108, 110, 115, 61, 34]⟩ : ByteArray) ++ t402).size + 1 ≤ 9223372036854775807 then (if t401.size + (((⟨#[32, 120, 109, 108, 110, 115, 61, 34]⟩ : ByteArray) ++ t402) ++ (⟨#[34]⟩ : ByteArray)).size ≤ 140737488355328 then ((some (t401 ++ (((⟨#[32, 120, 109, 108, 110, 115, 61, 34]⟩ : ByteArray) ++ t402) ++ (⟨#[34]⟩ : ByteArray)))).bind fun t403 => (impl_sayEl.j0 k t403 a1_0 a1_1 a1_2 l1_3 a1_4 l1_5)) else (none)) else (none)) else (none))))) else (none)) else (none)))
end
theorem impl_sayEl.mono_l : ∀ k, (∀ y0 y1 y2 y3 y4 y5 y6 y7, LeO (impl_sayEl.f k y0 y1 y2 y3 y4 y5 y6 y7) (impl_sayEl.f (k + 1) y0 y1 y2 y3 y4 y5 y6 y7)) ∧ (∀ y0 y1 y2 y3 y4 y5 y6, LeO (impl_sayEl.j0 k y0 y1 y2 y3 y4 y5 y6) (impl_sayEl.j0 (k + 1) y0 y1 y2 y3 y4 y5 y6)) ∧ (∀ y0 y1 y2 y3 y4 y5 y6 y7 y8 y9, LeO (impl_sayEl.l0 k y0 y1 y2 y3 y4 y5 y6 y7 y8 y9) (impl_sayEl.l0 (k + 1) y0 y1 y2 y3 y4 y5 y6 y7 y8 y9)) ∧ (∀ y0 y1 y2 y3 y4 y5 y6 y7 y8 y9, LeO (impl_sayEl.l1 k y0 y1 y2 y3 y4 y5 y6 y7 y8 y9) (impl_sayEl.l1 (k + 1) y0 y1 y2 y3 y4 y5 y6 y7 y8 y9))
 | 0 => ⟨fun _ _ _ _ _ _ _ _ r h => by simp [impl_sayEl.f] at h, fun _ _ _ _ _ _ _ r h => by simp [impl_sayEl.j0] at h, fun _ _ _ _ _ _ _ _ _ _ r h => by simp [impl_sayEl.l0] at h, fun _ _ _ _ _ _ _ _ _ _ r h => by simp [impl_sayEl.l1] at h⟩
 | k + 1 => by
  obtain ⟨ih0, ih1, ih2, ih3⟩ := impl_sayEl.mono_l k
  refine ⟨?_, ?_, ?_, ?_⟩
  ·intro y0 y1 y2 y3 y4 y5 y6 y7
   unfold impl_sayEl.f
   repeat' with_reducible first | exact ih0 _ _ _ _ _ _ _ _ | exact ih1 _ _ _ _ _ _ _ | exact ih2 _ _ _ _ _ _ _ _ _ _ | exact ih3 _ _ _ _ _ _ _ _ _ _ | exact LeO.refl _ | exact LeO.none _ | refine LeO.ite ?_ ?_ | refine LeO.bind ?_ fun _ => ?_
  ·intro y0 y1 y2 y3 y4 y5 y6
   unfold impl_sayEl.j0
   repeat' with_reducible first | exact ih0 _ _ _ _ _ _ _ _ | exact ih1 _ _ _ _ _ _ _ | exact ih2 _ _ _ _ _ _ _ _ _ _ | exact ih3 _ _ _ _ _ _ _ _ _ _ | exact LeO.refl _ | exact LeO.none _ | refine LeO.ite ?_ ?_ | refine LeO.bind ?_ fun _ => ?_
  ·intro y0 y1 y2 y3 y4 y5 y6 y7 y8 y9
   unfold impl_sayEl.l0
   repeat' with_reducible first | exact ih0 _ _ _ _ _ _ _ _ | exact ih1 _ _ _ _ _ _ _ | exact ih2 _ _ _ _ _ _ _ _ _ _ | exact ih3 _ _ _ _ _ _ _ _ _ _ | exact LeO.refl _ | exact LeO.none _ | refine LeO.ite ?_ ?_ | refine LeO.bind ?_ fun _ => ?_
  ·intro y0 y1 y2 y3 y4 y5 y6 y7 y8 y9
   unfold impl_sayEl.l1
   repeat' with_reducible first | exact ih0 _ _ _ _ _ _ _ _ | exact ih1 _ _ _ _ _ _ _ | exact ih2 _ _ _ _ _ _ _ _ _ _ | exact ih3 _ _ _ _ _ _ _ _ _ _ | exact LeO.refl _ | exact LeO.none _ | refine LeO.ite ?_ ?_ | refine LeO.bind ?_ fun _ => ?_
theorem impl_sayEl.mono : ∀ a0 a1 a2 a3 a4 a5 a6 a7 k, LeO (impl_sayEl.f k a0 a1 a2 a3 a4 a5 a6 a7) (impl_sayEl.f (k + 1) a0 a1 a2 a3 a4 a5 a6 a7) := by
 intro a0 a1 a2 a3 a4 a5 a6 a7 k
 obtain ⟨ih0, ih1, ih2, ih3⟩ := impl_sayEl.mono_l k
 exact ih0 a0 a1 a2 a3 a4 a5 a6 a7
def impl_sayEl.T12 : Bool × List (List Nat × List Nat) := (true, [([], []), ([], []), ([1], [1]), ([2], [2]), ([3], [3]), ([], []), ([5], [5]), ([6], [6]), ([4, 7], [4, 7]), ([8], [8]), ([0, 9, 7], [0, 9])])
def impl_sayEl.B12 : List Nat := [0, 0, 2, 6, 14, 0, 32, 96, 254, 510, 1023]
theorem impl_sayEl.tab12 : rtab .any (opsOf Tryz.f20 12) = impl_sayEl.T12 := by kernel_rfl
theorem impl_sayEl.bits12 : waitsOk impl_sayEl.T12.2 impl_sayEl.B12 = true := by kernel_rfl
theorem impl_sayEl.calls_b (w0 : World) (b : Nat) (M_ : Int) (hm : w0.cell? ⟨0, 0, none⟩ = some (.int .i64 M_)) (k : Nat) : ∀ (a0 : ByteArray) (a1_0 : Int) (a1_1 : Int) (a1_2 : ByteArray) (A1_3 : Option Addr) (c1_3 : Nat) (l1_3 : List (S62)) (a1_4 : ByteArray) (A1_5 : Option Addr) (c1_5 : Nat) (l1_5 : List (S31)) (a2 : Int) (r : ByteArray) (w : World) (hr1_3 : Kd.C k62 w0 A1_3 l1_3.length l1_3) (hc1_3 : l1_3.length ≤ c1_3) (hr1_5 : Kd.C k31 w0 A1_5 l1_5.length l1_5) (hc1_5 : l1_5.length ≤ c1_5) (hS : Say w0 b a0 w w) (h : impl_sayEl.f k a0 a1_0 a1_1 a1_2 l1_3 a1_4 l1_5 a2 = some r),
  Calls Tryz.prog 20 #[.pointer (some ⟨b, 0, none⟩), .agg #[.int .i64 a1_0, .int .i64 a1_1, .string a1_2, .slice A1_3 l1_3.length c1_3, .string a1_4, .slice A1_5 l1_5.length c1_5], .int .i64 a2] w fun e w' => e = .returned (.tuple #[]) ∧ Say w0 b r w w' := by
 induction k using Nat.strongRecOn with
 | _ k ih =>
 intro a0 a1_0 a1_1 a1_2 A1_3 c1_3 l1_3 a1_4 A1_5 c1_5 l1_5 a2 r w hr1_3 hc1_3 hr1_5 hc1_5 hS h
 cases k with
 | zero => exact absurd h (by simp [impl_sayEl.f])
 | succ k =>
 simp only [impl_sayEl.f] at h
 have hu31 := Tryz.underlying31
 have hu62 := Tryz.underlying62
 have HR1_3 := am hr1_3
 have HC1_3 := am hc1_3
 clear hr1_3 hc1_3
 have HR1_5 := am hr1_5
 have HC1_5 := am hc1_5
 clear hr1_5 hc1_5
 have HB := am hS
 have HBLT := am hS.blt
 have HM := am hm
 clear hS
 have H : (if a1_0 = 2 then ((impl_Escape.f a1_4 false).bind fun t398 => (if a0.size + t398.size ≤ 140737488355328 then ((some (a0 ++ t398)).bind fun t399 => (some t399)) else (none))) else (if a1_0 = 3 then (if 4 + a1_4.size ≤ 9223372036854775807 then (if ((⟨#[60, 33, 45, 45]⟩ : ByteArray) ++ a1_4).size + 3 ≤ 9223372036854775807 then (if a0.size + (((⟨#[60, 33, 45, 45]⟩ : ByteArray) ++ a1_4) ++ (⟨#[45, 45, 62]⟩ : ByteArray)).size ≤ 140737488355328 then ((some (a0 ++ (((⟨#[60, 33, 45, 45]⟩ : ByteArray) ++ a1_4) ++ (⟨#[45, 45, 62]⟩ : ByteArray)))).bind fun t400 => (some t400)) else (none)) else (none)) else (none)) else (if 1 + a1_2.size ≤ 9223372036854775807 then (if a0.size + ((⟨#[60]⟩ : ByteArray) ++ a1_2).size ≤ 140737488355328 then ((some (a0 ++ ((⟨#[60]⟩ : ByteArray) ++ a1_2))).bind fun t401 => (if a1_1 = a2 then (impl_sayEl.j0 k t401 a1_0 a1_1 a1_2 l1_3 a1_4 l1_5) else ((impl_SpaceName.f a1_1).bind fun t402 => (if 8 + t402.size ≤ 9223372036854775807 then (if ((⟨#[32, 120, 109, 108, 110, 115, 61, 34]⟩ : ByteArray) ++ t402).size + 1 ≤ 9223372036854775807 then (if t401.size + (((⟨#[32, 120, 109, 108, 110, 115, 61, 34]⟩ : ByteArray) ++ t402) ++ (⟨#[34]⟩ : ByteArray)).size ≤ 140737488355328 then ((some (t401 ++ (((⟨#[32, 120, 109, 108, 110, 115, 61, 34]⟩ : ByteArray) ++ t402) ++ (⟨#[34]⟩ : ByteArray)))).bind fun t403 => (impl_sayEl.j0 k t403 a1_0 a1_1 a1_2 l1_3 a1_4 l1_5)) else (none)) else (none)) else (none))))) else (none)) else (none)))) = some r := h
 clear h
 replace H := ie_ H; rcases H with ⟨c4b0, c4b1, H⟩ | ⟨c4, c4b0, c4b1, H⟩
 ·replace H := bi_ H; obtain ⟨t398, A5, H⟩ := H
  by_cases c6 : a0.size + t398.size ≤ 140737488355328
  case neg => rw [if_neg c6] at H; exact absurd H (by simp)
  rw [if_pos c6] at H
  have LA7 := am c6
  replace H := Option.bind_eq_some_iff.mp H
  obtain ⟨t399, A70, H⟩ := H
  try dsimp only at H
  have A7 := am (Option.some.inj A70)
  clear A70
  obtain rfl := Option.some.inj H
  go_enter Tryz.func20, Tryz.ntmps20
  go_wp2_with (first | ((with_reducible refine gd_ 4 ?_); refine bx_ 4 (cs := #[.int .i64 a1_0, .int .i64 a1_1, .string a1_2, .slice A1_3 l1_3.length c1_3, .string a1_4, .slice A1_5 l1_5.length c1_5]) 31 ?_; intro gb397 hg w8 hbox hb; have BK397 := am hbox; have GW397 := am ((by rw [hg]; exact (sy_size (z40_0)) : w.heap.size ≤ gb397)); have GE397 := am ((by rw [hg]; exact (sy_size (z40_0)) : w.heap.size ≤ gb397)); replace HB := am (sy_step (z40_0) hb); clear hb hbox hg; obtain ⟨⟨_, _, _, _, _, _⟩, _, _, _, _, _, _⟩ := Op.cells6 BK397.out) | ((with_reducible refine gate_callee (f := 34) rfl ?_); refine goesL_ (some 17) rfl rfl Tryz.func34 (by kernel_rfl) rfl #[.string a1_4, .bool false] rfl ab5 ?_; (with_reducible refine (impl_Escape.calls_m a1_4 false t398 M_ _ ?sideM A5.out).mono ?_); (case sideM => exact sy_cell (z40_0) HM.out); rintro e w10 ⟨rfl, hb⟩; refine ⟨_, rfl, ?_⟩; replace BK397 := bl_ BK397 hb; replace HB := am (sy_step (z40_0) hb); (try clear hb); (try clear hb2); (try clear hk); (try clear hi)) | ((with_reducible refine gate_callee (f := 25) rfl ?_); refine goesL_ (some 18) rfl rfl Tryz.func25 (by kernel_rfl) rfl #[.pointer (some ⟨b, 0, none⟩), .string t398] rfl ab5 ?_; (with_reducible refine (sy_WriteString (w0 := w0) (we := w) (acc := a0) t398 ?sideS ?sideL).mono ?_); (case sideL => exact LA7.out); (case sideS => exact (z40_0)); rintro e w11 ⟨rfl, hs, hk_⟩; refine ⟨_, rfl, ?_⟩; replace BK397 := am (blk_others (g := gb397) (cs := #[.int .i64 a1_0, .int .i64 a1_1, .string a1_2, .slice A1_3 l1_3.length c1_3, .string a1_4, .slice A1_5 l1_5.length c1_5]) (T := 31) (ab3 BK397) hk_ (by have := HBLT.out; have := GW397.out; omega) (by decide)); replace HB := am (sy_as A7.out hs); clear hs hk_))
  (try simp only [Exit.inBlock, Exit.then])
  refine bodyPost_ret (results_none rfl _ _ _) rfl ?_
  exact ⟨ab7, z40_0⟩
 ·replace H := ie_ H; rcases H with ⟨c12b0, c12b1, H⟩ | ⟨c12, c12b0, c12b1, H⟩
  ·by_cases c13 : 4 + a1_4.size ≤ 9223372036854775807
   case neg => rw [if_neg c13] at H; exact absurd H (by simp)
   rw [if_pos c13] at H
   have c13b0 := eq_true c13
   have c13b1 := decide_eq_true c13
   try have c13b2 : (9223372036854775807 < 4 + a1_4.size) = False := eq_false (Nat.not_lt.2 c13)
   by_cases c14 : ((⟨#[60, 33, 45, 45]⟩ : ByteArray) ++ a1_4).size + 3 ≤ 9223372036854775807
   case neg => rw [if_neg c14] at H; exact absurd H (by simp)
   rw [if_pos c14] at H
   have c14b0 := eq_true c14
   have c14b1 := decide_eq_true c14
   try (have c14b5 := c14; simp only [ByteArray.size_append, show (⟨#[60, 33, 45, 45]⟩ : ByteArray).size = 4 from rfl] at c14b5; have c14b6 := eq_false (Nat.not_lt.2 c14b5))
   try have c14b2 : (9223372036854775807 < ((⟨#[60, 33, 45, 45]⟩ : ByteArray) ++ a1_4).size + 3) = False := eq_false (Nat.not_lt.2 c14)
   by_cases c15 : a0.size + (((⟨#[60, 33, 45, 45]⟩ : ByteArray) ++ a1_4) ++ (⟨#[45, 45, 62]⟩ : ByteArray)).size ≤ 140737488355328
   case neg => rw [if_neg c15] at H; exact absurd H (by simp)
   rw [if_pos c15] at H
   have LA16 := am c15
   replace H := Option.bind_eq_some_iff.mp H
   obtain ⟨t400, A160, H⟩ := H
   try dsimp only at H
   have A16 := am (Option.some.inj A160)
   clear A160
   obtain rfl := Option.some.inj H
   go_enter Tryz.func20, Tryz.ntmps20
   go_wp2_with (first | ((with_reducible refine gd_ 4 ?_); refine bx_ 4 (cs := #[.int .i64 a1_0, .int .i64 a1_1, .string a1_2, .slice A1_3 l1_3.length c1_3, .string a1_4, .slice A1_5 l1_5.length c1_5]) 31 ?_; intro gb397 hg w17 hbox hb; have BK397 := am hbox; have GW397 := am ((by rw [hg]; exact (sy_size (z40_0)) : w.heap.size ≤ gb397)); have GE397 := am ((by rw [hg]; exact (sy_size (z40_0)) : w.heap.size ≤ gb397)); replace HB := am (sy_step (z40_0) hb); clear hb hbox hg; obtain ⟨⟨_, _, _, _, _, _⟩, _, _, _, _, _, _⟩ := Op.cells6 BK397.out) | ((with_reducible refine gate_callee (f := 25) rfl ?_); refine goesL_ (some 26) rfl rfl Tryz.func25 (by kernel_rfl) rfl #[.pointer (some ⟨b, 0, none⟩), .string (((⟨#[60, 33, 45, 45]⟩ : ByteArray) ++ a1_4) ++ (⟨#[45, 45, 62]⟩ : ByteArray))] rfl ab5 ?_; (with_reducible refine (sy_WriteString (w0 := w0) (we := w) (acc := a0) (((⟨#[60, 33, 45, 45]⟩ : ByteArray) ++ a1_4) ++ (⟨#[45, 45, 62]⟩ : ByteArray)) ?sideS ?sideL).mono ?_); (case sideL => exact LA16.out); (case sideS => exact (z40_0)); rintro e w19 ⟨rfl, hs, hk_⟩; refine ⟨_, rfl, ?_⟩; replace BK397 := am (blk_others (g := gb397) (cs := #[.int .i64 a1_0, .int .i64 a1_1, .string a1_2, .slice A1_3 l1_3.length c1_3, .string a1_4, .slice A1_5 l1_5.length c1_5]) (T := 31) (ab3 BK397) hk_ (by have := HBLT.out; have := GW397.out; omega) (by decide)); replace HB := am (sy_as A16.out hs); clear hs hk_))
   (try simp only [Exit.inBlock, Exit.then])
   refine bodyPost_ret (results_none rfl _ _ _) rfl ?_
   exact ⟨ab7, z40_0⟩
  ·by_cases c20 : 1 + a1_2.size ≤ 9223372036854775807
   case neg => rw [if_neg c20] at H; exact absurd H (by simp)
   rw [if_pos c20] at H
   have c20b0 := eq_true c20
   have c20b1 := decide_eq_true c20
   try have c20b2 : (9223372036854775807 < 1 + a1_2.size) = False := eq_false (Nat.not_lt.2 c20)
   by_cases c21 : a0.size + ((⟨#[60]⟩ : ByteArray) ++ a1_2).size ≤ 140737488355328
   case neg => rw [if_neg c21] at H; exact absurd H (by simp)
   rw [if_pos c21] at H
   have LA22 := am c21
   replace H := Option.bind_eq_some_iff.mp H
   obtain ⟨t401, A220, H⟩ := H
   try dsimp only at H
   have A22 := am (Option.some.inj A220)
   clear A220
   have HC23 := am H
   clear H
   go_enter Tryz.func20, Tryz.ntmps20
   go_upto_if 35 with (first | ((with_reducible refine gd_ 4 ?_); refine bx_ 4 (cs := #[.int .i64 a1_0, .int .i64 a1_1, .string a1_2, .slice A1_3 l1_3.length c1_3, .string a1_4, .slice A1_5 l1_5.length c1_5]) 31 ?_; intro gb397 hg w24 hbox hb; have BK397 := am hbox; have GW397 := am ((by rw [hg]; exact (sy_size (z40_0)) : w.heap.size ≤ gb397)); have GE397 := am ((by rw [hg]; exact (sy_size (z40_0)) : w.heap.size ≤ gb397)); replace HB := am (sy_step (z40_0) hb); clear hb hbox hg; obtain ⟨⟨_, _, _, _, _, _⟩, _, _, _, _, _, _⟩ := Op.cells6 BK397.out) | ((with_reducible refine gate_callee (f := 25) rfl ?_); refine goesL_ (some 31) rfl rfl Tryz.func25 (by kernel_rfl) rfl #[.pointer (some ⟨b, 0, none⟩), .string ((⟨#[60]⟩ : ByteArray) ++ a1_2)] rfl ab5 ?_; (with_reducible refine (sy_WriteString (w0 := w0) (we := w) (acc := a0) ((⟨#[60]⟩ : ByteArray) ++ a1_2) ?sideS ?sideL).mono ?_); (case sideL => exact LA22.out); (case sideS => exact (z40_0)); rintro e w26 ⟨rfl, hs, hk_⟩; refine ⟨_, rfl, ?_⟩; replace BK397 := am (blk_others (g := gb397) (cs := #[.int .i64 a1_0, .int .i64 a1_1, .string a1_2, .slice A1_3 l1_3.length c1_3, .string a1_4, .slice A1_5 l1_5.length c1_5]) (T := 31) (ab3 BK397) hk_ (by have := HBLT.out; have := GW397.out; omega) (by decide)); replace HB := am (sy_as A22.out hs); clear hs hk_; obtain ⟨⟨_, _, _, _, _, _⟩, _, _, _, _, _, _⟩ := Op.cells6 BK397.out))
   (try simp only [Act.put, List.setIfInBounds_toArray, List.set_cons_zero, List.set_cons_succ])
   go_cut [] (fun wc => ∃ (kq : Nat) (x0_22 : ByteArray), Aside0 (impl_sayEl.j0 kq x0_22 a1_0 a1_1 a1_2 l1_3 a1_4 l1_5 = some r) ∧ Aside0 (kq ≤ k) ∧ Aside0 (wc.heap[gb397]? = some (.cells #[.int .i64 a1_0, .int .i64 a1_1, .string a1_2, (.slice A1_3 l1_3.length c1_3), .string a1_4, (.slice A1_5 l1_5.length c1_5)] 31 (0, 0))) ∧ Aside0 (Say w0 b x0_22 w wc))
   case first =>
    have H := HC23.out
    clear HC23
    replace H := ie_ H; rcases H with ⟨c28b0, c28b1, H⟩ | ⟨c28, c28b0, c28b1, H⟩
    ·(first | rw [c28b0] | (simp only [i64_w, i32_w]; rw [c28b0]) | skip)
     (try (generalize hgzc28 : (a1_1 == a2) = bqc28 at *; subst c28b0; have c28b0 := hgzc28; clear hgzc28))
     have H' := am H
     clear H
     go_wp2
     go_meet
     case rel => exact ⟨_, (t401), (by first | exact H' | (have h_ := H'.out; rw [c28b0] at h_; exact ⟨h_⟩)), ⟨by first | omega | exact Nat.le_refl _⟩, ⟨ab3 BK397⟩, ⟨z40_0⟩⟩
    ·(first | rw [c28b0] | (simp only [i64_w, i32_w]; rw [c28b0]) | skip)
     (try (generalize hgzc28 : (a1_1 == a2) = bqc28 at *; subst c28b0; have c28b0 := hgzc28; clear hgzc28))
     replace H := bi_ H; obtain ⟨t402, A29, H⟩ := H
     replace H : (if 8 + t402.size ≤ 9223372036854775807 then (if ((⟨#[32, 120, 109, 108, 110, 115, 61, 34]⟩ : ByteArray) ++ t402).size + 1 ≤ 9223372036854775807 then (if t401.size + (((⟨#[32, 120, 109, 108, 110, 115, 61, 34]⟩ : ByteArray) ++ t402) ++ (⟨#[34]⟩ : ByteArray)).size ≤ 140737488355328 then ((some (t401 ++ (((⟨#[32, 120, 109, 108, 110, 115, 61, 34]⟩ : ByteArray) ++ t402) ++ (⟨#[34]⟩ : ByteArray)))).bind fun t403 => (impl_sayEl.j0 k t403 a1_0 a1_1 a1_2 l1_3 a1_4 l1_5)) else (none)) else (none)) else (none)) = some r := by first | exact H | (rw [c28b0]; exact H)
     by_cases c30 : 8 + t402.size ≤ 9223372036854775807
     case neg => rw [if_neg c30] at H; exact absurd H (by simp)
     rw [if_pos c30] at H
     have c30b0 := eq_true c30
     have c30b1 := decide_eq_true c30
     try have c30b2 : (9223372036854775807 < 8 + t402.size) = False := eq_false (Nat.not_lt.2 c30)
     by_cases c31 : ((⟨#[32, 120, 109, 108, 110, 115, 61, 34]⟩ : ByteArray) ++ t402).size + 1 ≤ 9223372036854775807
     case neg => rw [if_neg c31] at H; exact absurd H (by simp)
     rw [if_pos c31] at H
     have c31b0 := eq_true c31
     have c31b1 := decide_eq_true c31
     try (have c31b5 := c31; simp only [ByteArray.size_append, show (⟨#[32, 120, 109, 108, 110, 115, 61, 34]⟩ : ByteArray).size = 8 from rfl] at c31b5; have c31b6 := eq_false (Nat.not_lt.2 c31b5))
     try have c31b2 : (9223372036854775807 < ((⟨#[32, 120, 109, 108, 110, 115, 61, 34]⟩ : ByteArray) ++ t402).size + 1) = False := eq_false (Nat.not_lt.2 c31)
     by_cases c32 : t401.size + (((⟨#[32, 120, 109, 108, 110, 115, 61, 34]⟩ : ByteArray) ++ t402) ++ (⟨#[34]⟩ : ByteArray)).size ≤ 140737488355328
     case neg => rw [if_neg c32] at H; exact absurd H (by simp)
     rw [if_pos c32] at H
     have LA33 := am c32
     replace H := Option.bind_eq_some_iff.mp H
     obtain ⟨t403, A330, H⟩ := H
     replace H : (impl_sayEl.j0 k t403 a1_0 a1_1 a1_2 l1_3 a1_4 l1_5) = some r := by first | exact H | (rw [c28b0]; exact H)
     have A33 := am (Option.some.inj A330)
     clear A330
     have H' := am H
     clear H
     obtain ⟨⟨_, _, _, _, _, _⟩, _, _, _, _, _, _⟩ := Op.cells6 BK397.out
     go_wp2_with (first | ((with_reducible refine gf_ 35 ?_); refine gc_ Tryz.func35 (impl_SpaceName.calls a1_1 t402 _ A29.out) ?_; rintro w' ⟨nd, rfl⟩) | ((with_reducible refine gate_callee (f := 25) rfl ?_); refine goesL_ (some 42) rfl rfl Tryz.func25 (by kernel_rfl) rfl #[.pointer (some ⟨b, 0, none⟩), .string (((⟨#[32, 120, 109, 108, 110, 115, 61, 34]⟩ : ByteArray) ++ t402) ++ (⟨#[34]⟩ : ByteArray))] rfl ab5 ?_; (with_reducible refine (sy_WriteString (w0 := w0) (we := w) (acc := t401) (((⟨#[32, 120, 109, 108, 110, 115, 61, 34]⟩ : ByteArray) ++ t402) ++ (⟨#[34]⟩ : ByteArray)) ?sideS ?sideL).mono ?_); (case sideL => exact LA33.out); (case sideS => exact (z40_0)); rintro e w35 ⟨rfl, hs, hk_⟩; refine ⟨_, rfl, ?_⟩; replace BK397 := am (blk_others (g := gb397) (cs := #[.int .i64 a1_0, .int .i64 a1_1, .string a1_2, .slice A1_3 l1_3.length c1_3, .string a1_4, .slice A1_5 l1_5.length c1_5]) (T := 31) (ab3 BK397) hk_ (by have := HBLT.out; have := GW397.out; omega) (by decide)); replace HB := am (sy_as A33.out hs); clear hs hk_))
     go_meet
     case rel => exact ⟨_, (t403), (by first | exact H' | (have h_ := H'.out; rw [c28b0] at h_; exact ⟨h_⟩)), ⟨by first | omega | exact Nat.le_refl _⟩, ⟨ab3 BK397⟩, ⟨z40_0⟩⟩
   case rest =>
    clear HC23
    (try clear c1); (try clear c2); (try clear p2); (try clear c3); (try clear c4); (try clear c4b0); (try clear c4b1); (try clear c5); (try clear c6); (try clear c6b0); (try clear c6b1); (try clear c6b2); (try clear c12); (try clear c12b0); (try clear c12b1); (try clear c13); (try clear c13b0); (try clear c13b1); (try clear c13b2); (try clear c14); (try clear c14b0); (try clear c14b1); (try clear c14b2); (try clear c15); (try clear c15b0); (try clear c15b1); (try clear c15b2); (try clear c20); (try clear c20b0); (try clear c20b1); (try clear c20b2); (try clear c21); (try clear c21b0); (try clear c21b1); (try clear c21b2); (try clear c28); (try clear c28b0); (try clear c28b1); (try clear c30); (try clear c30b0); (try clear c30b1); (try clear c30b2); (try clear c31); (try clear c31b0); (try clear c31b1); (try clear c31b2); (try clear c32); (try clear c32b0); (try clear c32b1); (try clear c32b2); (try clear c34); (try clear c35); (try clear hcz18_0); (try clear hcz18_1); (try clear hcz18_2); (try clear hcz18_3); (try clear hcz18_4); (try clear hcz18_5); (try clear hcz25_0); (try clear hcz25_1); (try clear hcz25_2); (try clear hcz25_3); (try clear hcz25_4); (try clear hcz25_5); (try clear hcz27_0); (try clear hcz27_1); (try clear hcz27_2); (try clear hcz27_3); (try clear hcz27_4); (try clear hcz27_5); (try clear hcz34_0); (try clear hcz34_1); (try clear hcz34_2); (try clear hcz34_3); (try clear hcz34_4); (try clear hcz34_5); (try clear hcz9_0); (try clear hcz9_1); (try clear hcz9_2); (try clear hcz9_3); (try clear hcz9_4); (try clear hcz9_5); (try clear hfz18_0); (try clear hfz18_1); (try clear hfz18_2); (try clear hfz18_3); (try clear hfz18_4); (try clear hfz18_5); (try clear hfz25_0); (try clear hfz25_1); (try clear hfz25_2); (try clear hfz25_3); (try clear hfz25_4); (try clear hfz25_5); (try clear hfz27_0); (try clear hfz27_1); (try clear hfz27_2); (try clear hfz27_3); (try clear hfz27_4); (try clear hfz27_5); (try clear hfz34_0); (try clear hfz34_1); (try clear hfz34_2); (try clear hfz34_3); (try clear hfz34_4); (try clear hfz34_5); (try clear hfz9_0); (try clear hfz9_1); (try clear hfz9_2); (try clear hfz9_3); (try clear hfz9_4); (try clear hfz9_5)
    obtain ⟨kq, x0_22, HA, HJ22, BK397, HB⟩ := hcut
    cases kq with
    | zero => exact absurd HA.out (by simp [impl_sayEl.j0])
    | succ kj22 =>
     have H := HA.out
     clear HA
     simp only [impl_sayEl.j0] at H
     have H' := am H
     clear H
     obtain ⟨⟨_, _, _, _, _, _⟩, _, _, _, _, _, _⟩ := Op.cells6 BK397.out
     go_wp2
     go_loopg [46] kj22 (fun kq v46 w' => ∃ (x0_2 : ByteArray) (x46_2 : Int), v46 = .int .i64 x46_2 ∧ Aside0 (impl_sayEl.l0 kq x0_2 l1_3 (l1_3.length : Int) x46_2 a1_0 a1_1 a1_2 l1_3 a1_4 l1_5 = some r) ∧ Aside0 (kq ≤ kj22) ∧ Aside0 (w'.heap[gb397]? = some (.cells #[.int .i64 a1_0, .int .i64 a1_1, .string a1_2, (.slice A1_3 l1_3.length c1_3), .string a1_4, (.slice A1_5 l1_5.length c1_5)] 31 (0, 0))) ∧ Aside0 (Say w0 b x0_2 w w'))
     case atStart => exact ⟨(x0_22), (0), ab6, H', ⟨Nat.le_refl _⟩, ⟨ab3 BK397⟩, ⟨z40_0⟩⟩
     case round =>
      clear H'
      (try clear c1); (try clear c2); (try clear p2); (try clear c3); (try clear c4); (try clear c4b0); (try clear c4b1); (try clear c5); (try clear c6); (try clear c6b0); (try clear c6b1); (try clear c6b2); (try clear c12); (try clear c12b0); (try clear c12b1); (try clear c13); (try clear c13b0); (try clear c13b1); (try clear c13b2); (try clear c14); (try clear c14b0); (try clear c14b1); (try clear c14b2); (try clear c15); (try clear c15b0); (try clear c15b1); (try clear c15b2); (try clear c20); (try clear c20b0); (try clear c20b1); (try clear c20b2); (try clear c21); (try clear c21b0); (try clear c21b1); (try clear c21b2); (try clear c28); (try clear c28b0); (try clear c28b1); (try clear c30); (try clear c30b0); (try clear c30b1); (try clear c30b2); (try clear c31); (try clear c31b0); (try clear c31b1); (try clear c31b2); (try clear c32); (try clear c32b0); (try clear c32b1); (try clear c32b2); (try clear c34); (try clear c35); (try clear hcz18_0); (try clear hcz18_1); (try clear hcz18_2); (try clear hcz18_3); (try clear hcz18_4); (try clear hcz18_5); (try clear hcz25_0); (try clear hcz25_1); (try clear hcz25_2); (try clear hcz25_3); (try clear hcz25_4); (try clear hcz25_5); (try clear hcz27_0); (try clear hcz27_1); (try clear hcz27_2); (try clear hcz27_3); (try clear hcz27_4); (try clear hcz27_5); (try clear hcz34_0); (try clear hcz34_1); (try clear hcz34_2); (try clear hcz34_3); (try clear hcz34_4); (try clear hcz34_5); (try clear hcz36_0); (try clear hcz36_1); (try clear hcz36_2); (try clear hcz36_3); (try clear hcz36_4); (try clear hcz36_5); (try clear hcz9_0); (try clear hcz9_1); (try clear hcz9_2); (try clear hcz9_3); (try clear hcz9_4); (try clear hcz9_5); (try clear hfz18_0); (try clear hfz18_1); (try clear hfz18_2); (try clear hfz18_3); (try clear hfz18_4); (try clear hfz18_5); (try clear hfz25_0); (try clear hfz25_1); (try clear hfz25_2); (try clear hfz25_3); (try clear hfz25_4); (try clear hfz25_5); (try clear hfz27_0); (try clear hfz27_1); (try clear hfz27_2); (try clear hfz27_3); (try clear hfz27_4); (try clear hfz27_5); (try clear hfz34_0); (try clear hfz34_1); (try clear hfz34_2); (try clear hfz34_3); (try clear hfz34_4); (try clear hfz34_5); (try clear hfz36_0); (try clear hfz36_1); (try clear hfz36_2); (try clear hfz36_3); (try clear hfz36_4); (try clear hfz36_5); (try clear hfz9_0); (try clear hfz9_1); (try clear hfz9_2); (try clear hfz9_3); (try clear hfz9_4); (try clear hfz9_5); (try clear p2)
      obtain ⟨x0_2, x46_2, rfl, HA, HK2, BK397, HB⟩ := hrel
      cases gk with
      | zero => exact absurd HA.out (by simp [impl_sayEl.l0])
      | succ k2 =>
       have H := HA.out
       clear HA
       simp only [impl_sayEl.l0] at H
       replace H := ir_ H; rcases H with ⟨c37b0, H⟩ | ⟨c37b0, H⟩
       ·replace H := iq_ H; obtain ⟨c38b0, H⟩ := H
        replace H := iq_ H; obtain ⟨c39b0, H⟩ := H
        by_cases c40 : 1 + ((rd_T62 l1_3 x46_2).f0).size ≤ 9223372036854775807
        case neg => rw [if_neg c40] at H; exact absurd H (by simp)
        rw [if_pos c40] at H
        have c40b0 := eq_true c40
        have c40b1 := decide_eq_true c40
        try have c40b2 : (9223372036854775807 < 1 + ((rd_T62 l1_3 x46_2).f0).size) = False := eq_false (Nat.not_lt.2 c40)
        by_cases c41 : ((⟨#[32]⟩ : ByteArray) ++ ((rd_T62 l1_3 x46_2).f0)).size + 2 ≤ 9223372036854775807
        case neg => rw [if_neg c41] at H; exact absurd H (by simp)
        rw [if_pos c41] at H
        have c41b0 := eq_true c41
        have c41b1 := decide_eq_true c41
        try (have c41b5 := c41; simp only [ByteArray.size_append, show (⟨#[32]⟩ : ByteArray).size = 1 from rfl] at c41b5; have c41b6 := eq_false (Nat.not_lt.2 c41b5))
        try have c41b2 : (9223372036854775807 < ((⟨#[32]⟩ : ByteArray) ++ ((rd_T62 l1_3 x46_2).f0)).size + 2) = False := eq_false (Nat.not_lt.2 c41)
        replace H := bi_ H; obtain ⟨t406, A42, H⟩ := H
        by_cases c43 : (((⟨#[32]⟩ : ByteArray) ++ ((rd_T62 l1_3 x46_2).f0)) ++ (⟨#[61, 34]⟩ : ByteArray)).size + t406.size ≤ 9223372036854775807
        case neg => rw [if_neg c43] at H; exact absurd H (by simp)
        rw [if_pos c43] at H
        have c43b0 := eq_true c43
        have c43b1 := decide_eq_true c43
        try (have c43b5 := c43; simp only [ByteArray.size_append, show (⟨#[32]⟩ : ByteArray).size = 1 from rfl, show (⟨#[61, 34]⟩ : ByteArray).size = 2 from rfl] at c43b5; have c43b6 := eq_false (Nat.not_lt.2 c43b5))
        try have c43b2 : (9223372036854775807 < (((⟨#[32]⟩ : ByteArray) ++ ((rd_T62 l1_3 x46_2).f0)) ++ (⟨#[61, 34]⟩ : ByteArray)).size + t406.size) = False := eq_false (Nat.not_lt.2 c43)
        by_cases c44 : ((((⟨#[32]⟩ : ByteArray) ++ ((rd_T62 l1_3 x46_2).f0)) ++ (⟨#[61, 34]⟩ : ByteArray)) ++ t406).size + 1 ≤ 9223372036854775807
        case neg => rw [if_neg c44] at H; exact absurd H (by simp)
        rw [if_pos c44] at H
        have c44b0 := eq_true c44
        have c44b1 := decide_eq_true c44
        try (have c44b5 := c44; simp only [ByteArray.size_append, show (⟨#[32]⟩ : ByteArray).size = 1 from rfl, show (⟨#[61, 34]⟩ : ByteArray).size = 2 from rfl] at c44b5; have c44b6 := eq_false (Nat.not_lt.2 c44b5))
        try have c44b2 : (9223372036854775807 < ((((⟨#[32]⟩ : ByteArray) ++ ((rd_T62 l1_3 x46_2).f0)) ++ (⟨#[61, 34]⟩ : ByteArray)) ++ t406).size + 1) = False := eq_false (Nat.not_lt.2 c44)
        by_cases cW : x0_2.size + (((((⟨#[32]⟩ : ByteArray) ++ ((rd_T62 l1_3 x46_2).f0)) ++ (⟨#[61, 34]⟩ : ByteArray)) ++ t406) ++ (⟨#[34]⟩ : ByteArray)).size ≤ 140737488355328
        case neg => rw [if_neg cW] at H; exact absurd H (by simp)
        rw [if_pos cW] at H
        have LA45 := am cW
        clear cW
        replace H := Option.bind_eq_some_iff.mp H
        obtain ⟨t407, A450, H⟩ := H
        try dsimp only at H
        have A45 := am (Option.some.inj A450)
        clear A450
        have H' := am H
        clear H
        have p404 : 0 ≤ (x46_2 : Int) := of_decide_eq_true ab4
        have q404 : x46_2 < (l1_3.length : Int) := of_decide_eq_true ab4
        obtain ⟨ad404, e404, hx404_0, hx404_1⟩ := at_T62 HR1_3.out x46_2 p404 q404
        cases e404
        replace hx404_0 := (HB.out.below.cell (World.block_lt_of_cell? w0 _ hx404_0)).trans hx404_0
        replace hx404_1 := (HB.out.below.cell (World.block_lt_of_cell? w0 _ hx404_1)).trans hx404_1
        replace p404 := eq_true p404
        replace q404 := eq_true q404
        try go_wp2_with (first | ((with_reducible refine gd_ 7 ?_); refine bx_ 7 (cs := #[.string (⟨#[]⟩ : ByteArray), .string (⟨#[]⟩ : ByteArray)]) 62 ?_; intro gb405 hg w46 hbox hb; have HX405 := am (bx_mk (z40_0) hb hg); have BK405 := am hbox; have GW405 := am ((by rw [hg]; exact (sy_size (z40_0)) : w.heap.size ≤ gb405)); have GE405 := am ((by rw [hg]; exact (sy_size (z40_0)) : w.heap.size ≤ gb405)); replace HB := am (sy_step (z40_0) hb); have NB397_405 := nl_ BK397 hg; have NB405_397 := ng_ BK397 hg; replace BK397 := bl_ BK397 hb; clear hb hbox hg; have hnb47 := NB405_397.out; have hnc47 := NB397_405.out; obtain ⟨⟨_, _⟩, _, _⟩ := Op.cells2 BK405.out))
        have n0_ : Aside0 (((w46.setCell ⟨gb405, 0, none⟩ (.string ((rd_T62 l1_3 x46_2).f0))).setCell ⟨gb405, 1, none⟩ (.string ((rd_T62 l1_3 x46_2).f1))).heap[gb397]? = some (.cells #[.int .i64 a1_0, .int .i64 a1_1, .string a1_2, .slice (some ad404) l1_3.length c1_3, .string a1_4, .slice A1_5 l1_5.length c1_5] 31 (0, 0))) := ⟨by (with_reducible repeat (first | refine blk_drewN ?_ _ | refine blk_drew ?_ | refine blk_alloc ?_ _)); refine blk_far ?_ NB397_405.out _; (with_reducible repeat (first | refine blk_drewN ?_ _ | refine blk_drew ?_ | refine blk_alloc ?_ _)); refine blk_far ?_ NB397_405.out _; (with_reducible repeat (first | refine blk_drewN ?_ _ | refine blk_drew ?_ | refine blk_alloc ?_ _)); exact BK397.out⟩
        have n1_ : Aside0 (((w46.setCell ⟨gb405, 0, none⟩ (.string ((rd_T62 l1_3 x46_2).f0))).setCell ⟨gb405, 1, none⟩ (.string ((rd_T62 l1_3 x46_2).f1))).heap[gb405]? = some (.cells #[.string ((rd_T62 l1_3 x46_2).f0), .string ((rd_T62 l1_3 x46_2).f1)] 62 (0, 0))) := ⟨by (with_reducible repeat (first | refine blk_drewN ?_ _ | refine blk_drew ?_ | refine blk_alloc ?_ _)); refine blk_put (cs := #[.string ((rd_T62 l1_3 x46_2).f0), .string (⟨#[]⟩ : ByteArray)]) ?_ 1 _ rfl; (with_reducible repeat (first | refine blk_drewN ?_ _ | refine blk_drew ?_ | refine blk_alloc ?_ _)); refine blk_put (cs := #[.string (⟨#[]⟩ : ByteArray), .string (⟨#[]⟩ : ByteArray)]) ?_ 0 _ rfl; (with_reducible repeat (first | refine blk_drewN ?_ _ | refine blk_drew ?_ | refine blk_alloc ?_ _)); exact BK405.out⟩
        have n2_ : Aside0 (Say w0 b x0_2 w ((w46.setCell ⟨gb405, 0, none⟩ (.string ((rd_T62 l1_3 x46_2).f0))).setCell ⟨gb405, 1, none⟩ (.string ((rd_T62 l1_3 x46_2).f1)))) := ⟨bx_say (z40_1 HX405)⟩
        (try clear BK397)
        (try clear BK405)
        (try clear HB)
        generalize ((w46.setCell ⟨gb405, 0, none⟩ (.string ((rd_T62 l1_3 x46_2).f0))).setCell ⟨gb405, 1, none⟩ (.string ((rd_T62 l1_3 x46_2).f1))) = w49 at n0_ n1_ n2_ ⊢
        have BK397 := n0_
        have BK405 := n1_
        have HB := n2_
        clear n0_ n1_ n2_
        replace BK397 := am (blk_drew BK397.out)
        replace BK405 := am (blk_drew BK405.out)
        replace HB := am (sy_drew1 HB.out)
        refine start_ (n := 11) (S := fun w' => w'.cell? ⟨gb405, 0, none⟩ = some (.string ((rd_T62 l1_3 x46_2).f0)) ∧ w'.cell? ⟨gb405, 1, none⟩ = some (.string ((rd_T62 l1_3 x46_2).f1))) (ds := []) #[false, false, false, false, false, false, false, false, false, false, false] (by kernel_rfl) rfl rfl ⟨(blk_cell BK405.out 0).trans rfl, (blk_cell BK405.out 1).trans rfl⟩ (fun hHeld => ?_); refine with_tabW impl_sayEl.tab12 impl_sayEl.bits12 (fun HT_ HW_ => ?_)
        generalize w49.drew = w50 at BK397 BK405 HB hHeld ⊢
        refine pa_ 0 50 HT_ ?_
        refine pa_ 1 51 HT_ ?_
        refine pa_ 5 55 HT_ ?_
        refine tk_ 2 52 HT_ HW_ hHeld ?_
        refine pa_ 3 53 HT_ ?_
        refine pa_ 4 54 HT_ ?_
        refine tk_ 6 56 HT_ HW_ hHeld ?_
        refine on_ 7 57 HT_ fun K hK => ?_
        refine goes_ Tryz.func34 (by kernel_rfl) rfl #[.string ((rd_T62 l1_3 x46_2).f1), .bool true] (by rfl) rfl rfl ab5 ?_
        with_reducible refine (impl_Escape.calls_m ((rd_T62 l1_3 x46_2).f1) true t406 M_ _ ?sideM A42.out).mono ?_
        case sideM => exact sy_cell (z40_0) HM.out
        rintro e w51 ⟨rfl, hb⟩
        refine ⟨_, rfl, ?_⟩
        replace BK397 := bl_ BK397 hb
        replace BK405 := bl_ BK405 hb
        replace HB := am (sy_step (z40_0) hb)
        (try clear hb)
        (try clear hb2)
        (try clear hk)
        (try clear hi)
        refine hK.out _ _ ⟨(blk_cell BK405.out 0).trans rfl, (blk_cell BK405.out 1).trans rfl⟩ (fun hHeld => ?_)
        clear hK K
        refine nm_ ?_
        refine pa_ 8 58 HT_ ?_
        refine pa_ 9 59 HT_ ?_
        refine on_ 10 60 HT_ fun K hK => ?_
        refine goes_ Tryz.func25 (by kernel_rfl) rfl #[.pointer (some ⟨b, 0, none⟩), .string (((((⟨#[32]⟩ : ByteArray) ++ ((rd_T62 l1_3 x46_2).f0)) ++ (⟨#[61, 34]⟩ : ByteArray)) ++ t406) ++ (⟨#[34]⟩ : ByteArray))] (by rfl) rfl rfl ab5 ?_
        with_reducible refine (sy_WriteString (w0 := w0) (we := w) (acc := x0_2) (((((⟨#[32]⟩ : ByteArray) ++ ((rd_T62 l1_3 x46_2).f0)) ++ (⟨#[61, 34]⟩ : ByteArray)) ++ t406) ++ (⟨#[34]⟩ : ByteArray)) ?sideS ?sideL).mono ?_
        case sideL => exact LA45.out
        case sideS => exact (z40_0)
        rintro e w52 ⟨rfl, hs, hk_⟩
        refine ⟨_, rfl, ?_⟩
        replace BK397 := am (blk_others (g := gb397) (cs := #[.int .i64 a1_0, .int .i64 a1_1, .string a1_2, .slice (some ad404) l1_3.length c1_3, .string a1_4, .slice A1_5 l1_5.length c1_5]) (T := 31) (ab3 BK397) hk_ (by have := HBLT.out; have := GW397.out; omega) (by decide))
        replace BK405 := am (blk_others (g := gb405) (cs := #[.string ((rd_T62 l1_3 x46_2).f0), .string ((rd_T62 l1_3 x46_2).f1)]) (T := 62) (ab3 BK405) hk_ (by have := HBLT.out; have := GW405.out; omega) (by decide))
        replace HB := am (sy_as A45.out hs)
        clear hs hk_
        (try clear hi)
        refine hK.out _ _ ⟨(blk_cell BK405.out 0).trans rfl, (blk_cell BK405.out 1).trans rfl⟩ (fun hHeld => ?_)
        clear hK K
        refine nm_ ?_
        refine dn_ HT_ ?_
        try go_wp2
        go_roundg k2
        case measure => have := HJ22.out; have := HK2.out; omega
        case rel => exact ⟨(t407), (wrap64 (x46_2 + 1)), ab6, H', ⟨by have := HJ22.out; have := HK2.out; omega⟩, ⟨ab3 BK397⟩, ⟨z40_0⟩⟩
       ·replace H := ie_ H; rcases H with ⟨c53b0, c53b1, H⟩ | ⟨c53, c53b0, c53b1, H⟩
        ·by_cases c54 : x0_2.size + 2 ≤ 140737488355328
         case neg => rw [if_neg c54] at H; exact absurd H (by simp)
         rw [if_pos c54] at H
         have LA55 := am c54
         replace H := Option.bind_eq_some_iff.mp H
         obtain ⟨t408, A550, H⟩ := H
         try dsimp only at H
         have A55 := am (Option.some.inj A550)
         clear A550
         obtain rfl := Option.some.inj H
         obtain ⟨⟨_, _, _, _, _, _⟩, _, _, _, _, _, _⟩ := Op.cells6 BK397.out
         go_wp2_with (first | ((with_reducible refine gate_callee (f := 25) rfl ?_); refine goesL_ (some 67) rfl rfl Tryz.func25 (by kernel_rfl) rfl #[.pointer (some ⟨b, 0, none⟩), .string (⟨#[47, 62]⟩ : ByteArray)] rfl ab5 ?_; (with_reducible refine (sy_WriteString (w0 := w0) (we := w) (acc := x0_2) (⟨#[47, 62]⟩ : ByteArray) ?sideS ?sideL).mono ?_); (case sideL => exact LA55.out); (case sideS => exact (z40_0)); rintro e w57 ⟨rfl, hs, hk_⟩; refine ⟨_, rfl, ?_⟩; replace BK397 := am (blk_others (g := gb397) (cs := #[.int .i64 a1_0, .int .i64 a1_1, .string a1_2, .slice A1_3 l1_3.length c1_3, .string a1_4, .slice A1_5 l1_5.length c1_5]) (T := 31) (ab3 BK397) hk_ (by have := HBLT.out; have := GW397.out; omega) (by decide)); replace HB := am (sy_as A55.out hs); clear hs hk_))
         (try simp only [Exit.inBlock, Exit.then])
         refine bodyPost_ret (results_none rfl _ _ _) rfl ?_
         exact ⟨ab7, z40_0⟩
        ·have c53b2 : ¬ (l1_5 = []) := fun h_ => c53 (by rw [h_]; rfl)
         by_cases c58 : x0_2.size + 1 ≤ 140737488355328
         case neg => rw [if_neg c58] at H; exact absurd H (by simp)
         rw [if_pos c58] at H
         have LA59 := am c58
         replace H := Option.bind_eq_some_iff.mp H
         obtain ⟨t409, A590, H⟩ := H
         try dsimp only at H
         have A59 := am (Option.some.inj A590)
         clear A590
         have H' := am H
         clear H
         obtain ⟨⟨_, _, _, _, _, _⟩, _, _, _, _, _, _⟩ := Op.cells6 BK397.out
         go_wp2_with (first | ((with_reducible refine gate_callee (f := 26) rfl ?_); refine goesL_ (some 69) rfl rfl Tryz.func26 (by kernel_rfl) rfl #[.pointer (some ⟨b, 0, none⟩), .int .u8 62] rfl ab5 ?_; (with_reducible refine (sy_WriteByte (w0 := w0) (we := w) (acc := x0_2) 62 (⟨#[62]⟩ : ByteArray) rfl ?sideS ?sideL).mono ?_); (case sideL => exact LA59.out); (case sideS => exact (z40_0)); rintro e w61 ⟨rfl, hs, hk_⟩; refine ⟨_, rfl, ?_⟩; replace BK397 := am (blk_others (g := gb397) (cs := #[.int .i64 a1_0, .int .i64 a1_1, .string a1_2, .slice A1_3 l1_3.length c1_3, .string a1_4, .slice A1_5 l1_5.length c1_5]) (T := 31) (ab3 BK397) hk_ (by have := HBLT.out; have := GW397.out; omega) (by decide)); replace HB := am (sy_as A59.out hs); clear hs hk_; obtain ⟨⟨_, _, _, _, _, _⟩, _, _, _, _, _, _⟩ := Op.cells6 BK397.out))
         go_loopg [73] k2 (fun kq v73 w' => ∃ (x0_3 : ByteArray) (x73_3 : Int), v73 = .int .i64 x73_3 ∧ Aside0 (impl_sayEl.l1 kq x0_3 l1_5 (l1_5.length : Int) x73_3 a1_0 a1_1 a1_2 l1_3 a1_4 l1_5 = some r) ∧ Aside0 (kq ≤ k2) ∧ Aside0 (w'.heap[gb397]? = some (.cells #[.int .i64 a1_0, .int .i64 a1_1, .string a1_2, (.slice A1_3 l1_3.length c1_3), .string a1_4, (.slice A1_5 l1_5.length c1_5)] 31 (0, 0))) ∧ Aside0 (Say w0 b x0_3 w w'))
         case atStart => exact ⟨(t409), (0), ab6, H', ⟨Nat.le_refl _⟩, ⟨ab3 BK397⟩, ⟨z40_0⟩⟩
         case round =>
          clear H'
          (try clear c1); (try clear c2); (try clear p2); (try clear c3); (try clear c4); (try clear c4b0); (try clear c4b1); (try clear p4); (try clear q4); (try clear hx4); (try clear c5); (try clear c6); (try clear c6b0); (try clear c6b1); (try clear c6b2); (try clear p6); (try clear c12); (try clear c12b0); (try clear c12b1); (try clear c13); (try clear c13b0); (try clear c13b1); (try clear c13b2); (try clear c14); (try clear c14b0); (try clear c14b1); (try clear c14b2); (try clear c15); (try clear c15b0); (try clear c15b1); (try clear c15b2); (try clear c20); (try clear c20b0); (try clear c20b1); (try clear c20b2); (try clear c21); (try clear c21b0); (try clear c21b1); (try clear c21b2); (try clear c28); (try clear c28b0); (try clear c28b1); (try clear c30); (try clear c30b0); (try clear c30b1); (try clear c30b2); (try clear c31); (try clear c31b0); (try clear c31b1); (try clear c31b2); (try clear c32); (try clear c32b0); (try clear c32b1); (try clear c32b2); (try clear c34); (try clear c35); (try clear c37); (try clear c37b0); (try clear c38); (try clear c38b0); (try clear c39); (try clear c39b0); (try clear c40); (try clear c40b0); (try clear c40b1); (try clear c40b2); (try clear p40); (try clear q40); (try clear hx40); (try clear c41); (try clear c41b0); (try clear c41b1); (try clear c41b2); (try clear c43); (try clear c43b0); (try clear c43b1); (try clear c43b2); (try clear c44); (try clear c44b0); (try clear c44b1); (try clear c44b2); (try clear c47); (try clear c53); (try clear c53b0); (try clear c53b1); (try clear c53b2); (try clear c54); (try clear c54b0); (try clear c54b1); (try clear c54b2); (try clear c58); (try clear c58b0); (try clear c58b1); (try clear c58b2); (try clear hcz18_0); (try clear hcz18_1); (try clear hcz18_2); (try clear hcz18_3); (try clear hcz18_4); (try clear hcz18_5); (try clear hcz25_0); (try clear hcz25_1); (try clear hcz25_2); (try clear hcz25_3); (try clear hcz25_4); (try clear hcz25_5); (try clear hcz27_0); (try clear hcz27_1); (try clear hcz27_2); (try clear hcz27_3); (try clear hcz27_4); (try clear hcz27_5); (try clear hcz34_0); (try clear hcz34_1); (try clear hcz34_2); (try clear hcz34_3); (try clear hcz34_4); (try clear hcz34_5); (try clear hcz36_0); (try clear hcz36_1); (try clear hcz36_2); (try clear hcz36_3); (try clear hcz36_4); (try clear hcz36_5); (try clear hcz48_0); (try clear hcz48_1); (try clear hcz56_0); (try clear hcz56_1); (try clear hcz56_2); (try clear hcz56_3); (try clear hcz56_4); (try clear hcz56_5); (try clear hcz60_0); (try clear hcz60_1); (try clear hcz60_2); (try clear hcz60_3); (try clear hcz60_4); (try clear hcz60_5); (try clear hcz62_0); (try clear hcz62_1); (try clear hcz62_2); (try clear hcz62_3); (try clear hcz62_4); (try clear hcz62_5); (try clear hcz9_0); (try clear hcz9_1); (try clear hcz9_2); (try clear hcz9_3); (try clear hcz9_4); (try clear hcz9_5); (try clear hfz18_0); (try clear hfz18_1); (try clear hfz18_2); (try clear hfz18_3); (try clear hfz18_4); (try clear hfz18_5); (try clear hfz25_0); (try clear hfz25_1); (try clear hfz25_2); (try clear hfz25_3); (try clear hfz25_4); (try clear hfz25_5); (try clear hfz27_0); (try clear hfz27_1); (try clear hfz27_2); (try clear hfz27_3); (try clear hfz27_4); (try clear hfz27_5); (try clear hfz34_0); (try clear hfz34_1); (try clear hfz34_2); (try clear hfz34_3); (try clear hfz34_4); (try clear hfz34_5); (try clear hfz36_0); (try clear hfz36_1); (try clear hfz36_2); (try clear hfz36_3); (try clear hfz36_4); (try clear hfz36_5); (try clear hfz48_0); (try clear hfz48_1); (try clear hfz56_0); (try clear hfz56_1); (try clear hfz56_2); (try clear hfz56_3); (try clear hfz56_4); (try clear hfz56_5); (try clear hfz60_0); (try clear hfz60_1); (try clear hfz60_2); (try clear hfz60_3); (try clear hfz60_4); (try clear hfz60_5); (try clear hfz62_0); (try clear hfz62_1); (try clear hfz62_2); (try clear hfz62_3); (try clear hfz62_4); (try clear hfz62_5); (try clear hfz9_0); (try clear hfz9_1); (try clear hfz9_2); (try clear hfz9_3); (try clear hfz9_4); (try clear hfz9_5); (try clear hx404_0); (try clear hx404_1); (try clear p2); (try clear p404); (try clear q404)
          obtain ⟨x0_3, x73_3, rfl, HA, HK3, BK397, HB⟩ := hrel
          cases gk with
          | zero => exact absurd HA.out (by simp [impl_sayEl.l1])
          | succ k3 =>
           have H := HA.out
           clear HA
           simp only [impl_sayEl.l1] at H
           replace H := ir_ H; rcases H with ⟨c63b0, H⟩ | ⟨c63b0, H⟩
           ·replace H := iq_ H; obtain ⟨c64b0, H⟩ := H
            replace H := iq_ H; obtain ⟨c65b0, H⟩ := H
            replace H := bi_ H; obtain ⟨t412, A66, H⟩ := H
            have H' := am H
            clear H
            have p410 : 0 ≤ (x73_3 : Int) := of_decide_eq_true ab4
            have q410 : x73_3 < (l1_5.length : Int) := of_decide_eq_true ab4
            obtain ⟨ad410, A410_3, c410_3, A410_5, c410_5, e410, hx410_0, hx410_1, hx410_2, hx410_3, hx410_4, hx410_5, hl410_3, hi410_3, hl410_5, hi410_5⟩ := at_T31 HR1_5.out x73_3 p410 q410
            cases e410
            replace hx410_0 := (HB.out.below.cell (World.block_lt_of_cell? w0 _ hx410_0)).trans hx410_0
            replace hx410_1 := (HB.out.below.cell (World.block_lt_of_cell? w0 _ hx410_1)).trans hx410_1
            replace hx410_2 := (HB.out.below.cell (World.block_lt_of_cell? w0 _ hx410_2)).trans hx410_2
            replace hx410_3 := (HB.out.below.cell (World.block_lt_of_cell? w0 _ hx410_3)).trans hx410_3
            replace hx410_4 := (HB.out.below.cell (World.block_lt_of_cell? w0 _ hx410_4)).trans hx410_4
            replace hx410_5 := (HB.out.below.cell (World.block_lt_of_cell? w0 _ hx410_5)).trans hx410_5
            have HR410_3 := am hi410_3
            have HC410_3 := am hl410_3
            clear hi410_3 hl410_3
            have HR410_5 := am hi410_5
            have HC410_5 := am hl410_5
            clear hi410_5 hl410_5
            replace p410 := eq_true p410
            replace q410 := eq_true q410
            go_wp2_with (first | ((with_reducible refine gd_ 9 ?_); refine bx_ 9 (cs := #[.int .i64 0, .int .i64 0, .string (⟨#[]⟩ : ByteArray), .slice none 0 0, .string (⟨#[]⟩ : ByteArray), .slice none 0 0]) 31 ?_; intro gb411 hg w67 hbox hb; have HX411 := am (bx_mk (z40_0) hb hg); have BK411 := am hbox; have GW411 := am ((by rw [hg]; exact (sy_size (z40_0)) : w.heap.size ≤ gb411)); have GE411 := am ((by rw [hg]; exact (sy_size (z40_0)) : w.heap.size ≤ gb411)); replace HB := am (sy_step (z40_0) hb); have NB397_411 := nl_ BK397 hg; have NB411_397 := ng_ BK397 hg; replace BK397 := bl_ BK397 hb; clear hb hbox hg; have hnb68 := NB411_397.out; have hnc68 := NB397_411.out; obtain ⟨⟨_, _, _, _, _, _⟩, _, _, _, _, _, _⟩ := Op.cells6 BK411.out; obtain ⟨⟨_, _, _, _, _, _⟩, _, _, _, _, _, _⟩ := Op.cells6 BK397.out) | ((with_reducible refine gate_callee (f := 20) rfl ?_); refine goesL_ (some 81) rfl rfl Tryz.func20 (by kernel_rfl) rfl #[.pointer (some ⟨b, 0, none⟩), .agg #[.int .i64 ((rd_T31 l1_5 x73_3).f0), .int .i64 ((rd_T31 l1_5 x73_3).f1), .string ((rd_T31 l1_5 x73_3).f2), .slice A410_3 ((rd_T31 l1_5 x73_3).f3).length c410_3, .string ((rd_T31 l1_5 x73_3).f4), .slice A410_5 ((rd_T31 l1_5 x73_3).f5).length c410_5], .int .i64 a1_1] rfl ab5 ?_; (with_reducible refine (ih k3 (by have := HJ22.out; have := HK2.out; have := HK3.out; omega) x0_3 ((rd_T31 l1_5 x73_3).f0) ((rd_T31 l1_5 x73_3).f1) ((rd_T31 l1_5 x73_3).f2) _ _ ((rd_T31 l1_5 x73_3).f3) ((rd_T31 l1_5 x73_3).f4) _ _ ((rd_T31 l1_5 x73_3).f5) a1_1 t412 _ ?side1 ?side2 ?side3 ?side4 ?side5 A66.out).mono ?_); (case side1 => exact HR410_3.out); (case side2 => exact HC410_3.out); (case side3 => exact HR410_5.out); (case side4 => exact HC410_5.out); (case side5 => exact sy_self (bx_say (z40_1 HX411))); rintro e w71 ⟨rfl, hs⟩; refine ⟨_, rfl, ?_⟩; replace BK397 := am (blk_others (g := gb397) (cs := #[.int .i64 a1_0, .int .i64 a1_1, .string a1_2, .slice A1_3 l1_3.length c1_3, .string a1_4, .slice (some ad410) l1_5.length c1_5]) (T := 31) (by (with_reducible repeat (first | refine blk_drewN ?_ _ | refine blk_drew ?_ | refine blk_alloc ?_ _)); refine blk_far ?_ NB397_411.out _; (with_reducible repeat (first | refine blk_drewN ?_ _ | refine blk_drew ?_ | refine blk_alloc ?_ _)); refine blk_far ?_ NB397_411.out _; (with_reducible repeat (first | refine blk_drewN ?_ _ | refine blk_drew ?_ | refine blk_alloc ?_ _)); refine blk_far ?_ NB397_411.out _; (with_reducible repeat (first | refine blk_drewN ?_ _ | refine blk_drew ?_ | refine blk_alloc ?_ _)); refine blk_far ?_ NB397_411.out _; (with_reducible repeat (first | refine blk_drewN ?_ _ | refine blk_drew ?_ | refine blk_alloc ?_ _)); refine blk_far ?_ NB397_411.out _; (with_reducible repeat (first | refine blk_drewN ?_ _ | refine blk_drew ?_ | refine blk_alloc ?_ _)); refine blk_far ?_ NB397_411.out _; (with_reducible repeat (first | refine blk_drewN ?_ _ | refine blk_drew ?_ | refine blk_alloc ?_ _)); exact BK397.out) hs.kept (by have := HBLT.out; have := GW397.out; omega) (by decide)); replace BK411 := am (blk_others (g := gb411) (cs := #[.int .i64 ((rd_T31 l1_5 x73_3).f0), .int .i64 ((rd_T31 l1_5 x73_3).f1), .string ((rd_T31 l1_5 x73_3).f2), .slice A410_3 ((rd_T31 l1_5 x73_3).f3).length c410_3, .string ((rd_T31 l1_5 x73_3).f4), .slice A410_5 ((rd_T31 l1_5 x73_3).f5).length c410_5]) (T := 31) (bq_ BK411) hs.kept (by have := HBLT.out; have := GW411.out; omega) (by decide)); replace HB := am (sy_trans (bx_say (z40_1 HX411)) hs); clear hs))
            go_roundg k3
            case measure => have := HJ22.out; have := HK2.out; have := HK3.out; omega
            case rel => exact ⟨(t412), (wrap64 (x73_3 + 1)), ab6, H', ⟨by have := HJ22.out; have := HK2.out; have := HK3.out; omega⟩, ⟨ab3 BK397⟩, ⟨z40_0⟩⟩
           ·by_cases c72 : 2 + a1_2.size ≤ 9223372036854775807
            case neg => rw [if_neg c72] at H; exact absurd H (by simp)
            rw [if_pos c72] at H
            have c72b0 := eq_true c72
            have c72b1 := decide_eq_true c72
            try have c72b2 : (9223372036854775807 < 2 + a1_2.size) = False := eq_false (Nat.not_lt.2 c72)
            by_cases c73 : ((⟨#[60, 47]⟩ : ByteArray) ++ a1_2).size + 1 ≤ 9223372036854775807
            case neg => rw [if_neg c73] at H; exact absurd H (by simp)
            rw [if_pos c73] at H
            have c73b0 := eq_true c73
            have c73b1 := decide_eq_true c73
            try (have c73b5 := c73; simp only [ByteArray.size_append, show (⟨#[60, 47]⟩ : ByteArray).size = 2 from rfl] at c73b5; have c73b6 := eq_false (Nat.not_lt.2 c73b5))
            try have c73b2 : (9223372036854775807 < ((⟨#[60, 47]⟩ : ByteArray) ++ a1_2).size + 1) = False := eq_false (Nat.not_lt.2 c73)
            by_cases c74 : x0_3.size + (((⟨#[60, 47]⟩ : ByteArray) ++ a1_2) ++ (⟨#[62]⟩ : ByteArray)).size ≤ 140737488355328
            case neg => rw [if_neg c74] at H; exact absurd H (by simp)
            rw [if_pos c74] at H
            have LA75 := am c74
            replace H := Option.bind_eq_some_iff.mp H
            obtain ⟨t413, A750, H⟩ := H
            try dsimp only at H
            have A75 := am (Option.some.inj A750)
            clear A750
            obtain rfl := Option.some.inj H
            obtain ⟨⟨_, _, _, _, _, _⟩, _, _, _, _, _, _⟩ := Op.cells6 BK397.out
            go_wp2_with (first | ((with_reducible refine gate_callee (f := 25) rfl ?_); refine goesL_ (some 88) rfl rfl Tryz.func25 (by kernel_rfl) rfl #[.pointer (some ⟨b, 0, none⟩), .string (((⟨#[60, 47]⟩ : ByteArray) ++ a1_2) ++ (⟨#[62]⟩ : ByteArray))] rfl ab5 ?_; (with_reducible refine (sy_WriteString (w0 := w0) (we := w) (acc := x0_3) (((⟨#[60, 47]⟩ : ByteArray) ++ a1_2) ++ (⟨#[62]⟩ : ByteArray)) ?sideS ?sideL).mono ?_); (case sideL => exact LA75.out); (case sideS => exact (z40_0)); rintro e w77 ⟨rfl, hs, hk_⟩; refine ⟨_, rfl, ?_⟩; replace BK397 := am (blk_others (g := gb397) (cs := #[.int .i64 a1_0, .int .i64 a1_1, .string a1_2, .slice A1_3 l1_3.length c1_3, .string a1_4, .slice A1_5 l1_5.length c1_5]) (T := 31) (ab3 BK397) hk_ (by have := HBLT.out; have := GW397.out; omega) (by decide)); replace HB := am (sy_as A75.out hs); clear hs hk_))
            go_end0
            exact ⟨ab7, z40_0⟩


end Go.Proofs.YthpdpnpojgegiaaGreatDoor.P
