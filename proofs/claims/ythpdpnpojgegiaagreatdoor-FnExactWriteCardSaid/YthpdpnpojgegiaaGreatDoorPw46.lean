-- WRITTEN BY hprint.py
import Derived.Test.YthpdpnpojgegiaaGreatDoorPw0
import Derived.Test.YthpdpnpojgegiaaGreatDoorPw12
import Derived.Test.YthpdpnpojgegiaaGreatDoorPw40
import Derived.Test.YthpdpnpojgegiaaGreatDoorPw45
namespace Go.Proofs.YthpdpnpojgegiaaGreatDoor.P
open Go.RowKit Go.Proofs.YthpdpnpojgegiaaGreatDoorW.PrintWords Go.Proofs.YthpdpnpojgegiaaGreatDoorW.PrintLast Go.Proofs.YthpdpnpojgegiaaGreatDoorW.PrintMore
attribute [local go_sem] max2_int min2_int max_two min_two max_three min_three max_four min_four
set_option linter.unusedVariables false
set_option linter.unusedSimpArgs false
set_option maxHeartbeats 8000000
set_option maxRecDepth 100000
theorem z46_0 {p : Prop} (h : p := by repeat (first | (with_reducible first | exact HS.out | apply sy_alloc | apply sy_drewN | apply sy_drew1) | exact HS.out)) : p := h

/-! ### impl_Write: function 13 (by hand) -/
def impl_Write.l0 : Nat → ByteArray → List (S31) → Int → Int → Option (ByteArray)
 | 0, _, _, _, _ => none
 | k + 1, x3, x10, x11, x12 => if x12 < x11 then (if 0 ≤ x12 then (if x12 < (x10.length : Int) then ((impl_sayEl.f k x3 ((rd_T31 x10 x12).f0) ((rd_T31 x10 x12).f1) ((rd_T31 x10 x12).f2) ((rd_T31 x10 x12).f3) ((rd_T31 x10 x12).f4) ((rd_T31 x10 x12).f5) (-1)).bind fun t393 => (if t393.size + 1 ≤ 140737488355328 then (impl_Write.l0 k (t393 ++ (⟨#[10]⟩ : ByteArray)) x10 x11 (wrap64 (x12 + 1))) else none)) else none) else none) else some x3
def impl_Write.f (k : Nat) (l0 : List (S31)) : Option (ByteArray) := (impl_DocOk.f k l0).bind fun t389 => (if t389 = true then (impl_Write.l0 k ((⟨#[]⟩ : ByteArray) ++ (⟨#[60, 63, 120, 109, 108, 32, 118, 101, 114, 115, 105, 111, 110, 61, 34, 49, 46, 48, 34, 63, 62, 10]⟩ : ByteArray)) l0 (l0.length : Int) 0) else some (⟨#[]⟩ : ByteArray))
theorem impl_Write.mono_l : ∀ k, (∀ y0 y1 y2 y3, LeO (impl_Write.l0 k y0 y1 y2 y3) (impl_Write.l0 (k + 1) y0 y1 y2 y3))
 | 0 => fun _ _ _ _ r h => by simp [impl_Write.l0] at h
 | k + 1 => by
  have ih0 := impl_Write.mono_l k
  intro y0 y1 y2 y3
  unfold impl_Write.l0
  repeat' with_reducible first | exact ih0 _ _ _ _ | exact impl_sayEl.mono _ _ _ _ _ _ _ _ _ | exact LeO.refl _ | exact LeO.none _ | refine LeO.ite ?_ ?_ | refine LeO.bind ?_ fun _ => ?_
theorem impl_Write.mono : ∀ a0 k, LeO (impl_Write.f k a0) (impl_Write.f (k + 1) a0) := by
 intro a0 k
 have ih0 := impl_Write.mono_l k
 unfold impl_Write.f
 repeat' with_reducible first | exact ih0 _ _ _ _ | exact impl_DocOk.mono _ _ | exact LeO.refl _ | exact LeO.none _ | refine LeO.ite ?_ ?_ | refine LeO.bind ?_ fun _ => ?_
theorem Write.fresh {w2 w3 : World} {g : Nat} (hg : g = w2.heap.size) (hbox : w3.heap[g]? = some (.cells #[.pointer none, .slice none 0 0] 46 (0, 0))) (hb : Below w2.heap.size w2 w3) : Say w2 g (⟨#[]⟩ : ByteArray) w3 w3 :=
 ⟨.inl ⟨by omega, .slice none 0 0, hbox, World.ownsRowF_of (World.ownsRow_nil _ _ _ _), by simp [Value.ownBlock]⟩, hb, Lib.OthersKept.refl _ _ _, Nat.le_refl _, (Array.getElem?_eq_some_iff.mp hbox).1⟩
theorem Write.tells {w wb w3 w4 : World} {g : Nat} {r : ByteArray} (b1 : Below w.heap.size w wb) (h : Say wb g r w3 w4) : Calls Tryz.prog 21 #[.pointer (some ⟨g, 0, none⟩)] w4 fun e w' => e = .returned (.string r) ∧ Below w.heap.size w w' := by
 refine (bu_String wb.heap.size g r.data.toList w4 (by rw [← Op.strCells_bytes]; exact h.bu) h.below.size).mono ?_
 rintro e w5 ⟨rfl, _, b5, _⟩
 exact ⟨by rw [Op.string_back], below_step b1 (h.below.trans b5)⟩
theorem impl_Write.calls (k : Nat) (A0 : Option Addr) (c0 : Nat) (l0 : List (S31)) (r : ByteArray) (w : World) (hr0 : Kd.C k31 w A0 l0.length l0) (hc0 : l0.length ≤ c0) (M_ : Int) (hm_ : w.cell? ⟨0, 0, none⟩ = some (.int .i64 M_)) (h : impl_Write.f k l0 = some r) :
  Calls Tryz.prog 13 #[.slice A0 l0.length c0] w fun e w' => e = .returned (.string r) ∧ Below w.heap.size w w' := by
 have hu31 := Tryz.underlying31
 have HR0 := am hr0
 have HC0 := am hc0
 clear hr0 hc0
 have HB := am (Below.refl w.heap.size w)
 have HM_ := am hm_
 clear hm_
 unfold impl_Write.f at h
 obtain ⟨t389, A20, H⟩ := Option.bind_eq_some_iff.mp h
 have A2 := am A20
 clear A20 h
 cases t389 with
 | false =>
  rw [if_neg Bool.false_ne_true] at H
  obtain rfl := Option.some.inj H
  clear H
  go_enter Tryz.func13, Tryz.ntmps13
  go_wp2_with (first | ((with_reducible refine gf_ 24 ?_); refine gc_ Tryz.func24 (impl_DocOk.calls k _ _ l0 false _ ?side1 HC0.out M_ (pw_cell_below ab1 HM_.out) A2.out) ?_; (case side1 => exact (by repeat (first | exact HR0.out | (with_reducible refine Kd.C_alloc ?_ _) | (with_reducible refine Kd.C_drewN ?_ _) | (with_reducible refine Kd.C_drew ?_)))); rintro w18 hb; replace HB := am (below_step ab1 hb); (try clear hb)))
  go_ret
  exact ⟨by first | rfl | (simp; done), ab1⟩
 | true =>
  rw [if_pos rfl] at H
  have H' := am H
  clear H
  go_enter Tryz.func13, Tryz.ntmps13
  go_wp2_with (first | ((with_reducible refine gf_ 24 ?_); refine gc_ Tryz.func24 (impl_DocOk.calls k _ _ l0 true _ ?side1 HC0.out M_ (pw_cell_below ab1 HM_.out) A2.out) ?_; (case side1 => exact (by repeat (first | exact HR0.out | (with_reducible refine Kd.C_alloc ?_ _) | (with_reducible refine Kd.C_drewN ?_ _) | (with_reducible refine Kd.C_drew ?_)))); rintro w6 hb; replace HB := am (below_step ab1 hb); (try clear hb)) | ((with_reducible refine gd_ 3 ?_); refine bx_ 3 (cs := #[.pointer none, .slice none 0 0]) 46 ?_; intro g2 hg w3 hbox hb; have HX3 := am (show ∃ wb, Below w.heap.size w wb ∧ Say wb g2 (⟨#[]⟩ : ByteArray) w3 w3 from ⟨_, ab1, Write.fresh hg hbox hb⟩); clear hb hbox hg; obtain ⟨wb, hwb, hs3⟩ := HX3.out; have HWB := am hwb; have HS := am hs3; clear HX3 hwb hs3 HB) | ((with_reducible refine gate_callee (f := 25) rfl ?_); refine goesL_ (some 9) rfl rfl Tryz.func25 (by kernel_rfl) rfl #[.pointer (some ⟨g2, 0, none⟩), .string (⟨#[60, 63, 120, 109, 108, 32, 118, 101, 114, 115, 105, 111, 110, 61, 34, 49, 46, 48, 34, 63, 62, 10]⟩ : ByteArray)] rfl ab5 ?_; (with_reducible refine (sy_WriteString (w0 := wb) (we := w3) (acc := (⟨#[]⟩ : ByteArray)) (⟨#[60, 63, 120, 109, 108, 32, 118, 101, 114, 115, 105, 111, 110, 61, 34, 49, 46, 48, 34, 63, 62, 10]⟩ : ByteArray) ?sideS ?sideL).mono ?_); (case sideL => decide); (case sideS => exact (z46_0)); rintro e w7 ⟨rfl, hs, hk_⟩; refine ⟨_, rfl, ?_⟩; clear HS; have HS := am hs; clear hs hk_))
  go_loopg [12] k (fun kq v12 w' => ∃ (x3_1 : ByteArray) (x12_1 : Int), v12 = .int .i64 x12_1 ∧ Aside0 (impl_Write.l0 kq x3_1 l0 (l0.length : Int) x12_1 = some r) ∧ Aside0 (kq ≤ k) ∧ Aside0 (Say wb g2 x3_1 w3 w'))
  case atStart => exact ⟨_, (0), ab6, H', ⟨Nat.le_refl _⟩, ⟨z46_0⟩⟩
  case round =>
   clear H'
   obtain ⟨x3_1, x12_1, rfl, HA, HK1, HS⟩ := hrel
   cases gk with
   | zero => exact absurd HA.out (by simp [impl_Write.l0])
   | succ k1 =>
    have H := HA.out
    clear HA
    simp only [impl_Write.l0] at H
    by_cases c8 : x12_1 < (l0.length : Int)
    ·rw [if_pos c8] at H
     have c8b0 := decide_eq_true c8
     by_cases c9 : 0 ≤ x12_1
     case neg => rw [if_neg c9] at H; exact absurd H (by simp)
     rw [if_pos c9, if_pos c8] at H
     have c9b0 := decide_eq_true c9
     clear c8 c9
     obtain ⟨t393, A110, H⟩ := Option.bind_eq_some_iff.mp H
     have A11 := am A110
     clear A110
     by_cases c12 : t393.size + 1 ≤ 140737488355328
     case neg => rw [if_neg c12] at H; exact absurd H (by simp)
     rw [if_pos c12] at H
     have LM := am c12
     clear c12
     have H' := am H
     clear H
     have HW := am (below_step HWB.out HS.out.below)
     have p391 : 0 ≤ (x12_1 : Int) := of_decide_eq_true ab4
     have q391 : x12_1 < (l0.length : Int) := of_decide_eq_true ab4
     obtain ⟨ad391, A391_3, c391_3, A391_5, c391_5, e391, hx391_0, hx391_1, hx391_2, hx391_3, hx391_4, hx391_5, hl391_3, hi391_3, hl391_5, hi391_5⟩ := at_T31 HR0.out x12_1 p391 q391
     cases e391
     replace hx391_0 := (HW.out.cell (World.block_lt_of_cell? w _ hx391_0)).trans hx391_0
     replace hx391_1 := (HW.out.cell (World.block_lt_of_cell? w _ hx391_1)).trans hx391_1
     replace hx391_2 := (HW.out.cell (World.block_lt_of_cell? w _ hx391_2)).trans hx391_2
     replace hx391_3 := (HW.out.cell (World.block_lt_of_cell? w _ hx391_3)).trans hx391_3
     replace hx391_4 := (HW.out.cell (World.block_lt_of_cell? w _ hx391_4)).trans hx391_4
     replace hx391_5 := (HW.out.cell (World.block_lt_of_cell? w _ hx391_5)).trans hx391_5
     have HR391_3 := am hi391_3
     have HC391_3 := am hl391_3
     clear hi391_3 hl391_3
     have HR391_5 := am hi391_5
     have HC391_5 := am hl391_5
     clear hi391_5 hl391_5
     replace p391 := eq_true p391
     replace q391 := eq_true q391
     clear HW
     go_wp2_with (first | ((with_reducible refine gd_ 5 ?_); refine bx_ 5 (cs := #[.int .i64 0, .int .i64 0, .string (⟨#[]⟩ : ByteArray), .slice none 0 0, .string (⟨#[]⟩ : ByteArray), .slice none 0 0]) 31 ?_; intro gb392 hg w14 hbox hb; have HX := am (bx_mk (z46_0) hb hg); have BK392 := am hbox; clear HS; clear hb hbox hg; obtain ⟨⟨_, _, _, _, _, _⟩, _, _, _, _, _, _⟩ := Op.cells6 BK392.out) | ((with_reducible refine gate_callee (f := 20) rfl ?_); refine goesL_ (some 17) rfl rfl Tryz.func20 (by kernel_rfl) rfl #[.pointer (some ⟨g2, 0, none⟩), .agg #[.int .i64 ((rd_T31 l0 x12_1).f0), .int .i64 ((rd_T31 l0 x12_1).f1), .string ((rd_T31 l0 x12_1).f2), .slice A391_3 ((rd_T31 l0 x12_1).f3).length c391_3, .string ((rd_T31 l0 x12_1).f4), .slice A391_5 ((rd_T31 l0 x12_1).f5).length c391_5], .int .i64 (-1)] rfl ab5 ?_; (with_reducible refine (impl_sayEl.calls_b wb g2 M_ ?sideM k1 x3_1 ((rd_T31 l0 x12_1).f0) ((rd_T31 l0 x12_1).f1) ((rd_T31 l0 x12_1).f2) _ _ ((rd_T31 l0 x12_1).f3) ((rd_T31 l0 x12_1).f4) _ _ ((rd_T31 l0 x12_1).f5) (-1) t393 _ ?side1 ?side2 ?side3 ?side4 ?side5 A11.out).mono ?_); (case sideM => exact pw_cell_below HWB.out HM_.out); (case side1 => exact Kd.C_below HR391_3.out HWB.out); (case side2 => exact HC391_3.out); (case side3 => exact Kd.C_below HR391_5.out HWB.out); (case side4 => exact HC391_5.out); (case side5 => exact sy_self (bx_say (by repeat (first | (with_reducible first | exact HX.out | apply bx_alloc | apply bx_drewN | apply bx_drew1 | apply bx_set) | exact HX.out)))); rintro e w16 ⟨rfl, hs⟩; refine ⟨_, rfl, ?_⟩; have HS := am (sy_trans (bx_say (by repeat (first | (with_reducible first | exact HX.out | apply bx_alloc | apply bx_drewN | apply bx_drew1 | apply bx_set) | exact HX.out))) hs); clear hs HX BK392) | ((with_reducible refine gate_callee (f := 26) rfl ?_); refine goesL_ (some 18) rfl rfl Tryz.func26 (by kernel_rfl) rfl #[.pointer (some ⟨g2, 0, none⟩), .int .u8 10] rfl ab5 ?_; (with_reducible refine (sy_WriteByte (w0 := wb) (we := w3) (acc := t393) 10 (⟨#[10]⟩ : ByteArray) rfl ?sideS ?sideL).mono ?_); (case sideL => exact LM.out); (case sideS => exact (z46_0)); rintro e w17 ⟨rfl, hs, hk_⟩; refine ⟨_, rfl, ?_⟩; clear HS; have HS := am hs; clear hs hk_))
     go_roundg k1
     case measure => have := HK1.out; omega
     case rel => exact ⟨_, (wrap64 (x12_1 + 1)), ab6, H', ⟨by have := HK1.out; omega⟩, ⟨z46_0⟩⟩
    ·rw [if_neg c8] at H
     have c8b0 := decide_eq_false c8
     clear c8
     obtain rfl := Option.some.inj H
     clear H
     go_wp2_with (first | (go_at_call 21; (with_reducible refine (Write.tells HWB.out (z46_0)).mono ?_); rintro e w5 ⟨rfl, b5⟩))
     go_ret
     exact ⟨by first | rfl | (simp; done), b5⟩


end Go.Proofs.YthpdpnpojgegiaaGreatDoor.P
