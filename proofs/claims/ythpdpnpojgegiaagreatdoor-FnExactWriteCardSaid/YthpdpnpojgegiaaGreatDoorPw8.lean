-- WRITTEN BY hprint.py
import Derived.Test.YthpdpnpojgegiaaGreatDoorPw0
import Derived.Test.YthpdpnpojgegiaaGreatDoorPw1
import Derived.Test.YthpdpnpojgegiaaGreatDoorPw6
import Derived.Test.YthpdpnpojgegiaaGreatDoorPw7
namespace Go.Proofs.YthpdpnpojgegiaaGreatDoor.P
open Go.RowKit Go.Proofs.YthpdpnpojgegiaaGreatDoorW.PrintWords Go.Proofs.YthpdpnpojgegiaaGreatDoorW.PrintLast Go.Proofs.YthpdpnpojgegiaaGreatDoorW.PrintMore
attribute [local go_sem] max2_int min2_int max_two min_two max_three min_three max_four min_four
set_option linter.unusedVariables false
set_option linter.unusedSimpArgs false
set_option maxHeartbeats 8000000
set_option maxRecDepth 100000

/-! ### spec_ElOk: function 16 -/
def spec_ElOk.f (k : Nat) (a0_0 : Int) (a0_1 : Int) (a0_2 : ByteArray) (l0_3 : List (S62)) (a0_4 : ByteArray) (l0_5 : List (S31)) : Option (Bool) := (spec_ElDeep.f k a0_0 a0_1 a0_2 l0_3 a0_4 l0_5).bind fun t231 => (if t231 ≤ 60 then ((spec_l15El.f k a0_0 a0_1 a0_2 l0_3 a0_4 l0_5).bind fun t232 => (some t232)) else (some false))
theorem spec_ElOk.mono : ∀ a0 a1 a2 a3 a4 a5 k, LeO (spec_ElOk.f k a0 a1 a2 a3 a4 a5) (spec_ElOk.f (k + 1) a0 a1 a2 a3 a4 a5) := by
 intro a0 a1 a2 a3 a4 a5 k
 unfold spec_ElOk.f
 repeat' with_reducible first | exact spec_ElDeep.mono _ _ _ _ _ _ _ | exact spec_l15El.mono _ _ _ _ _ _ _ | exact LeO.refl _ | exact LeO.none _ | refine LeO.ite ?_ ?_ | refine LeO.bind ?_ fun _ => ?_
theorem spec_ElOk.calls (k : Nat) (a0_0 : Int) (a0_1 : Int) (a0_2 : ByteArray) (A0_3 : Option Addr) (c0_3 : Nat) (l0_3 : List (S62)) (a0_4 : ByteArray) (A0_5 : Option Addr) (c0_5 : Nat) (l0_5 : List (S31)) (r : Bool) (w : World) (hr0_3 : Kd.C k62 w A0_3 l0_3.length l0_3) (hc0_3 : l0_3.length ≤ c0_3) (hr0_5 : Kd.C k31 w A0_5 l0_5.length l0_5) (hc0_5 : l0_5.length ≤ c0_5) (h : spec_ElOk.f k a0_0 a0_1 a0_2 l0_3 a0_4 l0_5 = some r) :
  Calls Tryz.prog 16 #[.agg #[.int .i64 a0_0, .int .i64 a0_1, .string a0_2, .slice A0_3 l0_3.length c0_3, .string a0_4, .slice A0_5 l0_5.length c0_5]] w fun e w' => e = .returned (.bool r) ∧ Below w.heap.size w w' := by
 have hu31 := Tryz.underlying31
 have HR0_3 := am hr0_3
 have HC0_3 := am hc0_3
 clear hr0_3 hc0_3
 have HR0_5 := am hr0_5
 have HC0_5 := am hc0_5
 clear hr0_5 hc0_5
 have HB := am (Below.refl w.heap.size w)
 have H : ((spec_ElDeep.f k a0_0 a0_1 a0_2 l0_3 a0_4 l0_5).bind fun t231 => (if t231 ≤ 60 then ((spec_l15El.f k a0_0 a0_1 a0_2 l0_3 a0_4 l0_5).bind fun t232 => (some t232)) else (some false))) = some r := h
 clear h
 replace H := bi_ H; obtain ⟨t231, A2, H⟩ := H
 replace H := ir_ H; rcases H with ⟨c3b0, H⟩ | ⟨c3b0, H⟩
 ·replace H := bi_ H; obtain ⟨t232, A4, H⟩ := H
  obtain rfl := Option.some.inj H
  go_enter Tryz.func16, Tryz.ntmps16
  go_wp2_with (first | ((with_reducible refine gd_ 1 ?_); refine bx_ 1 (cs := #[.int .i64 a0_0, .int .i64 a0_1, .string a0_2, .slice A0_3 l0_3.length c0_3, .string a0_4, .slice A0_5 l0_5.length c0_5]) 31 ?_; intro gb230 hg w5 hbox hb; have BK230 := am hbox; have GW230 := ge_ (w := w) hg; have GE230 := ge_ (w := w) hg; replace HB := am (below_step ab1 hb); clear hb hbox hg; obtain ⟨⟨_, _, _, _, _, _⟩, _, _, _, _, _, _⟩ := Op.cells6 BK230.out) | ((with_reducible refine gf_ 28 ?_); refine gc_ Tryz.func28 (spec_ElDeep.calls k a0_0 a0_1 a0_2 _ _ l0_3 a0_4 _ _ l0_5 t231 _ (sc_ HR0_3) HC0_3.out (sc_ HR0_5) HC0_5.out A2.out) ?_; rintro w7 hb; replace BK230 := bl_ BK230 hb; replace HB := am (below_step (ab2 GE230) hb); (try clear hb); (try clear hb2); (try clear hk); (try clear hi); obtain ⟨⟨_, _, _, _, _, _⟩, _, _, _, _, _, _⟩ := Op.cells6 BK230.out) | (go_at_call 29; (with_reducible refine (spec_l15El.calls k a0_0 a0_1 a0_2 _ _ l0_3 a0_4 _ _ l0_5 t232 _ (sc_ HR0_3) HC0_3.out (sc_ HR0_5) HC0_5.out A4.out).mono ?_); rintro e w9 ⟨rfl, hb⟩; replace BK230 := bl_ BK230 hb; replace HB := am (below_step (ab2 GE230) hb); (try clear hb); (try clear hb2); (try clear hk); (try clear hi)))
  go_ret
  exact ⟨ab7, ab2 GE230⟩
 ·obtain rfl := Option.some.inj H
  go_enter Tryz.func16, Tryz.ntmps16
  go_wp2_with (first | ((with_reducible refine gd_ 1 ?_); refine bx_ 1 (cs := #[.int .i64 a0_0, .int .i64 a0_1, .string a0_2, .slice A0_3 l0_3.length c0_3, .string a0_4, .slice A0_5 l0_5.length c0_5]) 31 ?_; intro gb230 hg w10 hbox hb; have BK230 := am hbox; have GW230 := ge_ (w := w) hg; have GE230 := ge_ (w := w) hg; replace HB := am (below_step ab1 hb); clear hb hbox hg; obtain ⟨⟨_, _, _, _, _, _⟩, _, _, _, _, _, _⟩ := Op.cells6 BK230.out) | ((with_reducible refine gf_ 28 ?_); refine gc_ Tryz.func28 (spec_ElDeep.calls k a0_0 a0_1 a0_2 _ _ l0_3 a0_4 _ _ l0_5 t231 _ (sc_ HR0_3) HC0_3.out (sc_ HR0_5) HC0_5.out A2.out) ?_; rintro w12 hb; replace BK230 := bl_ BK230 hb; replace HB := am (below_step (ab2 GE230) hb); (try clear hb); (try clear hb2); (try clear hk); (try clear hi)))
  go_ret
  exact ⟨ab7, ab2 GE230⟩

/-! ### spec_l5Swap: function 47 -/
def spec_l5Swap.l0 : Nat → ByteArray → ByteArray → List ByteArray → List Int → Int → Option (ByteArray)
 | 0, _, _, _, _, _ => none
 | k + 1, x0, x1, x2, x7, x8 => if x8 < (x0.size : Int) then (if 0 ≤ x8 then ((spec_l4Find.f k x1 0 (bt x0 x8)).bind fun t236 => (if t236 < 0 then (if x7.length < 140737488355328 then (spec_l5Swap.l0 k x0 x1 x2 (x7 ++ [bt x0 x8]) (wrap64 (x8 + 1))) else (none)) else (if 0 ≤ t236 then (if t236 < (x2.length : Int) then (if x7.length + (bytesOf (rdOf ByteArray.empty x2 t236)).length < 140737488355328 then (spec_l5Swap.l0 k x0 x1 x2 (x7 ++ (bytesOf (rdOf ByteArray.empty x2 t236))) (wrap64 (x8 + 1))) else (none)) else (none)) else (none)))) else (none)) else (some (strOfNums x7))
def spec_l5Swap.f (k : Nat) (a0 : ByteArray) (a1 : ByteArray) (l2 : List ByteArray) : Option (ByteArray) := spec_l5Swap.l0 k a0 a1 l2 (([] : List Int)) 0
theorem spec_l5Swap.mono_l : ∀ k, (∀ y0 y1 y2 y3 y4, LeO (spec_l5Swap.l0 k y0 y1 y2 y3 y4) (spec_l5Swap.l0 (k + 1) y0 y1 y2 y3 y4))
 | 0 => fun _ _ _ _ _ r h => by simp [spec_l5Swap.l0] at h
 | k + 1 => by
  have ih0 := spec_l5Swap.mono_l k
  ·intro y0 y1 y2 y3 y4
   unfold spec_l5Swap.l0
   repeat' with_reducible first | exact ih0 _ _ _ _ _ | exact spec_l4Find.mono _ _ _ _ | exact LeO.refl _ | exact LeO.none _ | refine LeO.ite ?_ ?_ | refine LeO.bind ?_ fun _ => ?_
theorem spec_l5Swap.mono : ∀ a0 a1 a2 k, LeO (spec_l5Swap.f k a0 a1 a2) (spec_l5Swap.f (k + 1) a0 a1 a2) := by
 intro a0 a1 a2 k
 have ih0 := spec_l5Swap.mono_l k
 unfold spec_l5Swap.f
 repeat' with_reducible first | exact ih0 _ _ _ _ _ | exact spec_l4Find.mono _ _ _ _ | exact LeO.refl _ | exact LeO.none _ | refine LeO.ite ?_ ?_ | refine LeO.bind ?_ fun _ => ?_
theorem spec_l5Swap.calls (k : Nat) (a0 : ByteArray) (a1 : ByteArray) (A2 : Option Addr) (c2 : Nat) (l2 : List ByteArray) (r : ByteArray) (w : World) (hr2 : Kd.C Kd.string w A2 l2.length l2) (hc2 : l2.length ≤ c2) (h : spec_l5Swap.f k a0 a1 l2 = some r) :
  Calls Tryz.prog 47 #[.string a0, .string a1, .slice A2 l2.length c2] w fun e w' => e = .returned (.string r) ∧ Below w.heap.size w w' := by
 have hconv9_44 := fun (s_ : ByteArray) (W_ : World) => Go.run_bytes_of_string (P := Tryz.prog) W_ 9 44 5 s_ Tryz.underlying9 Tryz.underlying44 Tryz.underlying5
 have HR2 := am hr2
 have HC2 := am hc2
 clear hr2 hc2
 have HB := am (Below.refl w.heap.size w)
 have H : (spec_l5Swap.l0 k a0 a1 l2 (([] : List Int)) 0) = some r := h
 clear h
 obtain ⟨y233, hy233⟩ : ∃ y_ : List Int, y_ = (([] : List Int)) := ⟨_, rfl⟩
 replace H : (spec_l5Swap.l0 k a0 a1 l2 y233 0) = some r := by first | (rw [hy233]; with_reducible exact H) | (have H2_ := (Option.bind_some _ _).symm.trans H; rw [hy233]; with_reducible exact H2_) | (have H2_ := (Option.bind_some _ _).symm.trans H; with_reducible exact H2_) | with_reducible exact H | (rw [hy233]; exact H) | exact H
 have Ny233 := am hy233
 clear hy233
 have H' := am H
 clear H
 go_enter Tryz.func47, Tryz.ntmps47
 go_wp2_with (first | ((with_reducible refine gate_dst (N := 10) rfl ?_); refine Kd.R_lit (Kd.int .u8) _ 5 ?hg (N := 10) ?hd (xs := ([] : List Int)) (inner := []) (ok := fun _ => True) (okp := fun _ => True) ?hr ?hp (fun _ hk => hk) trivial (Below.refl _ _) (Nat.le_refl _) (by simp) ?_; (case hd => rfl); (case hg => rfl); (case hr => first | (go_simp; done) | (go_simp; rfl)); (case hp => exact (Reps.none _ _)); intro v234 w4 ho5 hb hg_ hnew_; clear hg_ hnew_; (first | rw [← Ny233.out] at ho5 | (simp only [Int.reduceToNat] at ho5; rw [← Ny233.out] at ho5)); have HO235 := am (Kd.R_lower ho5 (below_size ab1)); replace HB := am (below_step ab1 hb); clear hb ho5))
 go_loopg [7, 8] k (fun kq v7 v8 w' => ∃ (x7_1 : List Int) (x8_1 : Int), v8 = .int .i64 x8_1 ∧ Aside0 (spec_l5Swap.l0 kq a0 a1 l2 x7_1 x8_1 = some r) ∧ Aside0 (kq ≤ k) ∧ Aside0 (Kd.R (Kd.int .u8) 5 w' w.heap.size (fun _ => True) v7 x7_1) ∧ Aside0 (Below w.heap.size w w'))
 case atStart => exact ⟨(y233), (0), ab6, H', ⟨Nat.le_refl _⟩, ⟨ab8 HO235⟩, ⟨ab1⟩⟩
 case round =>
  clear H'
  (try clear c2); (try clear p2); (try clear c4)
  obtain ⟨x7_1, x8_1, rfl, HA, HK1, HO_7, HB⟩ := hrel
  cases gk with
  | zero => exact absurd HA.out (by simp [spec_l5Swap.l0])
  | succ k1 =>
   have H := HA.out
   clear HA
   simp only [spec_l5Swap.l0] at H
   replace H := ir_ H; rcases H with ⟨c6b0, H⟩ | ⟨c6b0, H⟩
   ·replace H := iq_ H; obtain ⟨c7b0, H⟩ := H
    replace H := bi_ H; obtain ⟨t236, A9, H⟩ := H
    replace H := ir_ H; rcases H with ⟨c10b0, H⟩ | ⟨c10b0, H⟩
    ·by_cases c12 : x7_1.length < 140737488355328
     case neg => rw [if_neg c12] at H; exact absurd H (by simp)
     rw [if_pos c12] at H
     have LMc12 := am c12
     clear c12
     obtain ⟨y237, hy237⟩ : ∃ y_ : List Int, y_ = (x7_1 ++ [bt a0 x8_1]) := ⟨_, rfl⟩
     replace H : (spec_l5Swap.l0 k1 a0 a1 l2 y237 (wrap64 (x8_1 + 1))) = some r := by first | (rw [hy237]; with_reducible exact H) | (have H2_ := (Option.bind_some _ _).symm.trans H; rw [hy237]; with_reducible exact H2_) | (have H2_ := (Option.bind_some _ _).symm.trans H; with_reducible exact H2_) | with_reducible exact H | (rw [hy237]; exact H) | exact H
     have Ny237 := am hy237
     clear hy237
     have H' := am H
     clear H
     have p8 : 0 ≤ (x8_1 : Int) := of_decide_eq_true ab4
     have q8 : x8_1 < (a0.size : Int) := of_decide_eq_true ab4
     have hx8 := bt_at a0 x8_1
     replace p8 := eq_true p8
     replace q8 := eq_true q8
     go_wp2_with (first | ((with_reducible refine gf_ 62 ?_); refine gc_ Tryz.func62 (spec_l4Find.calls k1 a1 0 (bt a0 x8_1) t236 _ A9.out) ?_; rintro w' ⟨nd, rfl⟩; have p11 : 0 ≤ (x8_1 : Int) := of_decide_eq_true ab4; have q11 : x8_1 < (a0.size : Int) := of_decide_eq_true ab4; have hx11 := bt_at a0 x8_1; replace p11 := eq_true p11; replace q11 := eq_true q11) | ((with_reducible refine gate_builtin (b := .append) (xs := #[.tmp 24, .tmp 28]) rfl ?_); at_builtin; refine Kd.R_append (Kd.int .u8) (w0 := w) w.heap.size rfl (.tmp 24) (.tmp 28) 44 5 (.int .u8 0) 1 rfl Tryz.underlying44 info5 rfl (by decide) (by omega) u7 x7_1 (bt a0 x8_1) [.int .u8 (bt a0 x8_1)] (fun _ => True) (fun _ => False) rfl rfl ?aP (fun _ hk => hk.elim) ?aF ?aO ?aB ?aS ?aL ?_; (case aP => exact rfl); (case aB => exact ab1); (case aF => exact (fun _ _ => trivial)); (case aO => exact (ab8 HO_7)); (case aS => exact (below_size ab1)); (case aL => have := LMc12.out; omega); intro v238 w13 ho hb hg hat; rw [← Ny237.out] at ho; replace HB := am hb; have HO239 := am ho; clear HO_7; clear ho hb hg hat))
     go_roundg k1
     case measure => have := HK1.out; omega
     case rel => exact ⟨(y237), (wrap64 (x8_1 + 1)), ab6, H', ⟨by have := HK1.out; omega⟩, ⟨ab8 HO239⟩, ⟨ab1⟩⟩
    ·replace H := iq_ H; obtain ⟨c14b0, H⟩ := H
     replace H := iq_ H; obtain ⟨c15b0, H⟩ := H
     by_cases c16 : x7_1.length + (bytesOf (rdOf ByteArray.empty l2 t236)).length < 140737488355328
     case neg => rw [if_neg c16] at H; exact absurd H (by simp)
     rw [if_pos c16] at H
     have LMc16 := am c16
     clear c16
     obtain ⟨y242, hy242⟩ : ∃ y_ : List Int, y_ = (x7_1 ++ (bytesOf (rdOf ByteArray.empty l2 t236))) := ⟨_, rfl⟩
     replace H : (spec_l5Swap.l0 k1 a0 a1 l2 y242 (wrap64 (x8_1 + 1))) = some r := by first | (rw [hy242]; with_reducible exact H) | (have H2_ := (Option.bind_some _ _).symm.trans H; rw [hy242]; with_reducible exact H2_) | (have H2_ := (Option.bind_some _ _).symm.trans H; with_reducible exact H2_) | with_reducible exact H | (rw [hy242]; exact H) | exact H
     have Ny242 := am hy242
     clear hy242
     have H' := am H
     clear H
     have p8 : 0 ≤ (x8_1 : Int) := of_decide_eq_true ab4
     have q8 : x8_1 < (a0.size : Int) := of_decide_eq_true ab4
     have hx8 := bt_at a0 x8_1
     replace p8 := eq_true p8
     replace q8 := eq_true q8
     go_wp2_with (first | ((with_reducible refine gf_ 62 ?_); refine gc_ Tryz.func62 (spec_l4Find.calls k1 a1 0 (bt a0 x8_1) t236 _ A9.out) ?_; rintro w' ⟨nd, rfl⟩; have p240 : 0 ≤ (t236 : Int) := of_decide_eq_true ab4; have q240 : t236 < (l2.length : Int) := of_decide_eq_true ab4; obtain ⟨ad240, e240, hx240_0⟩ := Kd.at_string HR2.out t236 p240 q240; cases e240; replace hx240_0 := pc_ HB hx240_0; replace p240 := eq_true p240; replace q240 := eq_true q240) | ((with_reducible refine gate_builtin (b := .append) (xs := #[.tmp 30, .tmp 35]) rfl ?_); at_builtin; refine Kd.R_append_rows (Kd.int .u8) (w0 := w) w.heap.size rfl (.tmp 30) (.tmp 35) 44 5 (.int .u8 0) 1 rfl Tryz.underlying44 info5 rfl (by decide) (by omega) u7 x7_1 (bytesOf (rdOf ByteArray.empty l2 t236)) _ _ _ (fun _ => True) (fun _ => False) rfl rfl ?aO ?aR (fun _ _ h => h) (fun _ h => h.elim) ?aF ?aB ?aS ?aL ?_; (case aR => rw [show (rdOf ByteArray.empty l2 t236).size = (bytesOf (rdOf ByteArray.empty l2 t236)).length from (Op.bytesOf_len (rdOf ByteArray.empty l2 t236))]; (with_reducible repeat (first | apply Kd.C_drew | apply Kd.C_drewN)); exact Op.C_conv _ _ _ _ _ (by have := LMc16.out; rw [← Op.bytesOf_len] at this; omega)); (case aB => exact ab1); (case aF => exact (fun _ _ => trivial)); (case aO => exact (ab8 HO_7)); (case aS => exact (below_size ab1)); (case aL => have := LMc16.out; have hlx_ := (Op.bytesOf_len (rdOf ByteArray.empty l2 t236)); omega); intro v243 w17 ho hb hg hat; rw [← Ny242.out] at ho; replace HB := am hb; have HO244 := am ho; clear HO_7; clear ho hb hg hat))
     go_roundg k1
     case measure => have := HK1.out; omega
     case rel => exact ⟨(y242), (wrap64 (x8_1 + 1)), ab6, H', ⟨by have := HK1.out; omega⟩, ⟨ab8 HO244⟩, ⟨ab1⟩⟩
   ·obtain rfl := Option.some.inj H
    have hcv18 := own_string (P := Tryz.prog) Tryz.underlying44 Tryz.underlying5 Tryz.underlying9 (Kd.own_of_R HO_7.out)
    go_wp2
    go_ret
    exact ⟨ab7, ab1⟩

/-! ### spec_Escape: function 30 -/
def spec_Escape.f (k : Nat) (a0 : ByteArray) (a1 : Bool) : Option (ByteArray) := if a1 = true then ((spec_l5Swap.f k a0 (⟨#[38, 60, 62, 13, 34, 9, 10]⟩ : ByteArray) (([(⟨#[38, 97, 109, 112, 59]⟩ : ByteArray), (⟨#[38, 108, 116, 59]⟩ : ByteArray), (⟨#[38, 103, 116, 59]⟩ : ByteArray), (⟨#[38, 35, 49, 51, 59]⟩ : ByteArray), (⟨#[38, 113, 117, 111, 116, 59]⟩ : ByteArray), (⟨#[38, 35, 57, 59]⟩ : ByteArray), (⟨#[38, 35, 49, 48, 59]⟩ : ByteArray)] : List ByteArray))).bind fun t248 => (some t248)) else ((spec_l5Swap.f k a0 (⟨#[38, 60, 62, 13]⟩ : ByteArray) (([(⟨#[38, 97, 109, 112, 59]⟩ : ByteArray), (⟨#[38, 108, 116, 59]⟩ : ByteArray), (⟨#[38, 103, 116, 59]⟩ : ByteArray), (⟨#[38, 35, 49, 51, 59]⟩ : ByteArray)] : List ByteArray))).bind fun t252 => (some t252))
theorem spec_Escape.mono : ∀ a0 a1 k, LeO (spec_Escape.f k a0 a1) (spec_Escape.f (k + 1) a0 a1) := by
 intro a0 a1 k
 unfold spec_Escape.f
 repeat' with_reducible first | exact spec_l5Swap.mono _ _ _ _ | exact LeO.refl _ | exact LeO.none _ | refine LeO.ite ?_ ?_ | refine LeO.bind ?_ fun _ => ?_
theorem spec_Escape.calls (k : Nat) (a0 : ByteArray) (a1 : Bool) (r : ByteArray) (w : World) (h : spec_Escape.f k a0 a1 = some r) :
  Calls Tryz.prog 30 #[.string a0, .bool a1] w fun e w' => e = .returned (.string r) ∧ Below w.heap.size w w' := by
 have HB := am (Below.refl w.heap.size w)
 have H : (if a1 = true then ((spec_l5Swap.f k a0 (⟨#[38, 60, 62, 13, 34, 9, 10]⟩ : ByteArray) (([(⟨#[38, 97, 109, 112, 59]⟩ : ByteArray), (⟨#[38, 108, 116, 59]⟩ : ByteArray), (⟨#[38, 103, 116, 59]⟩ : ByteArray), (⟨#[38, 35, 49, 51, 59]⟩ : ByteArray), (⟨#[38, 113, 117, 111, 116, 59]⟩ : ByteArray), (⟨#[38, 35, 57, 59]⟩ : ByteArray), (⟨#[38, 35, 49, 48, 59]⟩ : ByteArray)] : List ByteArray))).bind fun t248 => (some t248)) else ((spec_l5Swap.f k a0 (⟨#[38, 60, 62, 13]⟩ : ByteArray) (([(⟨#[38, 97, 109, 112, 59]⟩ : ByteArray), (⟨#[38, 108, 116, 59]⟩ : ByteArray), (⟨#[38, 103, 116, 59]⟩ : ByteArray), (⟨#[38, 35, 49, 51, 59]⟩ : ByteArray)] : List ByteArray))).bind fun t252 => (some t252))) = some r := h
 clear h
 replace H := ib_ H; rcases H with ⟨rfl, H⟩ | ⟨rfl, H⟩
 ·obtain ⟨y245, hy245⟩ : ∃ y_ : List ByteArray, y_ = (([(⟨#[38, 97, 109, 112, 59]⟩ : ByteArray), (⟨#[38, 108, 116, 59]⟩ : ByteArray), (⟨#[38, 103, 116, 59]⟩ : ByteArray), (⟨#[38, 35, 49, 51, 59]⟩ : ByteArray), (⟨#[38, 113, 117, 111, 116, 59]⟩ : ByteArray), (⟨#[38, 35, 57, 59]⟩ : ByteArray), (⟨#[38, 35, 49, 48, 59]⟩ : ByteArray)] : List ByteArray)) := ⟨_, rfl⟩
  replace H : ((spec_l5Swap.f k a0 (⟨#[38, 60, 62, 13, 34, 9, 10]⟩ : ByteArray) y245).bind fun t248 => (some t248)) = some r := by first | (rw [hy245]; with_reducible exact H) | (have H2_ := (Option.bind_some _ _).symm.trans H; rw [hy245]; with_reducible exact H2_) | (have H2_ := (Option.bind_some _ _).symm.trans H; with_reducible exact H2_) | with_reducible exact H | (rw [hy245]; exact H) | exact H
  have Ny245 := am hy245
  clear hy245
  replace H := bi_ H; obtain ⟨t248, A4, H⟩ := H
  obtain rfl := Option.some.inj H
  go_enter Tryz.func30, Tryz.ntmps30
  go_wp2_with (first | ((with_reducible refine gate_dst (N := 7) rfl ?_); refine Kd.R_lit Kd.string _ 9 ?hg (N := 7) ?hd (xs := ([(⟨#[38, 97, 109, 112, 59]⟩ : ByteArray), (⟨#[38, 108, 116, 59]⟩ : ByteArray), (⟨#[38, 103, 116, 59]⟩ : ByteArray), (⟨#[38, 35, 49, 51, 59]⟩ : ByteArray), (⟨#[38, 113, 117, 111, 116, 59]⟩ : ByteArray), (⟨#[38, 35, 57, 59]⟩ : ByteArray), (⟨#[38, 35, 49, 48, 59]⟩ : ByteArray)] : List ByteArray)) (inner := [.string (⟨#[38, 97, 109, 112, 59]⟩ : ByteArray), .string (⟨#[38, 108, 116, 59]⟩ : ByteArray), .string (⟨#[38, 103, 116, 59]⟩ : ByteArray), .string (⟨#[38, 35, 49, 51, 59]⟩ : ByteArray), .string (⟨#[38, 113, 117, 111, 116, 59]⟩ : ByteArray), .string (⟨#[38, 35, 57, 59]⟩ : ByteArray), .string (⟨#[38, 35, 49, 48, 59]⟩ : ByteArray)]) (ok := fun _ => True) (okp := fun _ => True) ?hr ?hp (fun _ hk => hk) trivial (Below.refl _ _) (Nat.le_refl _) (by simp) ?_; (case hd => rfl); (case hg => rfl); (case hr => first | (go_simp; done) | (go_simp; rfl)); (case hp => exact (Reps.one (show Kd.M Kd.string _ _ _ (⟨#[38, 97, 109, 112, 59]⟩ : ByteArray) [.string (⟨#[38, 97, 109, 112, 59]⟩ : ByteArray)] from rfl) (Reps.one (show Kd.M Kd.string _ _ _ (⟨#[38, 108, 116, 59]⟩ : ByteArray) [.string (⟨#[38, 108, 116, 59]⟩ : ByteArray)] from rfl) (Reps.one (show Kd.M Kd.string _ _ _ (⟨#[38, 103, 116, 59]⟩ : ByteArray) [.string (⟨#[38, 103, 116, 59]⟩ : ByteArray)] from rfl) (Reps.one (show Kd.M Kd.string _ _ _ (⟨#[38, 35, 49, 51, 59]⟩ : ByteArray) [.string (⟨#[38, 35, 49, 51, 59]⟩ : ByteArray)] from rfl) (Reps.one (show Kd.M Kd.string _ _ _ (⟨#[38, 113, 117, 111, 116, 59]⟩ : ByteArray) [.string (⟨#[38, 113, 117, 111, 116, 59]⟩ : ByteArray)] from rfl) (Reps.one (show Kd.M Kd.string _ _ _ (⟨#[38, 35, 57, 59]⟩ : ByteArray) [.string (⟨#[38, 35, 57, 59]⟩ : ByteArray)] from rfl) (Reps.one (show Kd.M Kd.string _ _ _ (⟨#[38, 35, 49, 48, 59]⟩ : ByteArray) [.string (⟨#[38, 35, 49, 48, 59]⟩ : ByteArray)] from rfl) (Reps.none _ _))))))))); intro v246 w5 ho6 hb hg_ hnew_; clear hg_ hnew_; (first | rw [← Ny245.out] at ho6 | (simp only [Int.reduceToNat] at ho6; rw [← Ny245.out] at ho6)); have HO247 := am (Kd.R_lower ho6 (below_size ab1)); replace HB := am (below_step ab1 hb); clear hb ho6; obtain ⟨Ao7, co7, eo7⟩ := Kd.R_slice HO247.out; subst eo7) | ((with_reducible refine gf_ 47 ?_); refine gc_ Tryz.func47 (spec_l5Swap.calls k a0 (⟨#[38, 60, 62, 13, 34, 9, 10]⟩ : ByteArray) _ _ y245 t248 _ ?side1 ((Kd.R_reads' HO247.out).2.1) A4.out) ?_; (case side1 => exact (by repeat (first | exact (Kd.R_reads' HO247.out).2.2 | (with_reducible refine Kd.C_alloc ?_ _) | (with_reducible refine Kd.C_drewN ?_ _) | (with_reducible refine Kd.C_drew ?_)))); rintro w8 hb; replace HO247 := am (Kd.R_below (ab8 HO247) hb); replace HB := am (below_step ab1 hb); (try clear hb); (try clear hb2); (try clear hk); (try clear hi)))
  go_ret
  exact ⟨ab7, ab1⟩
 ·obtain ⟨y249, hy249⟩ : ∃ y_ : List ByteArray, y_ = (([(⟨#[38, 97, 109, 112, 59]⟩ : ByteArray), (⟨#[38, 108, 116, 59]⟩ : ByteArray), (⟨#[38, 103, 116, 59]⟩ : ByteArray), (⟨#[38, 35, 49, 51, 59]⟩ : ByteArray)] : List ByteArray)) := ⟨_, rfl⟩
  replace H : ((spec_l5Swap.f k a0 (⟨#[38, 60, 62, 13]⟩ : ByteArray) y249).bind fun t252 => (some t252)) = some r := by first | (rw [hy249]; with_reducible exact H) | (have H2_ := (Option.bind_some _ _).symm.trans H; rw [hy249]; with_reducible exact H2_) | (have H2_ := (Option.bind_some _ _).symm.trans H; with_reducible exact H2_) | with_reducible exact H | (rw [hy249]; exact H) | exact H
  have Ny249 := am hy249
  clear hy249
  replace H := bi_ H; obtain ⟨t252, A9, H⟩ := H
  obtain rfl := Option.some.inj H
  go_enter Tryz.func30, Tryz.ntmps30
  go_wp2_with (first | ((with_reducible refine gate_dst (N := 10) rfl ?_); refine Kd.R_lit Kd.string _ 9 ?hg (N := 10) ?hd (xs := ([(⟨#[38, 97, 109, 112, 59]⟩ : ByteArray), (⟨#[38, 108, 116, 59]⟩ : ByteArray), (⟨#[38, 103, 116, 59]⟩ : ByteArray), (⟨#[38, 35, 49, 51, 59]⟩ : ByteArray)] : List ByteArray)) (inner := [.string (⟨#[38, 97, 109, 112, 59]⟩ : ByteArray), .string (⟨#[38, 108, 116, 59]⟩ : ByteArray), .string (⟨#[38, 103, 116, 59]⟩ : ByteArray), .string (⟨#[38, 35, 49, 51, 59]⟩ : ByteArray)]) (ok := fun _ => True) (okp := fun _ => True) ?hr ?hp (fun _ hk => hk) trivial (Below.refl _ _) (Nat.le_refl _) (by simp) ?_; (case hd => rfl); (case hg => rfl); (case hr => first | (go_simp; done) | (go_simp; rfl)); (case hp => exact (Reps.one (show Kd.M Kd.string _ _ _ (⟨#[38, 97, 109, 112, 59]⟩ : ByteArray) [.string (⟨#[38, 97, 109, 112, 59]⟩ : ByteArray)] from rfl) (Reps.one (show Kd.M Kd.string _ _ _ (⟨#[38, 108, 116, 59]⟩ : ByteArray) [.string (⟨#[38, 108, 116, 59]⟩ : ByteArray)] from rfl) (Reps.one (show Kd.M Kd.string _ _ _ (⟨#[38, 103, 116, 59]⟩ : ByteArray) [.string (⟨#[38, 103, 116, 59]⟩ : ByteArray)] from rfl) (Reps.one (show Kd.M Kd.string _ _ _ (⟨#[38, 35, 49, 51, 59]⟩ : ByteArray) [.string (⟨#[38, 35, 49, 51, 59]⟩ : ByteArray)] from rfl) (Reps.none _ _)))))); intro v250 w10 ho11 hb hg_ hnew_; clear hg_ hnew_; (first | rw [← Ny249.out] at ho11 | (simp only [Int.reduceToNat] at ho11; rw [← Ny249.out] at ho11)); have HO251 := am (Kd.R_lower ho11 (below_size ab1)); replace HB := am (below_step ab1 hb); clear hb ho11; obtain ⟨Ao12, co12, eo12⟩ := Kd.R_slice HO251.out; subst eo12) | ((with_reducible refine gf_ 47 ?_); refine gc_ Tryz.func47 (spec_l5Swap.calls k a0 (⟨#[38, 60, 62, 13]⟩ : ByteArray) _ _ y249 t252 _ ?side1 ((Kd.R_reads' HO251.out).2.1) A9.out) ?_; (case side1 => exact (by repeat (first | exact (Kd.R_reads' HO251.out).2.2 | (with_reducible refine Kd.C_alloc ?_ _) | (with_reducible refine Kd.C_drewN ?_ _) | (with_reducible refine Kd.C_drew ?_)))); rintro w13 hb; replace HO251 := am (Kd.R_below (ab8 HO251) hb); replace HB := am (below_step ab1 hb); (try clear hb); (try clear hb2); (try clear hk); (try clear hi)))
  go_ret
  exact ⟨ab7, ab1⟩

/-! ### spec_SpaceName: function 31 -/
def spec_SpaceName.f (a0 : Int) : Option (ByteArray) := if a0 = 0 then (some (⟨#[104, 116, 116, 112, 58, 47, 47, 119, 119, 119, 46, 119, 51, 46, 111, 114, 103, 47, 49, 57, 57, 57, 47, 120, 104, 116, 109, 108]⟩ : ByteArray)) else (if a0 = 1 then (some (⟨#[104, 116, 116, 112, 58, 47, 47, 119, 119, 119, 46, 119, 51, 46, 111, 114, 103, 47, 50, 48, 48, 48, 47, 115, 118, 103]⟩ : ByteArray)) else (if a0 = 2 then (some (⟨#[104, 116, 116, 112, 58, 47, 47, 119, 119, 119, 46, 119, 51, 46, 111, 114, 103, 47, 49, 57, 57, 56, 47, 77, 97, 116, 104, 47, 77, 97, 116, 104, 77, 76]⟩ : ByteArray)) else (some (⟨#[]⟩ : ByteArray))))
theorem spec_SpaceName.calls (a0 : Int) (r : ByteArray) (w : World) (h : spec_SpaceName.f a0 = some r) :
  Calls Tryz.prog 31 #[.int .i64 a0] w fun e w' => e = .returned (.string r) ∧ Drawn0 w w' := by
 have H : (if a0 = 0 then (some (⟨#[104, 116, 116, 112, 58, 47, 47, 119, 119, 119, 46, 119, 51, 46, 111, 114, 103, 47, 49, 57, 57, 57, 47, 120, 104, 116, 109, 108]⟩ : ByteArray)) else (if a0 = 1 then (some (⟨#[104, 116, 116, 112, 58, 47, 47, 119, 119, 119, 46, 119, 51, 46, 111, 114, 103, 47, 50, 48, 48, 48, 47, 115, 118, 103]⟩ : ByteArray)) else (if a0 = 2 then (some (⟨#[104, 116, 116, 112, 58, 47, 47, 119, 119, 119, 46, 119, 51, 46, 111, 114, 103, 47, 49, 57, 57, 56, 47, 77, 97, 116, 104, 47, 77, 97, 116, 104, 77, 76]⟩ : ByteArray)) else (some (⟨#[]⟩ : ByteArray))))) = some r := h
 clear h
 replace H := ie_ H; rcases H with ⟨c2b0, c2b1, H⟩ | ⟨c2, c2b0, c2b1, H⟩
 ·obtain rfl := Option.some.inj H
  go_enter Tryz.func31, Tryz.ntmps31
  go_wp2
  go_ret
  exact ⟨ab6, by repeat (first | exact Drawn0.refl _ | apply Drawn0.step)⟩
 ·replace H := ie_ H; rcases H with ⟨c3b0, c3b1, H⟩ | ⟨c3, c3b0, c3b1, H⟩
  ·obtain rfl := Option.some.inj H
   go_enter Tryz.func31, Tryz.ntmps31
   go_wp2
   go_ret
   exact ⟨ab6, by repeat (first | exact Drawn0.refl _ | apply Drawn0.step)⟩
  ·replace H := ie_ H; rcases H with ⟨c4b0, c4b1, H⟩ | ⟨c4, c4b0, c4b1, H⟩
   ·obtain rfl := Option.some.inj H
    go_enter Tryz.func31, Tryz.ntmps31
    go_wp2
    go_ret
    exact ⟨ab6, by repeat (first | exact Drawn0.refl _ | apply Drawn0.step)⟩
   ·obtain rfl := Option.some.inj H
    go_enter Tryz.func31, Tryz.ntmps31
    go_wp2
    go_ret
    exact ⟨ab6, by repeat (first | exact Drawn0.refl _ | apply Drawn0.step)⟩

end Go.Proofs.YthpdpnpojgegiaaGreatDoor.P
