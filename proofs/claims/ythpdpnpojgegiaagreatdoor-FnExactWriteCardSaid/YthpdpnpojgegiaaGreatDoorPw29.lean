-- WRITTEN BY hprint.py
import Derived.Test.YthpdpnpojgegiaaGreatDoorPw0
namespace Go.Proofs.YthpdpnpojgegiaaGreatDoor.P
open Go.RowKit Go.Proofs.YthpdpnpojgegiaaGreatDoorW.PrintWords Go.Proofs.YthpdpnpojgegiaaGreatDoorW.PrintLast Go.Proofs.YthpdpnpojgegiaaGreatDoorW.PrintMore
attribute [local go_sem] max2_int min2_int max_two min_two max_three min_three max_four min_four
set_option linter.unusedVariables false
set_option linter.unusedSimpArgs false
set_option maxHeartbeats 4000000
set_option maxRecDepth 100000

/-! ### impl_hasAttr: function 71 (by hand) -/
def hasA (name : ByteArray) (a : S62) : Bool := a.f0.toList == name.toList
def idxA (name : ByteArray) : List S62 → Nat → Int
 | [], _ => -1
 | a :: l, j => if hasA name a = true then (j : Int) else idxA name l (j + 1)
def impl_hasAttr.f (l0 : List S62) (a1 : ByteArray) : Option Bool := some (l0.any (hasA a1))
theorem idxA_drop (name : ByteArray) (l : List S62) (j : Nat) (h : j < l.length) : idxA name (l.drop j) j = if hasA name l[j] = true then (j : Int) else idxA name (l.drop (j + 1)) (j + 1) := by
 rw [List.drop_eq_getElem_cons h]; rfl
theorem idxA_any (name : ByteArray) : ∀ (l : List S62) (j : Nat), decide (0 ≤ idxA name l j) = l.any (hasA name)
 | [], _ => rfl
 | a :: l, j => by
  unfold idxA
  by_cases h : hasA name a = true
  ·rw [if_pos h, List.any_cons, h, Bool.true_or, decide_eq_true (by omega)]
  ·rw [if_neg h, idxA_any name l (j + 1), List.any_cons, Bool.eq_false_iff.mpr h, Bool.false_or]
theorem lit_hasAttr (n v name : ByteArray) (b : Nat) (w : World) (hc : w.cell? ⟨b, 0, none⟩ = some (.string name)) :
  Calls Tryz.prog 88 #[.agg #[.string n, .string v], .pointer (some ⟨b, 0, none⟩)] w fun e w' => e = .returned (.bool (n.toList == name.toList)) ∧ Below w.heap.size w w' := by
 have hu := Tryz.underlying62
 have HB := am (Below.refl w.heap.size w)
 have hc2 := fun o => pw_cell_below ((Below.refl _ w).alloc (Nat.le_refl _) o) hc
 go_enter Tryz.func88, Tryz.ntmps88
 go_wp2
 go_ret
 exact ⟨rfl, ab1⟩
theorem lit_hasAttr_q (n v name : ByteArray) (b : Nat) (q : Bool) (w : World) (hq : (n.toList == name.toList) = q) (hc : w.cell? ⟨b, 0, none⟩ = some (.string name)) :
  Calls Tryz.prog 88 #[.agg #[.string n, .string v], .pointer (some ⟨b, 0, none⟩)] w fun e w' => e = .returned (.bool q) ∧ Below w.heap.size w w' := by
 subst hq
 exact lit_hasAttr n v name b w hc
theorem rdA (l : List S62) (j : Nat) (h : j < l.length) : rd_T62 l (j : Int) = l[j] := by
 unfold rd_T62
 rw [Int.toNat_natCast, List.getD_eq_getElem?_getD, List.getElem?_eq_getElem h]; rfl
theorem idx_hasAttr (A0 : Option Addr) (c0 : Nat) (l0 : List S62) (name : ByteArray) (b : Nat) (w : World) (hr0 : Kd.C k62 w A0 l0.length l0) (hc : w.cell? ⟨b, 0, none⟩ = some (.string name)) :
  Calls Tryz.prog 98 #[.slice A0 l0.length c0, .func (.func 88) #[] #[.pointer (some ⟨b, 0, none⟩)]] w fun e w' => e = .returned (.int .i64 (idxA name l0 0)) ∧ Below w.heap.size w w' := by
 have hu := Tryz.underlying62
 have HR0 := am hr0
 have HC := am hc
 clear hr0 hc
 go_enter Tryz.func98, Tryz.ntmps98
 go_wp2
 go_loopw [8] (fun v8 wr => ∃ (j : Nat), v8 = .int .i64 j ∧ Aside0 (Below w.heap.size w wr) ∧ Aside0 (j ≤ l0.length) ∧ Aside0 (idxA name (l0.drop j) j = idxA name l0 0)) (fun v8 _ => l0.length - (intOf v8).toNat)
 case atStart => exact ⟨0, rfl, ⟨Below.refl _ _⟩, ⟨Nat.zero_le _⟩, ⟨by rw [List.drop_zero]⟩⟩
 case round =>
  obtain ⟨j, rfl, HB, HJ, HE⟩ := hrel
  by_cases hlt : j < l0.length
  ·have hE := HE.out
   rw [idxA_drop name l0 j hlt] at hE
   have hlen : (l0.length : Int) ≤ 9223372036854775807 := by have := HR0.out.2.1; omega
   have hltI : (j : Int) < (l0.length : Int) := Int.ofNat_lt.mpr hlt
   obtain ⟨ad, ea, hx0, hx1⟩ := at_T62 HR0.out (j : Int) (Int.natCast_nonneg j) hltI
   subst ea
   rw [Int.toNat_natCast] at hx0 hx1
   have hy0 := pc_ HB hx0
   have hy1 := pc_ HB hx1
   clear hx0 hx1
   have HCN := am (pc_ HB HC.out)
   have HL := am HB.out.size
   have hq : ((rd_T62 l0 (j : Int)).f0.toList == name.toList) = hasA name l0[j] := by rw [rdA l0 j hlt]; rfl
   by_cases h : hasA name l0[j] = true
   ·rw [if_pos h] at hE
    rw [h] at hq
    have HQ := am hq
    have HE2 := am hE
    clear hq hE h
    go_wp2_with (go_at_call 88; (with_reducible refine (lit_hasAttr_q _ _ name b true _ HQ.out HCN.out).mono ?_); rintro e w1 ⟨rfl, hb1⟩)
    go_ret
    exact ⟨by rw [← HE2.out]; rfl, below_then HB.out HL.out hb1⟩
   ·rw [if_neg h] at hE
    rw [Bool.eq_false_iff.mpr h] at hq
    have HQ := am hq
    have HE2 := am hE
    clear hq hE h
    go_wp2_with (go_at_call 88; (with_reducible refine (lit_hasAttr_q _ _ name b false _ HQ.out HCN.out).mono ?_); rintro e w1 ⟨rfl, hb1⟩)
    go_roundw
    case rel => exact ⟨j + 1, by go_num, ⟨below_then HB.out HL.out hb1⟩, ⟨hlt⟩, HE2⟩
    case measure => simp [intOf]; omega
  ·have hE := HE.out
   rw [List.drop_eq_nil_of_le (by omega)] at hE
   have HE2 := am hE
   clear hE
   go_wp2
   go_ret
   exact ⟨by rw [← HE2.out]; rfl, HB.out⟩
theorem con_hasAttr (A0 : Option Addr) (c0 : Nat) (l0 : List S62) (name : ByteArray) (b : Nat) (w : World) (hr0 : Kd.C k62 w A0 l0.length l0) (hc : w.cell? ⟨b, 0, none⟩ = some (.string name)) :
  Calls Tryz.prog 87 #[.slice A0 l0.length c0, .func (.func 88) #[] #[.pointer (some ⟨b, 0, none⟩)]] w fun e w' => e = .returned (.bool (l0.any (hasA name))) ∧ Below w.heap.size w w' := by
 have HR0 := am hr0
 have HC := am hc
 clear hr0 hc
 rw [← idxA_any name l0 0]
 go_enter Tryz.func87, Tryz.ntmps87
 go_wp2_with (go_at_call 98; (with_reducible refine (idx_hasAttr A0 c0 l0 name b _ HR0.out HC.out).mono ?_); rintro e w1 ⟨rfl, hb1⟩)
 go_ret
 exact ⟨rfl, hb1⟩
theorem impl_hasAttr.calls (A0 : Option Addr) (c0 : Nat) (l0 : List S62) (a1 : ByteArray) (r : Bool) (w : World) (hr0 : Kd.C k62 w A0 l0.length l0) (hc0 : l0.length ≤ c0) (h : impl_hasAttr.f l0 a1 = some r) :
  Calls Tryz.prog 71 #[.slice A0 l0.length c0, .string a1] w fun e w' => e = .returned (.bool r) ∧ Below w.heap.size w w' := by
 obtain rfl := Option.some.inj h
 clear h
 have HR0 := am hr0
 clear hr0 hc0
 go_enter Tryz.func71, Tryz.ntmps71
 go_wp2_with (go_at_call 87; (refine (con_hasAttr A0 c0 l0 a1 w.heap.size _ (Kd.C_below HR0.out ((Below.refl _ w).alloc (Nat.le_refl _) _)) (by rw [Go.Lib.cell_of_heap (show (w.heap.push _)[w.heap.size]? = _ from Array.getElem?_push_size)]; rfl)).mono ?_); rintro e w1 ⟨rfl, hb1⟩)
 go_ret
 exact ⟨rfl, below_then ((Below.refl _ w).alloc (Nat.le_refl _) _) (by show w.heap.size ≤ (w.heap.push _).size; rw [Array.size_push]; omega) hb1⟩


end Go.Proofs.YthpdpnpojgegiaaGreatDoor.P
