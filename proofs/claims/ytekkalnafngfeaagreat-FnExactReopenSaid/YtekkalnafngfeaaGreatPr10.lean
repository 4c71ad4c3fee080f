-- WRITTEN BY this session's own programs
import Derived.Test.YtekkalnafngfeaaGreatPr2
import Derived.Test.YtekkalnafngfeaaGreatPr20
namespace Go.Proofs.YtekkalnafngfeaaGreat.P
open Go.RowKit Go.Proofs.YtekkalnafngfeaaGreatW.PrintWords Go.Proofs.YtekkalnafngfeaaGreatW.PrintLast Go.Proofs.YtekkalnafngfeaaGreatW.PrintMore
set_option linter.unusedVariables false
set_option linter.unusedSimpArgs false
set_option maxHeartbeats 8000000
set_option maxRecDepth 100000
attribute [local go_sem] max2_int min2_int max_two min_two max_three min_three max_four min_four
def laws_heldIntS.l0 : Nat → List Int → Int → Int → Option (Int)
 | 0, _, _, _ => none
 | k + 1, x0, x1, x5 => if x5 < (x0.length : Int) then (if 0 ≤ x5 then (if (rd x0 x5) = x1 then (laws_heldIntS.l0 k x0 (wrap64 (x1 + 1)) (wrap64 (x5 + 1))) else (some (-1))) else (none)) else (some x1)
def laws_heldIntS.f (k : Nat) (l0 : List Int) (a1 : Int) : Option (Int) := laws_heldIntS.l0 k l0 a1 0
theorem laws_heldIntS.calls (k : Nat) (A0 : Option Addr) (c0 : Nat) (l0 : List Int) (a1 : Int) (r : Int) (w : World) (hr0 : Kd.C (Kd.int .i64) w A0 l0.length l0) (hc0 : l0.length ≤ c0) (h : laws_heldIntS.f k l0 a1 = some r) :
  Calls Tryz.prog 42 #[.slice A0 l0.length c0, .int .i64 a1] w fun e w' => e = .returned (.int .i64 r) ∧ Drawn0 w w' := by
 have HR0 := am hr0
 have HC0 := am hc0
 clear hr0 hc0
 have H : (laws_heldIntS.l0 k l0 a1 0) = some r := h
 clear h
 have H' := am H
 clear H
 go_enter Tryz.func42, Tryz.ntmps42
 go_wp2
 go_loopg [1, 5] k (fun kq v1 v5 w' => ∃ (x1_1 : Int) (x5_1 : Int), v1 = .int .i64 x1_1 ∧ v5 = .int .i64 x5_1 ∧ Aside0 (laws_heldIntS.l0 kq l0 x1_1 x5_1 = some r) ∧ Aside0 (kq ≤ k) ∧ Drawn0 w w')
 case atStart => exact ⟨(a1), (0), ab6, ab6, H', ⟨Nat.le_refl _⟩, by repeat (first | exact Drawn0.refl _ | apply Drawn0.step)⟩
 case round =>
  clear H'
  try clear p2
  obtain ⟨x1_1, x5_1, rfl, rfl, HA, HK1, ⟨m1, rfl⟩⟩ := hrel
  cases gk with
  | zero => exact absurd HA.out (by simp [laws_heldIntS.l0])
  | succ k1 =>
   have H := HA.out
   clear HA
   simp only [laws_heldIntS.l0] at H
   replace H := ir_ H; rcases H with ⟨c3b0, H⟩ | ⟨c3b0, H⟩
   ·replace H := iq_ H; obtain ⟨c4b0, H⟩ := H
    replace H := ie_ H; rcases H with ⟨c5b0, c5b1, H⟩ | ⟨c5, c5b0, c5b1, H⟩
    ·have H' := am H
     clear H
     have p192 : 0 ≤ (x5_1 : Int) := of_decide_eq_true ab4
     have q192 : x5_1 < (l0.length : Int) := of_decide_eq_true ab4
     obtain ⟨ad192, e192, hx192_0⟩ := Kd.at_int HR0.out x5_1 p192 q192
     cases e192
     replace p192 := eq_true p192
     replace q192 := eq_true q192
     go_wp2
     go_roundg k1
     case measure => have := HK1.out; omega
     case rel => exact ⟨(wrap64 (x1_1 + 1)), (wrap64 (x5_1 + 1)), ab6, ab6, H', ⟨by have := HK1.out; omega⟩, by repeat (first | exact Drawn0.refl _ | apply Drawn0.step)⟩
    ·obtain rfl := Option.some.inj H
     have p192 : 0 ≤ (x5_1 : Int) := of_decide_eq_true ab4
     have q192 : x5_1 < (l0.length : Int) := of_decide_eq_true ab4
     obtain ⟨ad192, e192, hx192_0⟩ := Kd.at_int HR0.out x5_1 p192 q192
     cases e192
     replace p192 := eq_true p192
     replace q192 := eq_true q192
     go_wp2
     go_ret
     exact ⟨ab6, by repeat (first | exact Drawn0.refl _ | apply Drawn0.step)⟩
   ·obtain rfl := Option.some.inj H
    go_wp2
    go_ret
    exact ⟨ab6, by repeat (first | exact Drawn0.refl _ | apply Drawn0.step)⟩
def laws_heldAttrS.l0 : Nat → List (S56) → Int → Int → Option (Int)
 | 0, _, _, _ => none
 | k + 1, x0, x1, x5 => if x5 < (x0.length : Int) then (if 0 ≤ x5 then ((laws_markText.f k x1).bind fun t194 => (if ((rd_T56 x0 x5).f0).toList = t194.toList then ((laws_markText.f k (wrap64 (x1 + 1))).bind fun t196 => (if ((rd_T56 x0 x5).f1).toList = t196.toList then (laws_heldAttrS.l0 k x0 (wrap64 ((wrap64 (x1 + 1)) + 1)) (wrap64 (x5 + 1))) else (some (-1)))) else (some (-1)))) else (none)) else (some x1)
def laws_heldAttrS.f (k : Nat) (l0 : List (S56)) (a1 : Int) : Option (Int) := laws_heldAttrS.l0 k l0 a1 0
def laws_heldAttrS.T4 : Bool × List (List Nat × List Nat) := (true, [([], []), ([], []), ([0, 1], [0, 1]), ([2], [2]), ([3], [3]), ([], []), ([5], [5]), ([4, 6], [4, 6])])
def laws_heldAttrS.B4 : List Nat := [0, 0, 3, 7, 15, 0, 32, 127]
theorem laws_heldAttrS.tab4 : rtab .any (opsOf Tryz.f69 4) = laws_heldAttrS.T4 := by kernel_rfl
theorem laws_heldAttrS.bits4 : waitsOk laws_heldAttrS.T4.2 laws_heldAttrS.B4 = true := by kernel_rfl
def laws_heldAttrS.T7 : Bool × List (List Nat × List Nat) := (true, [([], []), ([], []), ([0, 1], [0, 1]), ([2], [2]), ([3], [3]), ([], []), ([5], [5]), ([4, 6], [4, 6])])
def laws_heldAttrS.B7 : List Nat := [0, 0, 3, 7, 15, 0, 32, 127]
theorem laws_heldAttrS.tab7 : rtab .any (opsOf Tryz.f69 7) = laws_heldAttrS.T7 := by kernel_rfl
theorem laws_heldAttrS.bits7 : waitsOk laws_heldAttrS.T7.2 laws_heldAttrS.B7 = true := by kernel_rfl
theorem laws_heldAttrS.calls (k : Nat) (A0 : Option Addr) (c0 : Nat) (l0 : List (S56)) (a1 : Int) (r : Int) (w : World) (hr0 : Kd.C k56 w A0 l0.length l0) (hc0 : l0.length ≤ c0) (h : laws_heldAttrS.f k l0 a1 = some r) :
  Calls Tryz.prog 69 #[.slice A0 l0.length c0, .int .i64 a1] w fun e w' => e = .returned (.int .i64 r) ∧ Below w.heap.size w w' := by
 have HR0 := am hr0
 have HC0 := am hc0
 clear hr0 hc0
 have HB := am (Below.refl w.heap.size w)
 have H : (laws_heldAttrS.l0 k l0 a1 0) = some r := h
 clear h
 have H' := am H
 clear H
 go_enter Tryz.func69, Tryz.ntmps69
 go_wp2
 go_loopg [1, 5] k (fun kq v1 v5 w' => ∃ (x1_1 : Int) (x5_1 : Int), v1 = .int .i64 x1_1 ∧ v5 = .int .i64 x5_1 ∧ Aside0 (laws_heldAttrS.l0 kq l0 x1_1 x5_1 = some r) ∧ Aside0 (kq ≤ k) ∧ Aside0 (Below w.heap.size w w'))
 case atStart => exact ⟨(a1), (0), ab6, ab6, H', ⟨Nat.le_refl _⟩, ⟨ab1⟩⟩
 case round =>
  clear H'
  try clear p2
  obtain ⟨x1_1, x5_1, rfl, rfl, HA, HK1, HB⟩ := hrel
  cases gk with
  | zero => exact absurd HA.out (by simp [laws_heldAttrS.l0])
  | succ k1 =>
   have H := HA.out
   clear HA
   simp only [laws_heldAttrS.l0] at H
   replace H := ir_ H; rcases H with ⟨c3b0, H⟩ | ⟨c3b0, H⟩
   ·replace H := iq_ H; obtain ⟨c4b0, H⟩ := H
    replace H := bi_ H; obtain ⟨t194, A5, H⟩ := H
    replace H := ie_ H; rcases H with ⟨c6b0, c6b1, H⟩ | ⟨c6, c6b0, c6b1, H⟩
    ·replace H := bi_ H; obtain ⟨t196, A7, H⟩ := H
     replace H := ie_ H; rcases H with ⟨c8b0, c8b1, H⟩ | ⟨c8, c8b0, c8b1, H⟩
     ·have H' := am H
      clear H
      try go_wp2
      replace HB := am (below_drew1 HB.out)
      obtain ⟨p193, q193, ad193, rfl, hx193_0, hx193_1, hw193⟩ := osT56 HB HR0.out x5_1 (of_decide_eq_true ab4) (of_decide_eq_true ab4)
      refine start_ (n := 8) (ds := []) #[false, false, false, false, false, false, false, false] (by kernel_rfl) rfl rfl (spT56 HB hw193 tr_ :) (fun hHeld => ?_); refine with_tabW laws_heldAttrS.tab4 laws_heldAttrS.bits4 (fun HT_ HW_ => ?_)
      generalize wr.drew = w9 at HB hx193_0 hx193_1 hHeld ⊢
      refine pa_ 0 12 HT_ ?_
      refine pa_ 1 13 HT_ ?_
      refine pa_ 2 14 HT_ ?_
      refine pa_ 3 15 HT_ ?_
      refine pa_ 5 17 HT_ ?_
      refine tk_ 4 16 HT_ HW_ hHeld ?_
      refine on_ 6 18 HT_ fun K hK => ?_
      refine goes_ Tryz.func40 (by kernel_rfl) rfl #[.int .i64 x1_1] (by rfl) rfl rfl ab5 ?_
      with_reducible refine (laws_markText.calls k1 x1_1 t194 _ A5.out).mono ?_
      rintro e w10 ⟨rfl, hb⟩
      refine ⟨_, rfl, ?_⟩
      replace HB := am (below_step ab1 hb)
      (try clear hb)
      refine hK.out _ _ (spT56 HB hw193 tr_ :) (fun hHeld => ?_)
      clear hK K
      refine nm_ ?_
      refine pa_ 7 19 HT_ ?_
      refine dn_ HT_ ?_
      try go_wp2
      replace HB := am (below_drew1 HB.out)
      obtain ⟨p195, q195, hx195_0, hx195_1, hw195⟩ := ahT56 HB HR0.out x5_1 (of_decide_eq_true ab4) (of_decide_eq_true ab4)
      refine start_ (n := 8) (ds := []) #[false, false, false, false, false, false, false, false] (by kernel_rfl) rfl rfl (spT56 HB hw195 tr_ :) (fun hHeld => ?_); refine with_tabW laws_heldAttrS.tab7 laws_heldAttrS.bits7 (fun HT_ HW_ => ?_)
      generalize w10.drew = w11 at HB hx195_0 hx195_1 hHeld ⊢
      refine pa_ 0 22 HT_ ?_
      refine pa_ 1 23 HT_ ?_
      refine pa_ 2 24 HT_ ?_
      refine pa_ 3 25 HT_ ?_
      refine pa_ 5 27 HT_ ?_
      refine tk_ 4 26 HT_ HW_ hHeld ?_
      refine on_ 6 28 HT_ fun K hK => ?_
      refine goes_ Tryz.func40 (by kernel_rfl) rfl #[.int .i64 (wrap64 (x1_1 + 1))] (by rfl) rfl rfl ab5 ?_
      with_reducible refine (laws_markText.calls k1 (wrap64 (x1_1 + 1)) t196 _ A7.out).mono ?_
      rintro e w12 ⟨rfl, hb⟩
      refine ⟨_, rfl, ?_⟩
      replace HB := am (below_step ab1 hb)
      (try clear hb)
      refine hK.out _ _ (spT56 HB hw195 tr_ :) (fun hHeld => ?_)
      clear hK K
      refine nm_ ?_
      refine pa_ 7 29 HT_ ?_
      refine dn_ HT_ ?_
      try go_wp2
      go_roundg k1
      case measure => have := HK1.out; omega
      case rel => exact ⟨(wrap64 ((wrap64 (x1_1 + 1)) + 1)), (wrap64 (x5_1 + 1)), ab6, ab6, H', ⟨by have := HK1.out; omega⟩, ⟨ab1⟩⟩
     ·obtain rfl := Option.some.inj H
      try go_wp2
      replace HB := am (below_drew1 HB.out)
      obtain ⟨p193, q193, ad193, rfl, hx193_0, hx193_1, hw193⟩ := osT56 HB HR0.out x5_1 (of_decide_eq_true ab4) (of_decide_eq_true ab4)
      refine start_ (n := 8) (ds := []) #[false, false, false, false, false, false, false, false] (by kernel_rfl) rfl rfl (spT56 HB hw193 tr_ :) (fun hHeld => ?_); refine with_tabW laws_heldAttrS.tab4 laws_heldAttrS.bits4 (fun HT_ HW_ => ?_)
      generalize wr.drew = w13 at HB hx193_0 hx193_1 hHeld ⊢
      refine pa_ 0 12 HT_ ?_
      refine pa_ 1 13 HT_ ?_
      refine pa_ 2 14 HT_ ?_
      refine pa_ 3 15 HT_ ?_
      refine pa_ 5 17 HT_ ?_
      refine tk_ 4 16 HT_ HW_ hHeld ?_
      refine on_ 6 18 HT_ fun K hK => ?_
      refine goes_ Tryz.func40 (by kernel_rfl) rfl #[.int .i64 x1_1] (by rfl) rfl rfl ab5 ?_
      with_reducible refine (laws_markText.calls k1 x1_1 t194 _ A5.out).mono ?_
      rintro e w14 ⟨rfl, hb⟩
      refine ⟨_, rfl, ?_⟩
      replace HB := am (below_step ab1 hb)
      (try clear hb)
      refine hK.out _ _ (spT56 HB hw193 tr_ :) (fun hHeld => ?_)
      clear hK K
      refine nm_ ?_
      refine pa_ 7 19 HT_ ?_
      refine dn_ HT_ ?_
      try go_wp2
      replace HB := am (below_drew1 HB.out)
      obtain ⟨p195, q195, hx195_0, hx195_1, hw195⟩ := ahT56 HB HR0.out x5_1 (of_decide_eq_true ab4) (of_decide_eq_true ab4)
      refine start_ (n := 8) (ds := []) #[false, false, false, false, false, false, false, false] (by kernel_rfl) rfl rfl (spT56 HB hw195 tr_ :) (fun hHeld => ?_); refine with_tabW laws_heldAttrS.tab7 laws_heldAttrS.bits7 (fun HT_ HW_ => ?_)
      generalize w14.drew = w15 at HB hx195_0 hx195_1 hHeld ⊢
      refine pa_ 0 22 HT_ ?_
      refine pa_ 1 23 HT_ ?_
      refine pa_ 2 24 HT_ ?_
      refine pa_ 3 25 HT_ ?_
      refine pa_ 5 27 HT_ ?_
      refine tk_ 4 26 HT_ HW_ hHeld ?_
      refine on_ 6 28 HT_ fun K hK => ?_
      refine goes_ Tryz.func40 (by kernel_rfl) rfl #[.int .i64 (wrap64 (x1_1 + 1))] (by rfl) rfl rfl ab5 ?_
      with_reducible refine (laws_markText.calls k1 (wrap64 (x1_1 + 1)) t196 _ A7.out).mono ?_
      rintro e w16 ⟨rfl, hb⟩
      refine ⟨_, rfl, ?_⟩
      replace HB := am (below_step ab1 hb)
      (try clear hb)
      refine hK.out _ _ (spT56 HB hw195 tr_ :) (fun hHeld => ?_)
      clear hK K
      refine nm_ ?_
      refine pa_ 7 29 HT_ ?_
      refine dn_ HT_ ?_
      try go_wp2
      go_ret
      exact ⟨ab7, ab1⟩
    ·obtain rfl := Option.some.inj H
     try go_wp2
     replace HB := am (below_drew1 HB.out)
     obtain ⟨p193, q193, ad193, rfl, hx193_0, hx193_1, hw193⟩ := osT56 HB HR0.out x5_1 (of_decide_eq_true ab4) (of_decide_eq_true ab4)
     refine start_ (n := 8) (ds := []) #[false, false, false, false, false, false, false, false] (by kernel_rfl) rfl rfl (spT56 HB hw193 tr_ :) (fun hHeld => ?_); refine with_tabW laws_heldAttrS.tab4 laws_heldAttrS.bits4 (fun HT_ HW_ => ?_)
     generalize wr.drew = w17 at HB hx193_0 hx193_1 hHeld ⊢
     refine pa_ 0 12 HT_ ?_
     refine pa_ 1 13 HT_ ?_
     refine pa_ 2 14 HT_ ?_
     refine pa_ 3 15 HT_ ?_
     refine pa_ 5 17 HT_ ?_
     refine tk_ 4 16 HT_ HW_ hHeld ?_
     refine on_ 6 18 HT_ fun K hK => ?_
     refine goes_ Tryz.func40 (by kernel_rfl) rfl #[.int .i64 x1_1] (by rfl) rfl rfl ab5 ?_
     with_reducible refine (laws_markText.calls k1 x1_1 t194 _ A5.out).mono ?_
     rintro e w18 ⟨rfl, hb⟩
     refine ⟨_, rfl, ?_⟩
     replace HB := am (below_step ab1 hb)
     (try clear hb)
     refine hK.out _ _ (spT56 HB hw193 tr_ :) (fun hHeld => ?_)
     clear hK K
     refine nm_ ?_
     refine pa_ 7 19 HT_ ?_
     refine dn_ HT_ ?_
     try go_wp2
     go_ret
     exact ⟨ab7, ab1⟩
   ·obtain rfl := Option.some.inj H
    go_wp2
    go_ret
    exact ⟨ab7, ab1⟩
def laws_heldItemS.l0 : Nat → List (S53) → Int → Int → Option (Int)
 | 0, _, _, _ => none
 | k + 1, x0, x1, x5 => if x5 < (x0.length : Int) then (if 0 ≤ x5 then (if ((rd_T53 x0 x5).f0) = x1 then (if ((rd_T53 x0 x5).f1) = (wrap64 (x1 + 1)) then ((laws_markText.f k (wrap64 ((wrap64 (x1 + 1)) + 1))).bind fun t200 => (if ((rd_T53 x0 x5).f2).toList = t200.toList then ((laws_heldAttrS.f k ((rd_T53 x0 x5).f3) (wrap64 ((wrap64 ((wrap64 (x1 + 1)) + 1)) + 1))).bind fun t202 => (if t202 < 0 then (some (-1)) else ((laws_markText.f k t202).bind fun t204 => (if ((rd_T53 x0 x5).f4).toList = t204.toList then (if ((rd_T53 x0 x5).f5) = (wrap64 (t202 + 1)) then ((laws_heldIntS.f k ((rd_T53 x0 x5).f6) (wrap64 ((wrap64 (t202 + 1)) + 1))).bind fun t207 => (if t207 < 0 then (some (-1)) else (laws_heldItemS.l0 k x0 t207 (wrap64 (x5 + 1))))) else (some (-1))) else (some (-1)))))) else (some (-1)))) else (some (-1))) else (some (-1))) else (none)) else (some x1)
def laws_heldItemS.f (k : Nat) (l0 : List (S53)) (a1 : Int) : Option (Int) := laws_heldItemS.l0 k l0 a1 0
def laws_heldItemS.T10 : Bool × List (List Nat × List Nat) := (true, [([], []), ([], []), ([0, 1], [0, 1]), ([2], [2]), ([3], [3]), ([], []), ([5], [5]), ([4, 6], [4, 6])])
def laws_heldItemS.B10 : List Nat := [0, 0, 3, 7, 15, 0, 32, 127]
theorem laws_heldItemS.tab10 : rtab .any (opsOf Tryz.f41 10) = laws_heldItemS.T10 := by kernel_rfl
theorem laws_heldItemS.bits10 : waitsOk laws_heldItemS.T10.2 laws_heldItemS.B10 = true := by kernel_rfl
def laws_heldItemS.T16 : Bool × List (List Nat × List Nat) := (true, [([], []), ([], []), ([0, 1], [0, 1]), ([2], [2]), ([3], [3]), ([], []), ([5], [5]), ([4, 6], [4, 6])])
def laws_heldItemS.B16 : List Nat := [0, 0, 3, 7, 15, 0, 32, 127]
theorem laws_heldItemS.tab16 : rtab .any (opsOf Tryz.f41 16) = laws_heldItemS.T16 := by kernel_rfl
theorem laws_heldItemS.bits16 : waitsOk laws_heldItemS.T16.2 laws_heldItemS.B16 = true := by kernel_rfl
theorem laws_heldItemS.calls (k : Nat) (A0 : Option Addr) (c0 : Nat) (l0 : List (S53)) (a1 : Int) (r : Int) (w : World) (hr0 : Kd.C k53 w A0 l0.length l0) (hc0 : l0.length ≤ c0) (h : laws_heldItemS.f k l0 a1 = some r) :
  Calls Tryz.prog 41 #[.slice A0 l0.length c0, .int .i64 a1] w fun e w' => e = .returned (.int .i64 r) ∧ Below w.heap.size w w' := by
 have HR0 := am hr0
 have HC0 := am hc0
 clear hr0 hc0
 have HB := am (Below.refl w.heap.size w)
 have H : (laws_heldItemS.l0 k l0 a1 0) = some r := h
 clear h
 have H' := am H
 clear H
 go_enter Tryz.func41, Tryz.ntmps41
 go_wp2
 go_loopg [1, 5] k (fun kq v1 v5 w' => ∃ (x1_1 : Int) (x5_1 : Int), v1 = .int .i64 x1_1 ∧ v5 = .int .i64 x5_1 ∧ Aside0 (laws_heldItemS.l0 kq l0 x1_1 x5_1 = some r) ∧ Aside0 (kq ≤ k) ∧ Aside0 (Below w.heap.size w w'))
 case atStart => exact ⟨(a1), (0), ab6, ab6, H', ⟨Nat.le_refl _⟩, ⟨ab1⟩⟩
 case round =>
  clear H'
  try clear p2
  obtain ⟨x1_1, x5_1, rfl, rfl, HA, HK1, HB⟩ := hrel
  cases gk with
  | zero => exact absurd HA.out (by simp [laws_heldItemS.l0])
  | succ k1 =>
   have H := HA.out
   clear HA
   simp only [laws_heldItemS.l0] at H
   replace H := ir_ H; rcases H with ⟨c3b0, H⟩ | ⟨c3b0, H⟩
   ·replace H := iq_ H; obtain ⟨c4b0, H⟩ := H
    replace H := ie_ H; rcases H with ⟨c5b0, c5b1, H⟩ | ⟨c5, c5b0, c5b1, H⟩
    ·replace H := ie_ H; rcases H with ⟨c6b0, c6b1, H⟩ | ⟨c6, c6b0, c6b1, H⟩
     ·replace H := bi_ H; obtain ⟨t200, A7, H⟩ := H
      replace H := ie_ H; rcases H with ⟨c8b0, c8b1, H⟩ | ⟨c8, c8b0, c8b1, H⟩
      ·replace H := bi_ H; obtain ⟨t202, A9, H⟩ := H
       replace H := ir_ H; rcases H with ⟨c10b0, H⟩ | ⟨c10b0, H⟩
       ·obtain rfl := Option.some.inj H
        obtain ⟨p197, q197, ad197, A197_3, c197_3, A197_6, c197_6, rfl, hx197_0, hx197_1, hx197_2, hx197_3, hx197_4, hx197_5, hx197_6, HC197_3, HR197_3, HC197_6, HR197_6⟩ := otT53 HB HR0.out x5_1 (of_decide_eq_true ab4) (of_decide_eq_true ab4)
        obtain ⟨p198, q198, A198_3, c198_3, A198_6, c198_6, hx198_0, hx198_1, hx198_2, hx198_3, hx198_4, hx198_5, hx198_6, HC198_3, HR198_3, HC198_6, HR198_6⟩ := agT53 HB HR0.out x5_1 (of_decide_eq_true ab4) (of_decide_eq_true ab4)
        obtain ⟨rfl, rfl⟩ := sl_ hx197_3 hx198_3
        obtain ⟨rfl, rfl⟩ := sl_ hx197_6 hx198_6
        try go_wp2
        replace HB := am (below_drew1 HB.out)
        obtain ⟨p199, q199, A199_3, c199_3, A199_6, c199_6, hx199_0, hx199_1, hx199_2, hx199_3, hx199_4, hx199_5, hx199_6, HC199_3, HR199_3, HC199_6, HR199_6, hw199⟩ := ahT53 HB HR0.out x5_1 (of_decide_eq_true ab4) (of_decide_eq_true ab4)
        refine start_ (n := 8) (ds := []) #[false, false, false, false, false, false, false, false] (by kernel_rfl) rfl rfl (spT53 HB hw199 tr_ :) (fun hHeld => ?_); refine with_tabW laws_heldItemS.tab10 laws_heldItemS.bits10 (fun HT_ HW_ => ?_)
        generalize wr.drew = w11 at HB HR199_3 HR199_6 hx199_0 hx199_1 hx199_2 hx199_3 hx199_4 hx199_5 hx199_6 hHeld ⊢
        refine pa_ 0 30 HT_ ?_
        refine pa_ 1 31 HT_ ?_
        refine pa_ 2 32 HT_ ?_
        refine pa_ 3 33 HT_ ?_
        refine pa_ 5 35 HT_ ?_
        refine tk_ 4 34 HT_ HW_ hHeld ?_
        refine on_ 6 36 HT_ fun K hK => ?_
        refine goes_ Tryz.func40 (by kernel_rfl) rfl #[.int .i64 (wrap64 ((wrap64 (x1_1 + 1)) + 1))] (by rfl) rfl rfl ab5 ?_
        with_reducible refine (laws_markText.calls k1 (wrap64 ((wrap64 (x1_1 + 1)) + 1)) t200 _ A7.out).mono ?_
        rintro e w12 ⟨rfl, hb⟩
        refine ⟨_, rfl, ?_⟩
        replace HB := am (below_step ab1 hb)
        (try clear hb)
        refine hK.out _ _ (spT53 HB hw199 tr_ :) (fun hHeld => ?_)
        clear hK K
        refine nm_ ?_
        refine pa_ 7 37 HT_ ?_
        refine dn_ HT_ ?_
        (try clear hHeld)
        obtain ⟨p201, q201, A201_3, c201_3, A201_6, c201_6, hx201_0, hx201_1, hx201_2, hx201_3, hx201_4, hx201_5, hx201_6, HC201_3, HR201_3, HC201_6, HR201_6⟩ := agT53 HB HR0.out x5_1 (of_decide_eq_true ab4) (of_decide_eq_true ab4)
        try go_wp2_with (first | ((with_reducible refine gf_ 69 ?_); refine gc_ Tryz.func69 (laws_heldAttrS.calls k1 _ _ ((rd_T53 l0 x5_1).f3) (wrap64 ((wrap64 ((wrap64 (x1_1 + 1)) + 1)) + 1)) t202 _ (sc_ HR201_3) HC201_3.out A9.out) ?_; rintro w13 hb; replace HB := am (below_step ab1 hb); (try clear hb)))
        go_ret
        exact ⟨ab7, ab1⟩
       ·replace H := bi_ H; obtain ⟨t204, A14, H⟩ := H
        replace H := ie_ H; rcases H with ⟨c15b0, c15b1, H⟩ | ⟨c15, c15b0, c15b1, H⟩
        ·replace H := ie_ H; rcases H with ⟨c16b0, c16b1, H⟩ | ⟨c16, c16b0, c16b1, H⟩
         ·replace H := bi_ H; obtain ⟨t207, A17, H⟩ := H
          replace H := ir_ H; rcases H with ⟨c18b0, H⟩ | ⟨c18b0, H⟩
          ·obtain rfl := Option.some.inj H
           obtain ⟨p197, q197, ad197, A197_3, c197_3, A197_6, c197_6, rfl, hx197_0, hx197_1, hx197_2, hx197_3, hx197_4, hx197_5, hx197_6, HC197_3, HR197_3, HC197_6, HR197_6⟩ := otT53 HB HR0.out x5_1 (of_decide_eq_true ab4) (of_decide_eq_true ab4)
           obtain ⟨p198, q198, A198_3, c198_3, A198_6, c198_6, hx198_0, hx198_1, hx198_2, hx198_3, hx198_4, hx198_5, hx198_6, HC198_3, HR198_3, HC198_6, HR198_6⟩ := agT53 HB HR0.out x5_1 (of_decide_eq_true ab4) (of_decide_eq_true ab4)
           obtain ⟨rfl, rfl⟩ := sl_ hx197_3 hx198_3
           obtain ⟨rfl, rfl⟩ := sl_ hx197_6 hx198_6
           try go_wp2
           replace HB := am (below_drew1 HB.out)
           obtain ⟨p199, q199, A199_3, c199_3, A199_6, c199_6, hx199_0, hx199_1, hx199_2, hx199_3, hx199_4, hx199_5, hx199_6, HC199_3, HR199_3, HC199_6, HR199_6, hw199⟩ := ahT53 HB HR0.out x5_1 (of_decide_eq_true ab4) (of_decide_eq_true ab4)
           refine start_ (n := 8) (ds := []) #[false, false, false, false, false, false, false, false] (by kernel_rfl) rfl rfl (spT53 HB hw199 tr_ :) (fun hHeld => ?_); refine with_tabW laws_heldItemS.tab10 laws_heldItemS.bits10 (fun HT_ HW_ => ?_)
           generalize wr.drew = w19 at HB HR199_3 HR199_6 hx199_0 hx199_1 hx199_2 hx199_3 hx199_4 hx199_5 hx199_6 hHeld ⊢
           refine pa_ 0 30 HT_ ?_
           refine pa_ 1 31 HT_ ?_
           refine pa_ 2 32 HT_ ?_
           refine pa_ 3 33 HT_ ?_
           refine pa_ 5 35 HT_ ?_
           refine tk_ 4 34 HT_ HW_ hHeld ?_
           refine on_ 6 36 HT_ fun K hK => ?_
           refine goes_ Tryz.func40 (by kernel_rfl) rfl #[.int .i64 (wrap64 ((wrap64 (x1_1 + 1)) + 1))] (by rfl) rfl rfl ab5 ?_
           with_reducible refine (laws_markText.calls k1 (wrap64 ((wrap64 (x1_1 + 1)) + 1)) t200 _ A7.out).mono ?_
           rintro e w20 ⟨rfl, hb⟩
           refine ⟨_, rfl, ?_⟩
           replace HB := am (below_step ab1 hb)
           (try clear hb)
           refine hK.out _ _ (spT53 HB hw199 tr_ :) (fun hHeld => ?_)
           clear hK K
           refine nm_ ?_
           refine pa_ 7 37 HT_ ?_
           refine dn_ HT_ ?_
           (try clear hHeld)
           obtain ⟨p201, q201, A201_3, c201_3, A201_6, c201_6, hx201_0, hx201_1, hx201_2, hx201_3, hx201_4, hx201_5, hx201_6, HC201_3, HR201_3, HC201_6, HR201_6⟩ := agT53 HB HR0.out x5_1 (of_decide_eq_true ab4) (of_decide_eq_true ab4)
           try go_wp2_with (first | ((with_reducible refine gf_ 69 ?_); refine gc_ Tryz.func69 (laws_heldAttrS.calls k1 _ _ ((rd_T53 l0 x5_1).f3) (wrap64 ((wrap64 ((wrap64 (x1_1 + 1)) + 1)) + 1)) t202 _ (sc_ HR201_3) HC201_3.out A9.out) ?_; rintro w21 hb; replace HB := am (below_step ab1 hb); (try clear hb)))
           replace HB := am (below_drew1 HB.out)
           obtain ⟨p203, q203, A203_3, c203_3, A203_6, c203_6, hx203_0, hx203_1, hx203_2, hx203_3, hx203_4, hx203_5, hx203_6, HC203_3, HR203_3, HC203_6, HR203_6, hw203⟩ := ahT53 HB HR0.out x5_1 (of_decide_eq_true ab4) (of_decide_eq_true ab4)
           refine start_ (n := 8) (ds := []) #[false, false, false, false, false, false, false, false] (by kernel_rfl) rfl rfl (spT53 HB hw203 tr_ :) (fun hHeld => ?_); refine with_tabW laws_heldItemS.tab16 laws_heldItemS.bits16 (fun HT_ HW_ => ?_)
           generalize w21.drew = w22 at HB HR203_3 HR203_6 hx203_0 hx203_1 hx203_2 hx203_3 hx203_4 hx203_5 hx203_6 hHeld ⊢
           refine pa_ 0 49 HT_ ?_
           refine pa_ 1 50 HT_ ?_
           refine pa_ 2 51 HT_ ?_
           refine pa_ 3 52 HT_ ?_
           refine pa_ 5 54 HT_ ?_
           refine tk_ 4 53 HT_ HW_ hHeld ?_
           refine on_ 6 55 HT_ fun K hK => ?_
           refine goes_ Tryz.func40 (by kernel_rfl) rfl #[.int .i64 t202] (by rfl) rfl rfl ab5 ?_
           with_reducible refine (laws_markText.calls k1 t202 t204 _ A14.out).mono ?_
           rintro e w23 ⟨rfl, hb⟩
           refine ⟨_, rfl, ?_⟩
           replace HB := am (below_step ab1 hb)
           (try clear hb)
           refine hK.out _ _ (spT53 HB hw203 tr_ :) (fun hHeld => ?_)
           clear hK K
           refine nm_ ?_
           refine pa_ 7 56 HT_ ?_
           refine dn_ HT_ ?_
           (try clear hHeld)
           obtain ⟨p205, q205, A205_3, c205_3, A205_6, c205_6, hx205_0, hx205_1, hx205_2, hx205_3, hx205_4, hx205_5, hx205_6, HC205_3, HR205_3, HC205_6, HR205_6⟩ := agT53 HB HR0.out x5_1 (of_decide_eq_true ab4) (of_decide_eq_true ab4)
           obtain ⟨p206, q206, A206_3, c206_3, A206_6, c206_6, hx206_0, hx206_1, hx206_2, hx206_3, hx206_4, hx206_5, hx206_6, HC206_3, HR206_3, HC206_6, HR206_6⟩ := agT53 HB HR0.out x5_1 (of_decide_eq_true ab4) (of_decide_eq_true ab4)
           obtain ⟨rfl, rfl⟩ := sl_ hx205_3 hx206_3
           obtain ⟨rfl, rfl⟩ := sl_ hx205_6 hx206_6
           try go_wp2_with (first | ((with_reducible refine gf_ 42 ?_); refine gc_ Tryz.func42 (laws_heldIntS.calls k1 _ _ ((rd_T53 l0 x5_1).f6) (wrap64 ((wrap64 (t202 + 1)) + 1)) t207 _ (sc_ HR206_6) HC206_6.out A17.out) ?_; rintro w' ⟨nd, rfl⟩))
           go_ret
           exact ⟨ab7, ab1⟩
          ·have H' := am H
           clear H
           obtain ⟨p197, q197, ad197, A197_3, c197_3, A197_6, c197_6, rfl, hx197_0, hx197_1, hx197_2, hx197_3, hx197_4, hx197_5, hx197_6, HC197_3, HR197_3, HC197_6, HR197_6⟩ := otT53 HB HR0.out x5_1 (of_decide_eq_true ab4) (of_decide_eq_true ab4)
           obtain ⟨p198, q198, A198_3, c198_3, A198_6, c198_6, hx198_0, hx198_1, hx198_2, hx198_3, hx198_4, hx198_5, hx198_6, HC198_3, HR198_3, HC198_6, HR198_6⟩ := agT53 HB HR0.out x5_1 (of_decide_eq_true ab4) (of_decide_eq_true ab4)
           obtain ⟨rfl, rfl⟩ := sl_ hx197_3 hx198_3
           obtain ⟨rfl, rfl⟩ := sl_ hx197_6 hx198_6
           try go_wp2
           replace HB := am (below_drew1 HB.out)
           obtain ⟨p199, q199, A199_3, c199_3, A199_6, c199_6, hx199_0, hx199_1, hx199_2, hx199_3, hx199_4, hx199_5, hx199_6, HC199_3, HR199_3, HC199_6, HR199_6, hw199⟩ := ahT53 HB HR0.out x5_1 (of_decide_eq_true ab4) (of_decide_eq_true ab4)
           refine start_ (n := 8) (ds := []) #[false, false, false, false, false, false, false, false] (by kernel_rfl) rfl rfl (spT53 HB hw199 tr_ :) (fun hHeld => ?_); refine with_tabW laws_heldItemS.tab10 laws_heldItemS.bits10 (fun HT_ HW_ => ?_)
           generalize wr.drew = w24 at HB HR199_3 HR199_6 hx199_0 hx199_1 hx199_2 hx199_3 hx199_4 hx199_5 hx199_6 hHeld ⊢
           refine pa_ 0 30 HT_ ?_
           refine pa_ 1 31 HT_ ?_
           refine pa_ 2 32 HT_ ?_
           refine pa_ 3 33 HT_ ?_
           refine pa_ 5 35 HT_ ?_
           refine tk_ 4 34 HT_ HW_ hHeld ?_
           refine on_ 6 36 HT_ fun K hK => ?_
           refine goes_ Tryz.func40 (by kernel_rfl) rfl #[.int .i64 (wrap64 ((wrap64 (x1_1 + 1)) + 1))] (by rfl) rfl rfl ab5 ?_
           with_reducible refine (laws_markText.calls k1 (wrap64 ((wrap64 (x1_1 + 1)) + 1)) t200 _ A7.out).mono ?_
           rintro e w25 ⟨rfl, hb⟩
           refine ⟨_, rfl, ?_⟩
           replace HB := am (below_step ab1 hb)
           (try clear hb)
           refine hK.out _ _ (spT53 HB hw199 tr_ :) (fun hHeld => ?_)
           clear hK K
           refine nm_ ?_
           refine pa_ 7 37 HT_ ?_
           refine dn_ HT_ ?_
           (try clear hHeld)
           obtain ⟨p201, q201, A201_3, c201_3, A201_6, c201_6, hx201_0, hx201_1, hx201_2, hx201_3, hx201_4, hx201_5, hx201_6, HC201_3, HR201_3, HC201_6, HR201_6⟩ := agT53 HB HR0.out x5_1 (of_decide_eq_true ab4) (of_decide_eq_true ab4)
           try go_wp2_with (first | ((with_reducible refine gf_ 69 ?_); refine gc_ Tryz.func69 (laws_heldAttrS.calls k1 _ _ ((rd_T53 l0 x5_1).f3) (wrap64 ((wrap64 ((wrap64 (x1_1 + 1)) + 1)) + 1)) t202 _ (sc_ HR201_3) HC201_3.out A9.out) ?_; rintro w26 hb; replace HB := am (below_step ab1 hb); (try clear hb)))
           replace HB := am (below_drew1 HB.out)
           obtain ⟨p203, q203, A203_3, c203_3, A203_6, c203_6, hx203_0, hx203_1, hx203_2, hx203_3, hx203_4, hx203_5, hx203_6, HC203_3, HR203_3, HC203_6, HR203_6, hw203⟩ := ahT53 HB HR0.out x5_1 (of_decide_eq_true ab4) (of_decide_eq_true ab4)
           refine start_ (n := 8) (ds := []) #[false, false, false, false, false, false, false, false] (by kernel_rfl) rfl rfl (spT53 HB hw203 tr_ :) (fun hHeld => ?_); refine with_tabW laws_heldItemS.tab16 laws_heldItemS.bits16 (fun HT_ HW_ => ?_)
           generalize w26.drew = w27 at HB HR203_3 HR203_6 hx203_0 hx203_1 hx203_2 hx203_3 hx203_4 hx203_5 hx203_6 hHeld ⊢
           refine pa_ 0 49 HT_ ?_
           refine pa_ 1 50 HT_ ?_
           refine pa_ 2 51 HT_ ?_
           refine pa_ 3 52 HT_ ?_
           refine pa_ 5 54 HT_ ?_
           refine tk_ 4 53 HT_ HW_ hHeld ?_
           refine on_ 6 55 HT_ fun K hK => ?_
           refine goes_ Tryz.func40 (by kernel_rfl) rfl #[.int .i64 t202] (by rfl) rfl rfl ab5 ?_
           with_reducible refine (laws_markText.calls k1 t202 t204 _ A14.out).mono ?_
           rintro e w28 ⟨rfl, hb⟩
           refine ⟨_, rfl, ?_⟩
           replace HB := am (below_step ab1 hb)
           (try clear hb)
           refine hK.out _ _ (spT53 HB hw203 tr_ :) (fun hHeld => ?_)
           clear hK K
           refine nm_ ?_
           refine pa_ 7 56 HT_ ?_
           refine dn_ HT_ ?_
           (try clear hHeld)
           obtain ⟨p205, q205, A205_3, c205_3, A205_6, c205_6, hx205_0, hx205_1, hx205_2, hx205_3, hx205_4, hx205_5, hx205_6, HC205_3, HR205_3, HC205_6, HR205_6⟩ := agT53 HB HR0.out x5_1 (of_decide_eq_true ab4) (of_decide_eq_true ab4)
           obtain ⟨p206, q206, A206_3, c206_3, A206_6, c206_6, hx206_0, hx206_1, hx206_2, hx206_3, hx206_4, hx206_5, hx206_6, HC206_3, HR206_3, HC206_6, HR206_6⟩ := agT53 HB HR0.out x5_1 (of_decide_eq_true ab4) (of_decide_eq_true ab4)
           obtain ⟨rfl, rfl⟩ := sl_ hx205_3 hx206_3
           obtain ⟨rfl, rfl⟩ := sl_ hx205_6 hx206_6
           try go_wp2_with (first | ((with_reducible refine gf_ 42 ?_); refine gc_ Tryz.func42 (laws_heldIntS.calls k1 _ _ ((rd_T53 l0 x5_1).f6) (wrap64 ((wrap64 (t202 + 1)) + 1)) t207 _ (sc_ HR206_6) HC206_6.out A17.out) ?_; rintro w' ⟨nd, rfl⟩))
           go_roundg k1
           case measure => have := HK1.out; omega
           case rel => exact ⟨(t207), (wrap64 (x5_1 + 1)), ab6, ab6, H', ⟨by have := HK1.out; omega⟩, ⟨ab1⟩⟩
         ·obtain rfl := Option.some.inj H
          obtain ⟨p197, q197, ad197, A197_3, c197_3, A197_6, c197_6, rfl, hx197_0, hx197_1, hx197_2, hx197_3, hx197_4, hx197_5, hx197_6, HC197_3, HR197_3, HC197_6, HR197_6⟩ := otT53 HB HR0.out x5_1 (of_decide_eq_true ab4) (of_decide_eq_true ab4)
          obtain ⟨p198, q198, A198_3, c198_3, A198_6, c198_6, hx198_0, hx198_1, hx198_2, hx198_3, hx198_4, hx198_5, hx198_6, HC198_3, HR198_3, HC198_6, HR198_6⟩ := agT53 HB HR0.out x5_1 (of_decide_eq_true ab4) (of_decide_eq_true ab4)
          obtain ⟨rfl, rfl⟩ := sl_ hx197_3 hx198_3
          obtain ⟨rfl, rfl⟩ := sl_ hx197_6 hx198_6
          try go_wp2
          replace HB := am (below_drew1 HB.out)
          obtain ⟨p199, q199, A199_3, c199_3, A199_6, c199_6, hx199_0, hx199_1, hx199_2, hx199_3, hx199_4, hx199_5, hx199_6, HC199_3, HR199_3, HC199_6, HR199_6, hw199⟩ := ahT53 HB HR0.out x5_1 (of_decide_eq_true ab4) (of_decide_eq_true ab4)
          refine start_ (n := 8) (ds := []) #[false, false, false, false, false, false, false, false] (by kernel_rfl) rfl rfl (spT53 HB hw199 tr_ :) (fun hHeld => ?_); refine with_tabW laws_heldItemS.tab10 laws_heldItemS.bits10 (fun HT_ HW_ => ?_)
          generalize wr.drew = w29 at HB HR199_3 HR199_6 hx199_0 hx199_1 hx199_2 hx199_3 hx199_4 hx199_5 hx199_6 hHeld ⊢
          refine pa_ 0 30 HT_ ?_
          refine pa_ 1 31 HT_ ?_
          refine pa_ 2 32 HT_ ?_
          refine pa_ 3 33 HT_ ?_
          refine pa_ 5 35 HT_ ?_
          refine tk_ 4 34 HT_ HW_ hHeld ?_
          refine on_ 6 36 HT_ fun K hK => ?_
          refine goes_ Tryz.func40 (by kernel_rfl) rfl #[.int .i64 (wrap64 ((wrap64 (x1_1 + 1)) + 1))] (by rfl) rfl rfl ab5 ?_
          with_reducible refine (laws_markText.calls k1 (wrap64 ((wrap64 (x1_1 + 1)) + 1)) t200 _ A7.out).mono ?_
          rintro e w30 ⟨rfl, hb⟩
          refine ⟨_, rfl, ?_⟩
          replace HB := am (below_step ab1 hb)
          (try clear hb)
          refine hK.out _ _ (spT53 HB hw199 tr_ :) (fun hHeld => ?_)
          clear hK K
          refine nm_ ?_
          refine pa_ 7 37 HT_ ?_
          refine dn_ HT_ ?_
          (try clear hHeld)
          obtain ⟨p201, q201, A201_3, c201_3, A201_6, c201_6, hx201_0, hx201_1, hx201_2, hx201_3, hx201_4, hx201_5, hx201_6, HC201_3, HR201_3, HC201_6, HR201_6⟩ := agT53 HB HR0.out x5_1 (of_decide_eq_true ab4) (of_decide_eq_true ab4)
          try go_wp2_with (first | ((with_reducible refine gf_ 69 ?_); refine gc_ Tryz.func69 (laws_heldAttrS.calls k1 _ _ ((rd_T53 l0 x5_1).f3) (wrap64 ((wrap64 ((wrap64 (x1_1 + 1)) + 1)) + 1)) t202 _ (sc_ HR201_3) HC201_3.out A9.out) ?_; rintro w31 hb; replace HB := am (below_step ab1 hb); (try clear hb)))
          replace HB := am (below_drew1 HB.out)
          obtain ⟨p203, q203, A203_3, c203_3, A203_6, c203_6, hx203_0, hx203_1, hx203_2, hx203_3, hx203_4, hx203_5, hx203_6, HC203_3, HR203_3, HC203_6, HR203_6, hw203⟩ := ahT53 HB HR0.out x5_1 (of_decide_eq_true ab4) (of_decide_eq_true ab4)
          refine start_ (n := 8) (ds := []) #[false, false, false, false, false, false, false, false] (by kernel_rfl) rfl rfl (spT53 HB hw203 tr_ :) (fun hHeld => ?_); refine with_tabW laws_heldItemS.tab16 laws_heldItemS.bits16 (fun HT_ HW_ => ?_)
          generalize w31.drew = w32 at HB HR203_3 HR203_6 hx203_0 hx203_1 hx203_2 hx203_3 hx203_4 hx203_5 hx203_6 hHeld ⊢
          refine pa_ 0 49 HT_ ?_
          refine pa_ 1 50 HT_ ?_
          refine pa_ 2 51 HT_ ?_
          refine pa_ 3 52 HT_ ?_
          refine pa_ 5 54 HT_ ?_
          refine tk_ 4 53 HT_ HW_ hHeld ?_
          refine on_ 6 55 HT_ fun K hK => ?_
          refine goes_ Tryz.func40 (by kernel_rfl) rfl #[.int .i64 t202] (by rfl) rfl rfl ab5 ?_
          with_reducible refine (laws_markText.calls k1 t202 t204 _ A14.out).mono ?_
          rintro e w33 ⟨rfl, hb⟩
          refine ⟨_, rfl, ?_⟩
          replace HB := am (below_step ab1 hb)
          (try clear hb)
          refine hK.out _ _ (spT53 HB hw203 tr_ :) (fun hHeld => ?_)
          clear hK K
          refine nm_ ?_
          refine pa_ 7 56 HT_ ?_
          refine dn_ HT_ ?_
          (try clear hHeld)
          obtain ⟨p205, q205, A205_3, c205_3, A205_6, c205_6, hx205_0, hx205_1, hx205_2, hx205_3, hx205_4, hx205_5, hx205_6, HC205_3, HR205_3, HC205_6, HR205_6⟩ := agT53 HB HR0.out x5_1 (of_decide_eq_true ab4) (of_decide_eq_true ab4)
          try go_wp2
          go_ret
          exact ⟨ab7, ab1⟩
        ·obtain rfl := Option.some.inj H
         obtain ⟨p197, q197, ad197, A197_3, c197_3, A197_6, c197_6, rfl, hx197_0, hx197_1, hx197_2, hx197_3, hx197_4, hx197_5, hx197_6, HC197_3, HR197_3, HC197_6, HR197_6⟩ := otT53 HB HR0.out x5_1 (of_decide_eq_true ab4) (of_decide_eq_true ab4)
         obtain ⟨p198, q198, A198_3, c198_3, A198_6, c198_6, hx198_0, hx198_1, hx198_2, hx198_3, hx198_4, hx198_5, hx198_6, HC198_3, HR198_3, HC198_6, HR198_6⟩ := agT53 HB HR0.out x5_1 (of_decide_eq_true ab4) (of_decide_eq_true ab4)
         obtain ⟨rfl, rfl⟩ := sl_ hx197_3 hx198_3
         obtain ⟨rfl, rfl⟩ := sl_ hx197_6 hx198_6
         try go_wp2
         replace HB := am (below_drew1 HB.out)
         obtain ⟨p199, q199, A199_3, c199_3, A199_6, c199_6, hx199_0, hx199_1, hx199_2, hx199_3, hx199_4, hx199_5, hx199_6, HC199_3, HR199_3, HC199_6, HR199_6, hw199⟩ := ahT53 HB HR0.out x5_1 (of_decide_eq_true ab4) (of_decide_eq_true ab4)
         refine start_ (n := 8) (ds := []) #[false, false, false, false, false, false, false, false] (by kernel_rfl) rfl rfl (spT53 HB hw199 tr_ :) (fun hHeld => ?_); refine with_tabW laws_heldItemS.tab10 laws_heldItemS.bits10 (fun HT_ HW_ => ?_)
         generalize wr.drew = w34 at HB HR199_3 HR199_6 hx199_0 hx199_1 hx199_2 hx199_3 hx199_4 hx199_5 hx199_6 hHeld ⊢
         refine pa_ 0 30 HT_ ?_
         refine pa_ 1 31 HT_ ?_
         refine pa_ 2 32 HT_ ?_
         refine pa_ 3 33 HT_ ?_
         refine pa_ 5 35 HT_ ?_
         refine tk_ 4 34 HT_ HW_ hHeld ?_
         refine on_ 6 36 HT_ fun K hK => ?_
         refine goes_ Tryz.func40 (by kernel_rfl) rfl #[.int .i64 (wrap64 ((wrap64 (x1_1 + 1)) + 1))] (by rfl) rfl rfl ab5 ?_
         with_reducible refine (laws_markText.calls k1 (wrap64 ((wrap64 (x1_1 + 1)) + 1)) t200 _ A7.out).mono ?_
         rintro e w35 ⟨rfl, hb⟩
         refine ⟨_, rfl, ?_⟩
         replace HB := am (below_step ab1 hb)
         (try clear hb)
         refine hK.out _ _ (spT53 HB hw199 tr_ :) (fun hHeld => ?_)
         clear hK K
         refine nm_ ?_
         refine pa_ 7 37 HT_ ?_
         refine dn_ HT_ ?_
         (try clear hHeld)
         obtain ⟨p201, q201, A201_3, c201_3, A201_6, c201_6, hx201_0, hx201_1, hx201_2, hx201_3, hx201_4, hx201_5, hx201_6, HC201_3, HR201_3, HC201_6, HR201_6⟩ := agT53 HB HR0.out x5_1 (of_decide_eq_true ab4) (of_decide_eq_true ab4)
         try go_wp2_with (first | ((with_reducible refine gf_ 69 ?_); refine gc_ Tryz.func69 (laws_heldAttrS.calls k1 _ _ ((rd_T53 l0 x5_1).f3) (wrap64 ((wrap64 ((wrap64 (x1_1 + 1)) + 1)) + 1)) t202 _ (sc_ HR201_3) HC201_3.out A9.out) ?_; rintro w36 hb; replace HB := am (below_step ab1 hb); (try clear hb)))
         replace HB := am (below_drew1 HB.out)
         obtain ⟨p203, q203, A203_3, c203_3, A203_6, c203_6, hx203_0, hx203_1, hx203_2, hx203_3, hx203_4, hx203_5, hx203_6, HC203_3, HR203_3, HC203_6, HR203_6, hw203⟩ := ahT53 HB HR0.out x5_1 (of_decide_eq_true ab4) (of_decide_eq_true ab4)
         refine start_ (n := 8) (ds := []) #[false, false, false, false, false, false, false, false] (by kernel_rfl) rfl rfl (spT53 HB hw203 tr_ :) (fun hHeld => ?_); refine with_tabW laws_heldItemS.tab16 laws_heldItemS.bits16 (fun HT_ HW_ => ?_)
         generalize w36.drew = w37 at HB HR203_3 HR203_6 hx203_0 hx203_1 hx203_2 hx203_3 hx203_4 hx203_5 hx203_6 hHeld ⊢
         refine pa_ 0 49 HT_ ?_
         refine pa_ 1 50 HT_ ?_
         refine pa_ 2 51 HT_ ?_
         refine pa_ 3 52 HT_ ?_
         refine pa_ 5 54 HT_ ?_
         refine tk_ 4 53 HT_ HW_ hHeld ?_
         refine on_ 6 55 HT_ fun K hK => ?_
         refine goes_ Tryz.func40 (by kernel_rfl) rfl #[.int .i64 t202] (by rfl) rfl rfl ab5 ?_
         with_reducible refine (laws_markText.calls k1 t202 t204 _ A14.out).mono ?_
         rintro e w38 ⟨rfl, hb⟩
         refine ⟨_, rfl, ?_⟩
         replace HB := am (below_step ab1 hb)
         (try clear hb)
         refine hK.out _ _ (spT53 HB hw203 tr_ :) (fun hHeld => ?_)
         clear hK K
         refine nm_ ?_
         refine pa_ 7 56 HT_ ?_
         refine dn_ HT_ ?_
         (try clear hHeld)
         try go_wp2
         go_ret
         exact ⟨ab7, ab1⟩
      ·obtain rfl := Option.some.inj H
       obtain ⟨p197, q197, ad197, A197_3, c197_3, A197_6, c197_6, rfl, hx197_0, hx197_1, hx197_2, hx197_3, hx197_4, hx197_5, hx197_6, HC197_3, HR197_3, HC197_6, HR197_6⟩ := otT53 HB HR0.out x5_1 (of_decide_eq_true ab4) (of_decide_eq_true ab4)
       obtain ⟨p198, q198, A198_3, c198_3, A198_6, c198_6, hx198_0, hx198_1, hx198_2, hx198_3, hx198_4, hx198_5, hx198_6, HC198_3, HR198_3, HC198_6, HR198_6⟩ := agT53 HB HR0.out x5_1 (of_decide_eq_true ab4) (of_decide_eq_true ab4)
       obtain ⟨rfl, rfl⟩ := sl_ hx197_3 hx198_3
       obtain ⟨rfl, rfl⟩ := sl_ hx197_6 hx198_6
       try go_wp2
       replace HB := am (below_drew1 HB.out)
       obtain ⟨p199, q199, A199_3, c199_3, A199_6, c199_6, hx199_0, hx199_1, hx199_2, hx199_3, hx199_4, hx199_5, hx199_6, HC199_3, HR199_3, HC199_6, HR199_6, hw199⟩ := ahT53 HB HR0.out x5_1 (of_decide_eq_true ab4) (of_decide_eq_true ab4)
       refine start_ (n := 8) (ds := []) #[false, false, false, false, false, false, false, false] (by kernel_rfl) rfl rfl (spT53 HB hw199 tr_ :) (fun hHeld => ?_); refine with_tabW laws_heldItemS.tab10 laws_heldItemS.bits10 (fun HT_ HW_ => ?_)
       generalize wr.drew = w39 at HB HR199_3 HR199_6 hx199_0 hx199_1 hx199_2 hx199_3 hx199_4 hx199_5 hx199_6 hHeld ⊢
       refine pa_ 0 30 HT_ ?_
       refine pa_ 1 31 HT_ ?_
       refine pa_ 2 32 HT_ ?_
       refine pa_ 3 33 HT_ ?_
       refine pa_ 5 35 HT_ ?_
       refine tk_ 4 34 HT_ HW_ hHeld ?_
       refine on_ 6 36 HT_ fun K hK => ?_
       refine goes_ Tryz.func40 (by kernel_rfl) rfl #[.int .i64 (wrap64 ((wrap64 (x1_1 + 1)) + 1))] (by rfl) rfl rfl ab5 ?_
       with_reducible refine (laws_markText.calls k1 (wrap64 ((wrap64 (x1_1 + 1)) + 1)) t200 _ A7.out).mono ?_
       rintro e w40 ⟨rfl, hb⟩
       refine ⟨_, rfl, ?_⟩
       replace HB := am (below_step ab1 hb)
       (try clear hb)
       refine hK.out _ _ (spT53 HB hw199 tr_ :) (fun hHeld => ?_)
       clear hK K
       refine nm_ ?_
       refine pa_ 7 37 HT_ ?_
       refine dn_ HT_ ?_
       (try clear hHeld)
       try go_wp2
       go_ret
       exact ⟨ab7, ab1⟩
     ·obtain rfl := Option.some.inj H
      obtain ⟨p197, q197, ad197, A197_3, c197_3, A197_6, c197_6, rfl, hx197_0, hx197_1, hx197_2, hx197_3, hx197_4, hx197_5, hx197_6, HC197_3, HR197_3, HC197_6, HR197_6⟩ := otT53 HB HR0.out x5_1 (of_decide_eq_true ab4) (of_decide_eq_true ab4)
      obtain ⟨p198, q198, A198_3, c198_3, A198_6, c198_6, hx198_0, hx198_1, hx198_2, hx198_3, hx198_4, hx198_5, hx198_6, HC198_3, HR198_3, HC198_6, HR198_6⟩ := agT53 HB HR0.out x5_1 (of_decide_eq_true ab4) (of_decide_eq_true ab4)
      obtain ⟨rfl, rfl⟩ := sl_ hx197_3 hx198_3
      obtain ⟨rfl, rfl⟩ := sl_ hx197_6 hx198_6
      go_wp2
      go_ret
      exact ⟨ab7, ab1⟩
    ·obtain rfl := Option.some.inj H
     obtain ⟨p197, q197, ad197, A197_3, c197_3, A197_6, c197_6, rfl, hx197_0, hx197_1, hx197_2, hx197_3, hx197_4, hx197_5, hx197_6, HC197_3, HR197_3, HC197_6, HR197_6⟩ := otT53 HB HR0.out x5_1 (of_decide_eq_true ab4) (of_decide_eq_true ab4)
     go_wp2
     go_ret
     exact ⟨ab7, ab1⟩
   ·obtain rfl := Option.some.inj H
    go_wp2
    go_ret
    exact ⟨ab7, ab1⟩
def laws_heldPage.f (k : Nat) (l0_0 : List (S53)) (l0_1 : List Int) (l0_2 : List Int) (a0_3 : Int) (a0_4 : Int) (a1 : Int) : Option (Int) := (laws_heldItemS.f k l0_0 a1).bind fun t209 => (if t209 < 0 then (some (-1)) else ((laws_heldIntS.f k l0_1 t209).bind fun t210 => (if t210 < 0 then (some (-1)) else ((laws_heldIntS.f k l0_2 t210).bind fun t211 => (if t211 < 0 then (some (-1)) else (some t211))))))
theorem laws_heldPage.calls (k : Nat) (A0_0 : Option Addr) (c0_0 : Nat) (l0_0 : List (S53)) (A0_1 : Option Addr) (c0_1 : Nat) (l0_1 : List Int) (A0_2 : Option Addr) (c0_2 : Nat) (l0_2 : List Int) (a0_3 : Int) (a0_4 : Int) (a1 : Int) (r : Int) (w : World) (hr0_0 : Kd.C k53 w A0_0 l0_0.length l0_0) (hc0_0 : l0_0.length ≤ c0_0) (hr0_1 : Kd.C (Kd.int .i64) w A0_1 l0_1.length l0_1) (hc0_1 : l0_1.length ≤ c0_1) (hr0_2 : Kd.C (Kd.int .i64) w A0_2 l0_2.length l0_2) (hc0_2 : l0_2.length ≤ c0_2) (h : laws_heldPage.f k l0_0 l0_1 l0_2 a0_3 a0_4 a1 = some r) :
  Calls Tryz.prog 16 #[.agg #[.slice A0_0 l0_0.length c0_0, .slice A0_1 l0_1.length c0_1, .slice A0_2 l0_2.length c0_2, .int .i64 a0_3, .int .i64 a0_4], .int .i64 a1] w fun e w' => e = .returned (.int .i64 r) ∧ Below w.heap.size w w' := by
 have hu31 := Tryz.underlying31
 have HR0_0 := am hr0_0
 have HC0_0 := am hc0_0
 clear hr0_0 hc0_0
 have HR0_1 := am hr0_1
 have HC0_1 := am hc0_1
 clear hr0_1 hc0_1
 have HR0_2 := am hr0_2
 have HC0_2 := am hc0_2
 clear hr0_2 hc0_2
 have HB := am (Below.refl w.heap.size w)
 have H : ((laws_heldItemS.f k l0_0 a1).bind fun t209 => (if t209 < 0 then (some (-1)) else ((laws_heldIntS.f k l0_1 t209).bind fun t210 => (if t210 < 0 then (some (-1)) else ((laws_heldIntS.f k l0_2 t210).bind fun t211 => (if t211 < 0 then (some (-1)) else (some t211))))))) = some r := h
 clear h
 replace H := bi_ H; obtain ⟨t209, A3, H⟩ := H
 replace H := ir_ H; rcases H with ⟨c4b0, H⟩ | ⟨c4b0, H⟩
 ·obtain rfl := Option.some.inj H
  go_enter Tryz.func16, Tryz.ntmps16
  go_wp2_with (first | ((with_reducible refine gd_ 2 ?_); refine bx_ 2 (cs := #[.slice A0_0 l0_0.length c0_0, .slice A0_1 l0_1.length c0_1, .slice A0_2 l0_2.length c0_2, .int .i64 a0_3, .int .i64 a0_4]) 31 ?_; intro gb208 hg w5 hbox hb; have BK208 := am hbox; have GW208 := ge_ (w := w) hg; have GE208 := ge_ (w := w) hg; replace HB := am (below_step ab1 hb); clear hb hbox hg; obtain ⟨⟨_, _, _, _, _⟩, _, _, _, _, _⟩ := Op.cells5 BK208.out) | ((with_reducible refine gf_ 41 ?_); refine gc_ Tryz.func41 (laws_heldItemS.calls k _ _ l0_0 a1 t209 _ (sc_ HR0_0) HC0_0.out A3.out) ?_; rintro w7 hb; replace BK208 := bl_ BK208 hb; replace HB := am (below_step (ab2 GE208) hb); (try clear hb)))
  go_ret
  exact ⟨ab7, ab2 GE208⟩
 ·replace H := bi_ H; obtain ⟨t210, A8, H⟩ := H
  replace H := ir_ H; rcases H with ⟨c9b0, H⟩ | ⟨c9b0, H⟩
  ·obtain rfl := Option.some.inj H
   go_enter Tryz.func16, Tryz.ntmps16
   go_wp2_with (first | ((with_reducible refine gd_ 2 ?_); refine bx_ 2 (cs := #[.slice A0_0 l0_0.length c0_0, .slice A0_1 l0_1.length c0_1, .slice A0_2 l0_2.length c0_2, .int .i64 a0_3, .int .i64 a0_4]) 31 ?_; intro gb208 hg w10 hbox hb; have BK208 := am hbox; have GW208 := ge_ (w := w) hg; have GE208 := ge_ (w := w) hg; replace HB := am (below_step ab1 hb); clear hb hbox hg; obtain ⟨⟨_, _, _, _, _⟩, _, _, _, _, _⟩ := Op.cells5 BK208.out) | ((with_reducible refine gf_ 41 ?_); refine gc_ Tryz.func41 (laws_heldItemS.calls k _ _ l0_0 a1 t209 _ (sc_ HR0_0) HC0_0.out A3.out) ?_; rintro w12 hb; replace BK208 := bl_ BK208 hb; replace HB := am (below_step (ab2 GE208) hb); (try clear hb); obtain ⟨⟨_, _, _, _, _⟩, _, _, _, _, _⟩ := Op.cells5 BK208.out) | ((with_reducible refine gf_ 42 ?_); refine gc_ Tryz.func42 (laws_heldIntS.calls k _ _ l0_1 t209 t210 _ (sc_ HR0_1) HC0_1.out A8.out) ?_; rintro w' ⟨nd, rfl⟩))
   go_ret
   exact ⟨ab7, ab2 GE208⟩
  ·replace H := bi_ H; obtain ⟨t211, A14, H⟩ := H
   replace H := ir_ H; rcases H with ⟨c15b0, H⟩ | ⟨c15b0, H⟩
   ·obtain rfl := Option.some.inj H
    go_enter Tryz.func16, Tryz.ntmps16
    go_wp2_with (first | ((with_reducible refine gd_ 2 ?_); refine bx_ 2 (cs := #[.slice A0_0 l0_0.length c0_0, .slice A0_1 l0_1.length c0_1, .slice A0_2 l0_2.length c0_2, .int .i64 a0_3, .int .i64 a0_4]) 31 ?_; intro gb208 hg w16 hbox hb; have BK208 := am hbox; have GW208 := ge_ (w := w) hg; have GE208 := ge_ (w := w) hg; replace HB := am (below_step ab1 hb); clear hb hbox hg; obtain ⟨⟨_, _, _, _, _⟩, _, _, _, _, _⟩ := Op.cells5 BK208.out) | ((with_reducible refine gf_ 41 ?_); refine gc_ Tryz.func41 (laws_heldItemS.calls k _ _ l0_0 a1 t209 _ (sc_ HR0_0) HC0_0.out A3.out) ?_; rintro w18 hb; replace BK208 := bl_ BK208 hb; replace HB := am (below_step (ab2 GE208) hb); (try clear hb); obtain ⟨⟨_, _, _, _, _⟩, _, _, _, _, _⟩ := Op.cells5 BK208.out) | ((with_reducible refine gf_ 42 ?_); refine gc_ Tryz.func42 (laws_heldIntS.calls k _ _ l0_1 t209 t210 _ (sc_ HR0_1) HC0_1.out A8.out) ?_; rintro w' ⟨nd, rfl⟩) | ((with_reducible refine gf_ 42 ?_); refine gc_ Tryz.func42 (laws_heldIntS.calls k _ _ l0_2 t210 t211 _ ?side1 HC0_2.out A14.out) ?_; (case side1 => exact (by repeat (first | exact (Kd.C_below HR0_2.out (ab2 GE208)) | (with_reducible refine Kd.C_alloc ?_ _) | (with_reducible refine Kd.C_drewN ?_ _) | (with_reducible refine Kd.C_drew ?_)))); rintro w' ⟨nd, rfl⟩))
    go_ret
    exact ⟨ab7, ab2 GE208⟩
   ·obtain rfl := Option.some.inj H
    go_enter Tryz.func16, Tryz.ntmps16
    go_wp2_with (first | ((with_reducible refine gd_ 2 ?_); refine bx_ 2 (cs := #[.slice A0_0 l0_0.length c0_0, .slice A0_1 l0_1.length c0_1, .slice A0_2 l0_2.length c0_2, .int .i64 a0_3, .int .i64 a0_4]) 31 ?_; intro gb208 hg w20 hbox hb; have BK208 := am hbox; have GW208 := ge_ (w := w) hg; have GE208 := ge_ (w := w) hg; replace HB := am (below_step ab1 hb); clear hb hbox hg; obtain ⟨⟨_, _, _, _, _⟩, _, _, _, _, _⟩ := Op.cells5 BK208.out) | ((with_reducible refine gf_ 41 ?_); refine gc_ Tryz.func41 (laws_heldItemS.calls k _ _ l0_0 a1 t209 _ (sc_ HR0_0) HC0_0.out A3.out) ?_; rintro w22 hb; replace BK208 := bl_ BK208 hb; replace HB := am (below_step (ab2 GE208) hb); (try clear hb); obtain ⟨⟨_, _, _, _, _⟩, _, _, _, _, _⟩ := Op.cells5 BK208.out) | ((with_reducible refine gf_ 42 ?_); refine gc_ Tryz.func42 (laws_heldIntS.calls k _ _ l0_1 t209 t210 _ (sc_ HR0_1) HC0_1.out A8.out) ?_; rintro w' ⟨nd, rfl⟩) | ((with_reducible refine gf_ 42 ?_); refine gc_ Tryz.func42 (laws_heldIntS.calls k _ _ l0_2 t210 t211 _ ?side1 HC0_2.out A14.out) ?_; (case side1 => exact (by repeat (first | exact (Kd.C_below HR0_2.out (ab2 GE208)) | (with_reducible refine Kd.C_alloc ?_ _) | (with_reducible refine Kd.C_drewN ?_ _) | (with_reducible refine Kd.C_drew ?_)))); rintro w' ⟨nd, rfl⟩))
    go_ret
    exact ⟨ab7, ab2 GE208⟩
def spec_l1Bit.f (a0 : Bool) : Option (Int) := if a0 = true then (some 1) else (some 0)
theorem spec_l1Bit.calls (a0 : Bool) (r : Int) (w : World) (h : spec_l1Bit.f a0 = some r) :
  Calls Tryz.prog 70 #[.bool a0] w fun e w' => e = .returned (.int .i64 r) ∧ Drawn0 w w' := by
 have H : (if a0 = true then (some 1) else (some 0)) = some r := h
 clear h
 replace H := ib_ H; rcases H with ⟨rfl, H⟩ | ⟨rfl, H⟩
 ·obtain rfl := Option.some.inj H
  go_enter Tryz.func70, Tryz.ntmps70
  go_wp2
  go_ret
  exact ⟨ab6, by repeat (first | exact Drawn0.refl _ | apply Drawn0.step)⟩
 ·obtain rfl := Option.some.inj H
  go_enter Tryz.func70, Tryz.ntmps70
  go_wp2
  go_ret
  exact ⟨ab6, by repeat (first | exact Drawn0.refl _ | apply Drawn0.step)⟩
def spec_l6Count.l0 : Nat → List Int → Int → Int → Int → Option (Int)
 | 0, _, _, _, _ => none
 | k + 1, x0, x1, x5, x6 => if x6 < (x0.length : Int) then (if 0 ≤ x6 then ((spec_l1Bit.f ((rd x0 x6) == x1)).bind fun t213 => (spec_l6Count.l0 k x0 x1 (wrap64 (x5 + t213)) (wrap64 (x6 + 1)))) else (none)) else (some x5)
def spec_l6Count.f (k : Nat) (l0 : List Int) (a1 : Int) : Option (Int) := spec_l6Count.l0 k l0 a1 0 0
theorem spec_l6Count.calls (k : Nat) (A0 : Option Addr) (c0 : Nat) (l0 : List Int) (a1 : Int) (r : Int) (w : World) (hr0 : Kd.C (Kd.int .i64) w A0 l0.length l0) (hc0 : l0.length ≤ c0) (h : spec_l6Count.f k l0 a1 = some r) :
  Calls Tryz.prog 43 #[.slice A0 l0.length c0, .int .i64 a1] w fun e w' => e = .returned (.int .i64 r) ∧ Drawn0 w w' := by
 have HR0 := am hr0
 have HC0 := am hc0
 clear hr0 hc0
 have H : (spec_l6Count.l0 k l0 a1 0 0) = some r := h
 clear h
 have H' := am H
 clear H
 go_enter Tryz.func43, Tryz.ntmps43
 go_wp2
 go_loopg [5, 6] k (fun kq v5 v6 w' => ∃ (x5_1 : Int) (x6_1 : Int), v5 = .int .i64 x5_1 ∧ v6 = .int .i64 x6_1 ∧ Aside0 (spec_l6Count.l0 kq l0 a1 x5_1 x6_1 = some r) ∧ Aside0 (kq ≤ k) ∧ Drawn0 w w')
 case atStart => exact ⟨(0), (0), ab6, ab6, H', ⟨Nat.le_refl _⟩, by repeat (first | exact Drawn0.refl _ | apply Drawn0.step)⟩
 case round =>
  clear H'
  try clear p2
  obtain ⟨x5_1, x6_1, rfl, rfl, HA, HK1, ⟨m1, rfl⟩⟩ := hrel
  cases gk with
  | zero => exact absurd HA.out (by simp [spec_l6Count.l0])
  | succ k1 =>
   have H := HA.out
   clear HA
   simp only [spec_l6Count.l0] at H
   replace H := ir_ H; rcases H with ⟨c3b0, H⟩ | ⟨c3b0, H⟩
   ·replace H := iq_ H; obtain ⟨c4b0, H⟩ := H
    replace H := bi_ H; obtain ⟨t213, A5, H⟩ := H
    have H' := am H
    clear H
    have p212 : 0 ≤ (x6_1 : Int) := of_decide_eq_true ab4
    have q212 : x6_1 < (l0.length : Int) := of_decide_eq_true ab4
    obtain ⟨ad212, e212, hx212_0⟩ := Kd.at_int HR0.out x6_1 p212 q212
    cases e212
    replace p212 := eq_true p212
    replace q212 := eq_true q212
    go_wp2_with (first | ((with_reducible refine gf_ 70 ?_); refine gc_ Tryz.func70 (spec_l1Bit.calls ((rd l0 x6_1) == a1) t213 _ A5.out) ?_; rintro w' ⟨nd, rfl⟩))
    go_roundg k1
    case measure => have := HK1.out; omega
    case rel => exact ⟨(wrap64 (x5_1 + t213)), (wrap64 (x6_1 + 1)), ab6, ab6, H', ⟨by have := HK1.out; omega⟩, by repeat (first | exact Drawn0.refl _ | apply Drawn0.step)⟩
   ·obtain rfl := Option.some.inj H
    go_wp2
    go_ret
    exact ⟨ab6, by repeat (first | exact Drawn0.refl _ | apply Drawn0.step)⟩
def spec_l1In.f (a0 : Int) (a1 : Int) (a2 : Int) : Option (Bool) := if a0 ≥ a1 then (some (decide (a0 ≤ a2))) else (some false)
theorem spec_l1In.calls (a0 : Int) (a1 : Int) (a2 : Int) (r : Bool) (w : World) (h : spec_l1In.f a0 a1 a2 = some r) :
  Calls Tryz.prog 77 #[.int .i64 a0, .int .i64 a1, .int .i64 a2] w fun e w' => e = .returned (.bool r) ∧ Drawn0 w w' := by
 have H : (if a0 ≥ a1 then (some (decide (a0 ≤ a2))) else (some false)) = some r := h
 clear h
 by_cases c4 : a0 ≥ a1
 ·rw [if_pos c4] at H
  have c4b0 : decide (a1 ≤ a0) = true := decide_eq_true c4
  clear c4
  obtain rfl := Option.some.inj H
  go_enter Tryz.func77, Tryz.ntmps77
  go_wp2
  go_ret
  exact ⟨ab6, by repeat (first | exact Drawn0.refl _ | apply Drawn0.step)⟩
 ·rw [if_neg c4] at H
  have c4b0 : decide (a1 ≤ a0) = false := decide_eq_false c4
  clear c4
  obtain rfl := Option.some.inj H
  go_enter Tryz.func77, Tryz.ntmps77
  go_wp2
  go_ret
  exact ⟨ab6, by repeat (first | exact Drawn0.refl _ | apply Drawn0.step)⟩
def spec_l4Has.l0 : Nat → List (S56) → ByteArray → Int → Option (Bool)
 | 0, _, _, _ => none
 | k + 1, x0, x1, x5 => if x5 < (x0.length : Int) then (if 0 ≤ x5 then (if ((rd_T56 x0 x5).f0).toList = x1.toList then (some true) else (spec_l4Has.l0 k x0 x1 (wrap64 (x5 + 1)))) else (none)) else (some false)
def spec_l4Has.f (k : Nat) (l0 : List (S56)) (a1 : ByteArray) : Option (Bool) := spec_l4Has.l0 k l0 a1 0
theorem spec_l4Has.calls (k : Nat) (A0 : Option Addr) (c0 : Nat) (l0 : List (S56)) (a1 : ByteArray) (r : Bool) (w : World) (hr0 : Kd.C k56 w A0 l0.length l0) (hc0 : l0.length ≤ c0) (h : spec_l4Has.f k l0 a1 = some r) :
  Calls Tryz.prog 103 #[.slice A0 l0.length c0, .string a1] w fun e w' => e = .returned (.bool r) ∧ Drawn0 w w' := by
 have HR0 := am hr0
 have HC0 := am hc0
 clear hr0 hc0
 have H : (spec_l4Has.l0 k l0 a1 0) = some r := h
 clear h
 have H' := am H
 clear H
 go_enter Tryz.func103, Tryz.ntmps103
 go_wp2
 go_loopg [5] k (fun kq v5 w' => ∃ (x5_1 : Int), v5 = .int .i64 x5_1 ∧ Aside0 (spec_l4Has.l0 kq l0 a1 x5_1 = some r) ∧ Aside0 (kq ≤ k) ∧ Drawn0 w w')
 case atStart => exact ⟨(0), ab6, H', ⟨Nat.le_refl _⟩, by repeat (first | exact Drawn0.refl _ | apply Drawn0.step)⟩
 case round =>
  clear H'
  (try clear c1); (try clear p2)
  obtain ⟨x5_1, rfl, HA, HK1, ⟨m1, rfl⟩⟩ := hrel
  cases gk with
  | zero => exact absurd HA.out (by simp [spec_l4Has.l0])
  | succ k1 =>
   have H := HA.out
   clear HA
   simp only [spec_l4Has.l0] at H
   replace H := ir_ H; rcases H with ⟨c3b0, H⟩ | ⟨c3b0, H⟩
   ·replace H := iq_ H; obtain ⟨c4b0, H⟩ := H
    replace H := ie_ H; rcases H with ⟨c5b0, c5b1, H⟩ | ⟨c5, c5b0, c5b1, H⟩
    ·obtain rfl := Option.some.inj H
     obtain ⟨p214, q214, ad214, rfl, hx214_0, hx214_1, -⟩ := otT56 b0_ HR0.out x5_1 (of_decide_eq_true ab4) (of_decide_eq_true ab4)
     go_wp2
     go_ret
     exact ⟨ab6, by repeat (first | exact Drawn0.refl _ | apply Drawn0.step)⟩
    ·have H' := am H
     clear H
     obtain ⟨p214, q214, ad214, rfl, hx214_0, hx214_1, -⟩ := otT56 b0_ HR0.out x5_1 (of_decide_eq_true ab4) (of_decide_eq_true ab4)
     go_wp2
     go_roundg k1
     case measure => have := HK1.out; omega
     case rel => exact ⟨(wrap64 (x5_1 + 1)), ab6, H', ⟨by have := HK1.out; omega⟩, by repeat (first | exact Drawn0.refl _ | apply Drawn0.step)⟩
   ·obtain rfl := Option.some.inj H
    go_wp2
    go_ret
    exact ⟨ab6, by repeat (first | exact Drawn0.refl _ | apply Drawn0.step)⟩
mutual
def spec_l6Plain.j0 : Nat → Bool → Bool → Int → Int → ByteArray → List (S56) → ByteArray → Int → List Int → Option (Bool)
 | 0, _, _, _, _, _, _, _, _, _ => none
 | k + 1, x3, x44, x216000, x216001, x216002, x216003, x216004, x216005, x216006 => if x44 = true then (some false) else (spec_l6Plain.l0 k x3 0 x216000 x216001 x216002 x216003 x216004 x216005 x216006)
def spec_l6Plain.l0 : Nat → Bool → Int → Int → Int → ByteArray → List (S56) → ByteArray → Int → List Int → Option (Bool)
 | 0, _, _, _, _, _, _, _, _, _ => none
 | k + 1, x3, x4, x216000, x216001, x216002, x216003, x216004, x216005, x216006 => if x4 < (x216003.length : Int) then (if 0 ≤ x4 then (if x4 ≤ (x216003.length : Int) then ((spec_l4Has.f k (x216003.take (x4 : Int).toNat) ((rd_T56 x216003 x4).f0)).bind fun t222 => (if t222 = true then (some false) else (spec_l6Plain.l0 k x3 (wrap64 (x4 + 1)) x216000 x216001 x216002 x216003 x216004 x216005 x216006))) else (none)) else (none)) else (if x216000 = 1 then (some (x216004.toList == ([] : List UInt8))) else (if x216000 = 3 then (some ((x216006.length : Int) == 0)) else (if x216000 = 4 then (some ((x216006.length : Int) == 0)) else (if x216000 = 5 then (some ((x216006.length : Int) == 0)) else (some x3)))))
end
def spec_l6Plain.f (k : Nat) (a0_0 : Int) (a0_1 : Int) (a0_2 : ByteArray) (l0_3 : List (S56)) (a0_4 : ByteArray) (a0_5 : Int) (l0_6 : List Int) : Option (Bool) := if a0_0 = 2 then (if a0_2.toList = ([] : List UInt8) then (spec_l6Plain.j0 k (a0_0 == 2) true a0_0 a0_1 a0_2 l0_3 a0_4 a0_5 l0_6) else (if a0_4.toList = ([] : List UInt8) then ((spec_l1In.f a0_1 0 2).bind fun t216 => (spec_l6Plain.j0 k (a0_0 == 2) (!t216) a0_0 a0_1 a0_2 l0_3 a0_4 a0_5 l0_6)) else (spec_l6Plain.j0 k (a0_0 == 2) true a0_0 a0_1 a0_2 l0_3 a0_4 a0_5 l0_6))) else (if a0_2.toList = ([] : List UInt8) then (if (l0_3.length : Int) > 0 then (spec_l6Plain.j0 k (a0_0 == 2) true a0_0 a0_1 a0_2 l0_3 a0_4 a0_5 l0_6) else (if a0_1 = 0 then (spec_l6Plain.j0 k (a0_0 == 2) false a0_0 a0_1 a0_2 l0_3 a0_4 a0_5 l0_6) else (spec_l6Plain.j0 k (a0_0 == 2) true a0_0 a0_1 a0_2 l0_3 a0_4 a0_5 l0_6))) else (spec_l6Plain.j0 k (a0_0 == 2) true a0_0 a0_1 a0_2 l0_3 a0_4 a0_5 l0_6))
theorem spec_l6Plain.calls (k : Nat) (a0_0 : Int) (a0_1 : Int) (a0_2 : ByteArray) (A0_3 : Option Addr) (c0_3 : Nat) (l0_3 : List (S56)) (a0_4 : ByteArray) (a0_5 : Int) (A0_6 : Option Addr) (c0_6 : Nat) (l0_6 : List Int) (r : Bool) (w : World) (hr0_3 : Kd.C k56 w A0_3 l0_3.length l0_3) (hc0_3 : l0_3.length ≤ c0_3) (hr0_6 : Kd.C (Kd.int .i64) w A0_6 l0_6.length l0_6) (hc0_6 : l0_6.length ≤ c0_6) (h : spec_l6Plain.f k a0_0 a0_1 a0_2 l0_3 a0_4 a0_5 l0_6 = some r) :
  Calls Tryz.prog 78 #[.agg #[.int .i64 a0_0, .int .i64 a0_1, .string a0_2, .slice A0_3 l0_3.length c0_3, .string a0_4, .int .i64 a0_5, .slice A0_6 l0_6.length c0_6]] w fun e w' => e = .returned (.bool r) ∧ Below w.heap.size w w' := by
 have hu53 := Tryz.underlying53
 have HR0_3 := am hr0_3
 have HC0_3 := am hc0_3
 clear hr0_3 hc0_3
 have HR0_6 := am hr0_6
 have HC0_6 := am hc0_6
 clear hr0_6 hc0_6
 have HB := am (Below.refl w.heap.size w)
 have H : (if a0_0 = 2 then (if a0_2.toList = ([] : List UInt8) then (spec_l6Plain.j0 k (a0_0 == 2) true a0_0 a0_1 a0_2 l0_3 a0_4 a0_5 l0_6) else (if a0_4.toList = ([] : List UInt8) then ((spec_l1In.f a0_1 0 2).bind fun t216 => (spec_l6Plain.j0 k (a0_0 == 2) (!t216) a0_0 a0_1 a0_2 l0_3 a0_4 a0_5 l0_6)) else (spec_l6Plain.j0 k (a0_0 == 2) true a0_0 a0_1 a0_2 l0_3 a0_4 a0_5 l0_6))) else (if a0_2.toList = ([] : List UInt8) then (if (l0_3.length : Int) > 0 then (spec_l6Plain.j0 k (a0_0 == 2) true a0_0 a0_1 a0_2 l0_3 a0_4 a0_5 l0_6) else (if a0_1 = 0 then (spec_l6Plain.j0 k (a0_0 == 2) false a0_0 a0_1 a0_2 l0_3 a0_4 a0_5 l0_6) else (spec_l6Plain.j0 k (a0_0 == 2) true a0_0 a0_1 a0_2 l0_3 a0_4 a0_5 l0_6))) else (spec_l6Plain.j0 k (a0_0 == 2) true a0_0 a0_1 a0_2 l0_3 a0_4 a0_5 l0_6))) = some r := h
 clear h
 have HC2 := am H
 clear H
 go_enter Tryz.func78, Tryz.ntmps78
 go_upto_region 2 with (first | ((with_reducible refine gd_ 1 ?_); (try (refine gate_guard (by rfl) ?_; dsimp only)); refine bx_ 1 (cs := #[.int .i64 a0_0, .int .i64 a0_1, .string a0_2, .slice A0_3 l0_3.length c0_3, .string a0_4, .int .i64 a0_5, .slice A0_6 l0_6.length c0_6]) 53 ?_; intro gb215 hg w3 hbox hb; have BK215 := am hbox; have GW215 := ge_ (w := w) hg; have GE215 := ge_ (w := w) hg; replace HB := am (below_step ab1 hb); clear hb hbox hg; obtain ⟨⟨_, _, _, _, _, _, _⟩, _, _, _, _, _, _, _⟩ := Op.cells7 BK215.out))
 repeat (go_quiet (first | ((with_reducible refine gd_ 1 ?_); (try (refine gate_guard (by rfl) ?_; dsimp only)); refine bx_ 1 (cs := #[.int .i64 a0_0, .int .i64 a0_1, .string a0_2, .slice A0_3 l0_3.length c0_3, .string a0_4, .int .i64 a0_5, .slice A0_6 l0_6.length c0_6]) 53 ?_; intro gb215 hg w3 hbox hb; have BK215 := am hbox; have GW215 := ge_ (w := w) hg; have GE215 := ge_ (w := w) hg; replace HB := am (below_step ab1 hb); clear hb hbox hg; obtain ⟨⟨_, _, _, _, _, _, _⟩, _, _, _, _, _, _, _⟩ := Op.cells7 BK215.out)); go_upto_region 2 with (first | ((with_reducible refine gd_ 1 ?_); (try (refine gate_guard (by rfl) ?_; dsimp only)); refine bx_ 1 (cs := #[.int .i64 a0_0, .int .i64 a0_1, .string a0_2, .slice A0_3 l0_3.length c0_3, .string a0_4, .int .i64 a0_5, .slice A0_6 l0_6.length c0_6]) 53 ?_; intro gb215 hg w3 hbox hb; have BK215 := am hbox; have GW215 := ge_ (w := w) hg; have GE215 := ge_ (w := w) hg; replace HB := am (below_step ab1 hb); clear hb hbox hg; obtain ⟨⟨_, _, _, _, _, _, _⟩, _, _, _, _, _, _, _⟩ := Op.cells7 BK215.out)))
 (try simp only [Act.put, List.setIfInBounds_toArray, List.set_cons_zero, List.set_cons_succ])
 go_cut [44] (fun v44 wc => ∃ (kq : Nat) (x44_1 : Bool), v44 = .bool x44_1 ∧ Aside0 (spec_l6Plain.j0 kq (a0_0 == 2) x44_1 a0_0 a0_1 a0_2 l0_3 a0_4 a0_5 l0_6 = some r) ∧ Aside0 (kq ≤ k) ∧ Aside0 (wc.heap[gb215]? = some (.cells #[.int .i64 a0_0, .int .i64 a0_1, .string a0_2, (.slice A0_3 l0_3.length c0_3), .string a0_4, .int .i64 a0_5, (.slice A0_6 l0_6.length c0_6)] 53 (0, 0))) ∧ Aside0 (Below w.heap.size w wc))
 case first =>
  have H := HC2.out
  clear HC2
  replace H := ie_ H; rcases H with ⟨c5b0, c5b1, H⟩ | ⟨c5, c5b0, c5b1, H⟩
  ·(first | rw [c5b0] | (simp only [i64_w, i32_w]; rw [c5b0]) | skip)
   (try (generalize hgzc5 : (a0_0 == 2) = bqc5 at *; subst c5b0; have c5b0 := hgzc5; clear hgzc5))
   replace H := ie_ H; rcases H with ⟨c6b0, c6b1, H⟩ | ⟨c6, c6b0, c6b1, H⟩
   ·have H' := am H
    clear H
    obtain ⟨⟨_, _, _, _, _, _, _⟩, _, _, _, _, _, _, _⟩ := Op.cells7 BK215.out
    go_wp2
    repeat (go_quiet (fail); try go_wp2)
    go_meet
    case rel => exact ⟨_, (true), ab6, (by first | exact H' | (have h_ := H'.out; rw [c5b0] at h_; exact ⟨h_⟩)), ⟨by first | omega | exact Nat.le_refl _⟩, ⟨ab3 BK215⟩, ⟨ab2 GE215⟩⟩
   ·replace H := ie_ H; rcases H with ⟨c8b0, c8b1, H⟩ | ⟨c8, c8b0, c8b1, H⟩
    ·replace H := bi_ H; obtain ⟨t216, A9, H⟩ := H
     replace H : (spec_l6Plain.j0 k (a0_0 == 2) (!t216) a0_0 a0_1 a0_2 l0_3 a0_4 a0_5 l0_6) = some r := by first | exact H | (rw [c5b0]; exact H)
     have H' := am H
     clear H
     obtain ⟨⟨_, _, _, _, _, _, _⟩, _, _, _, _, _, _, _⟩ := Op.cells7 BK215.out
     go_wp2_with (first | (go_at_call 77; (with_reducible refine (spec_l1In.calls a0_1 0 2 t216 _ A9.out).mono ?_); rintro e w' ⟨rfl, ⟨nd, rfl⟩⟩; (try first | exact ⟨rfl, _, World.drewN_drewN _ _ _⟩ | exact ⟨rfl, _, Eq.trans (World.drewN_drewN _ _ _) (congrArg (World.drewN _) (Nat.add_assoc _ _ _))⟩)))
     repeat (go_quiet (first | (go_at_call 77; (with_reducible refine (spec_l1In.calls a0_1 0 2 t216 _ A9.out).mono ?_); rintro e w' ⟨rfl, ⟨nd, rfl⟩⟩; (try first | exact ⟨rfl, _, World.drewN_drewN _ _ _⟩ | exact ⟨rfl, _, Eq.trans (World.drewN_drewN _ _ _) (congrArg (World.drewN _) (Nat.add_assoc _ _ _))⟩))); try go_wp2_with (first | (go_at_call 77; (with_reducible refine (spec_l1In.calls a0_1 0 2 t216 _ A9.out).mono ?_); rintro e w' ⟨rfl, ⟨nd, rfl⟩⟩; (try first | exact ⟨rfl, _, World.drewN_drewN _ _ _⟩ | exact ⟨rfl, _, Eq.trans (World.drewN_drewN _ _ _) (congrArg (World.drewN _) (Nat.add_assoc _ _ _))⟩))))
     go_meet
     case rel => exact ⟨_, (!t216), ab6, (by first | exact H' | (have h_ := H'.out; rw [c5b0] at h_; exact ⟨h_⟩)), ⟨by first | omega | exact Nat.le_refl _⟩, ⟨ab3 BK215⟩, ⟨ab2 GE215⟩⟩
    ·have H' := am H
     clear H
     obtain ⟨⟨_, _, _, _, _, _, _⟩, _, _, _, _, _, _, _⟩ := Op.cells7 BK215.out
     go_wp2
     repeat (go_quiet (fail); try go_wp2)
     go_meet
     case rel => exact ⟨_, (true), ab6, (by first | exact H' | (have h_ := H'.out; rw [c5b0] at h_; exact ⟨h_⟩)), ⟨by first | omega | exact Nat.le_refl _⟩, ⟨ab3 BK215⟩, ⟨ab2 GE215⟩⟩
  ·(first | rw [c5b0] | (simp only [i64_w, i32_w]; rw [c5b0]) | skip)
   (try (generalize hgzc5 : (a0_0 == 2) = bqc5 at *; subst c5b0; have c5b0 := hgzc5; clear hgzc5))
   replace H := ie_ H; rcases H with ⟨c12b0, c12b1, H⟩ | ⟨c12, c12b0, c12b1, H⟩
   ·by_cases c13 : (l0_3.length : Int) > 0
    ·rw [if_pos c13] at H
     have c13b0 : decide (0 < (l0_3.length : Int)) = true := decide_eq_true c13
     have c13b1 : decide (0 < l0_3.length) = true := decide_eq_true (by omega)
     clear c13
     have H' := am H
     clear H
     obtain ⟨⟨_, _, _, _, _, _, _⟩, _, _, _, _, _, _, _⟩ := Op.cells7 BK215.out
     go_wp2
     repeat (go_quiet (fail); try go_wp2)
     go_meet
     case rel => exact ⟨_, (true), ab6, (by first | exact H' | (have h_ := H'.out; rw [c5b0] at h_; exact ⟨h_⟩)), ⟨by first | omega | exact Nat.le_refl _⟩, ⟨ab3 BK215⟩, ⟨ab2 GE215⟩⟩
    ·rw [if_neg c13] at H
     have c13b0 : decide (0 < (l0_3.length : Int)) = false := decide_eq_false c13
     have c13b1 : decide (0 < l0_3.length) = false := decide_eq_false (by omega)
     clear c13
     replace H := ie_ H; rcases H with ⟨c15b0, c15b1, H⟩ | ⟨c15, c15b0, c15b1, H⟩
     ·have H' := am H
      clear H
      obtain ⟨⟨_, _, _, _, _, _, _⟩, _, _, _, _, _, _, _⟩ := Op.cells7 BK215.out
      go_wp2
      repeat (go_quiet (fail); try go_wp2)
      go_meet
      case rel => exact ⟨_, (false), ab6, (by first | exact H' | (have h_ := H'.out; rw [c5b0] at h_; exact ⟨h_⟩)), ⟨by first | omega | exact Nat.le_refl _⟩, ⟨ab3 BK215⟩, ⟨ab2 GE215⟩⟩
     ·have H' := am H
      clear H
      obtain ⟨⟨_, _, _, _, _, _, _⟩, _, _, _, _, _, _, _⟩ := Op.cells7 BK215.out
      go_wp2
      repeat (go_quiet (fail); try go_wp2)
      go_meet
      case rel => exact ⟨_, (true), ab6, (by first | exact H' | (have h_ := H'.out; rw [c5b0] at h_; exact ⟨h_⟩)), ⟨by first | omega | exact Nat.le_refl _⟩, ⟨ab3 BK215⟩, ⟨ab2 GE215⟩⟩
   ·have H' := am H
    clear H
    obtain ⟨⟨_, _, _, _, _, _, _⟩, _, _, _, _, _, _, _⟩ := Op.cells7 BK215.out
    go_wp2
    repeat (go_quiet (fail); try go_wp2)
    go_meet
    case rel => exact ⟨_, (true), ab6, (by first | exact H' | (have h_ := H'.out; rw [c5b0] at h_; exact ⟨h_⟩)), ⟨by first | omega | exact Nat.le_refl _⟩, ⟨ab3 BK215⟩, ⟨ab2 GE215⟩⟩
 case rest =>
  clear HC2
  (try clear c1); (try clear p2); (try clear c5); (try clear c5b0); (try clear c5b1); (try clear c6); (try clear c6b0); (try clear c6b1); (try clear c7); (try clear c8); (try clear c8b0); (try clear c8b1); (try clear c12); (try clear c12b0); (try clear c12b1); (try clear c13); (try clear c13b0); (try clear c13b1); (try clear c15); (try clear c15b0); (try clear c15b1); (try clear hcz10_0); (try clear hcz10_1); (try clear hcz10_2); (try clear hcz10_3); (try clear hcz10_4); (try clear hcz10_5); (try clear hcz10_6); (try clear hcz11_0); (try clear hcz11_1); (try clear hcz11_2); (try clear hcz11_3); (try clear hcz11_4); (try clear hcz11_5); (try clear hcz11_6); (try clear hcz14_0); (try clear hcz14_1); (try clear hcz14_2); (try clear hcz14_3); (try clear hcz14_4); (try clear hcz14_5); (try clear hcz14_6); (try clear hcz16_0); (try clear hcz16_1); (try clear hcz16_2); (try clear hcz16_3); (try clear hcz16_4); (try clear hcz16_5); (try clear hcz16_6); (try clear hcz17_0); (try clear hcz17_1); (try clear hcz17_2); (try clear hcz17_3); (try clear hcz17_4); (try clear hcz17_5); (try clear hcz17_6); (try clear hcz18_0); (try clear hcz18_1); (try clear hcz18_2); (try clear hcz18_3); (try clear hcz18_4); (try clear hcz18_5); (try clear hcz18_6); (try clear hcz4_0); (try clear hcz4_1); (try clear hcz4_2); (try clear hcz4_3); (try clear hcz4_4); (try clear hcz4_5); (try clear hcz4_6); (try clear hcz7_0); (try clear hcz7_1); (try clear hcz7_2); (try clear hcz7_3); (try clear hcz7_4); (try clear hcz7_5); (try clear hcz7_6); (try clear hfz10_0); (try clear hfz10_1); (try clear hfz10_2); (try clear hfz10_3); (try clear hfz10_4); (try clear hfz10_5); (try clear hfz10_6); (try clear hfz11_0); (try clear hfz11_1); (try clear hfz11_2); (try clear hfz11_3); (try clear hfz11_4); (try clear hfz11_5); (try clear hfz11_6); (try clear hfz14_0); (try clear hfz14_1); (try clear hfz14_2); (try clear hfz14_3); (try clear hfz14_4); (try clear hfz14_5); (try clear hfz14_6); (try clear hfz16_0); (try clear hfz16_1); (try clear hfz16_2); (try clear hfz16_3); (try clear hfz16_4); (try clear hfz16_5); (try clear hfz16_6); (try clear hfz17_0); (try clear hfz17_1); (try clear hfz17_2); (try clear hfz17_3); (try clear hfz17_4); (try clear hfz17_5); (try clear hfz17_6); (try clear hfz18_0); (try clear hfz18_1); (try clear hfz18_2); (try clear hfz18_3); (try clear hfz18_4); (try clear hfz18_5); (try clear hfz18_6); (try clear hfz4_0); (try clear hfz4_1); (try clear hfz4_2); (try clear hfz4_3); (try clear hfz4_4); (try clear hfz4_5); (try clear hfz4_6); (try clear hfz7_0); (try clear hfz7_1); (try clear hfz7_2); (try clear hfz7_3); (try clear hfz7_4); (try clear hfz7_5); (try clear hfz7_6)
  obtain ⟨kq, x44_1, rfl, HA, HJ1, BK215, HB⟩ := hcut
  cases kq with
  | zero => exact absurd HA.out (by simp [spec_l6Plain.j0])
  | succ kj1 =>
   have H := HA.out
   clear HA
   simp only [spec_l6Plain.j0] at H
   replace H := ib_ H; rcases H with ⟨rfl, H⟩ | ⟨rfl, H⟩
   ·obtain rfl := Option.some.inj H
    go_wp2
    repeat (go_quiet (fail); try go_wp2)
    go_ret
    exact ⟨ab7, ab2 GE215⟩
   ·have H' := am H
    clear H
    go_wp2
    repeat (go_quiet (fail); try go_wp2)
    go_loopg [4] kj1 (fun kq v4 w' => ∃ (x4_2 : Int), v4 = .int .i64 x4_2 ∧ Aside0 (spec_l6Plain.l0 kq (a0_0 == 2) x4_2 a0_0 a0_1 a0_2 l0_3 a0_4 a0_5 l0_6 = some r) ∧ Aside0 (kq ≤ kj1) ∧ Aside0 (w'.heap[gb215]? = some (.cells #[.int .i64 a0_0, .int .i64 a0_1, .string a0_2, (.slice A0_3 l0_3.length c0_3), .string a0_4, .int .i64 a0_5, (.slice A0_6 l0_6.length c0_6)] 53 (0, 0))) ∧ Aside0 (Below w.heap.size w w'))
    case atStart => exact ⟨(0), ab6, H', ⟨Nat.le_refl _⟩, ⟨ab3 BK215⟩, ⟨ab2 GE215⟩⟩
    case round =>
     clear H'
     (try clear c1); (try clear p2); (try clear c5); (try clear c5b0); (try clear c5b1); (try clear c6); (try clear c6b0); (try clear c6b1); (try clear c7); (try clear c8); (try clear c8b0); (try clear c8b1); (try clear c12); (try clear c12b0); (try clear c12b1); (try clear c13); (try clear c13b0); (try clear c13b1); (try clear c15); (try clear c15b0); (try clear c15b1); (try clear c19); (try clear hcz10_0); (try clear hcz10_1); (try clear hcz10_2); (try clear hcz10_3); (try clear hcz10_4); (try clear hcz10_5); (try clear hcz10_6); (try clear hcz11_0); (try clear hcz11_1); (try clear hcz11_2); (try clear hcz11_3); (try clear hcz11_4); (try clear hcz11_5); (try clear hcz11_6); (try clear hcz14_0); (try clear hcz14_1); (try clear hcz14_2); (try clear hcz14_3); (try clear hcz14_4); (try clear hcz14_5); (try clear hcz14_6); (try clear hcz16_0); (try clear hcz16_1); (try clear hcz16_2); (try clear hcz16_3); (try clear hcz16_4); (try clear hcz16_5); (try clear hcz16_6); (try clear hcz17_0); (try clear hcz17_1); (try clear hcz17_2); (try clear hcz17_3); (try clear hcz17_4); (try clear hcz17_5); (try clear hcz17_6); (try clear hcz18_0); (try clear hcz18_1); (try clear hcz18_2); (try clear hcz18_3); (try clear hcz18_4); (try clear hcz18_5); (try clear hcz18_6); (try clear hcz4_0); (try clear hcz4_1); (try clear hcz4_2); (try clear hcz4_3); (try clear hcz4_4); (try clear hcz4_5); (try clear hcz4_6); (try clear hcz7_0); (try clear hcz7_1); (try clear hcz7_2); (try clear hcz7_3); (try clear hcz7_4); (try clear hcz7_5); (try clear hcz7_6); (try clear hfz10_0); (try clear hfz10_1); (try clear hfz10_2); (try clear hfz10_3); (try clear hfz10_4); (try clear hfz10_5); (try clear hfz10_6); (try clear hfz11_0); (try clear hfz11_1); (try clear hfz11_2); (try clear hfz11_3); (try clear hfz11_4); (try clear hfz11_5); (try clear hfz11_6); (try clear hfz14_0); (try clear hfz14_1); (try clear hfz14_2); (try clear hfz14_3); (try clear hfz14_4); (try clear hfz14_5); (try clear hfz14_6); (try clear hfz16_0); (try clear hfz16_1); (try clear hfz16_2); (try clear hfz16_3); (try clear hfz16_4); (try clear hfz16_5); (try clear hfz16_6); (try clear hfz17_0); (try clear hfz17_1); (try clear hfz17_2); (try clear hfz17_3); (try clear hfz17_4); (try clear hfz17_5); (try clear hfz17_6); (try clear hfz18_0); (try clear hfz18_1); (try clear hfz18_2); (try clear hfz18_3); (try clear hfz18_4); (try clear hfz18_5); (try clear hfz18_6); (try clear hfz4_0); (try clear hfz4_1); (try clear hfz4_2); (try clear hfz4_3); (try clear hfz4_4); (try clear hfz4_5); (try clear hfz4_6); (try clear hfz7_0); (try clear hfz7_1); (try clear hfz7_2); (try clear hfz7_3); (try clear hfz7_4); (try clear hfz7_5); (try clear hfz7_6); (try clear p2)
     obtain ⟨x4_2, rfl, HA, HK2, BK215, HB⟩ := hrel
     cases gk with
     | zero => exact absurd HA.out (by simp [spec_l6Plain.l0])
     | succ k2 =>
      have H := HA.out
      clear HA
      simp only [spec_l6Plain.l0] at H
      replace H := ir_ H; rcases H with ⟨c20b0, H⟩ | ⟨c20b0, H⟩
      ·by_cases c21 : 0 ≤ x4_2
       case neg => rw [if_neg c21] at H; exact absurd H (by simp)
       rw [if_pos c21] at H
       have c21b0 := eq_true c21
       have c21b1 := decide_eq_true c21
       clear c21
       by_cases c22 : x4_2 ≤ (l0_3.length : Int)
       case neg => rw [if_neg c22] at H; exact absurd H (by simp)
       rw [if_pos c22] at H
       have c22b0 := eq_true c22
       have c22b1 := decide_eq_true c22
       clear c22
       obtain ⟨y217, hy217⟩ : ∃ y_ : List (S56), y_ = (l0_3.take (x4_2 : Int).toNat) := ⟨_, rfl⟩
       replace H : ((spec_l4Has.f k2 y217 ((rd_T56 l0_3 x4_2).f0)).bind fun t222 => (if t222 = true then (some false) else (spec_l6Plain.l0 k2 (a0_0 == 2) (wrap64 (x4_2 + 1)) a0_0 a0_1 a0_2 l0_3 a0_4 a0_5 l0_6))) = some r := by first | (rw [hy217]; with_reducible exact H) | (have H2_ := (Option.bind_some _ _).symm.trans H; rw [hy217]; with_reducible exact H2_) | (have H2_ := (Option.bind_some _ _).symm.trans H; with_reducible exact H2_) | with_reducible exact H | (rw [hy217]; exact H) | exact H
       have Ny217 := am hy217
       clear hy217
       replace H := bi_ H; obtain ⟨t222, A23, H⟩ := H
       replace H := ib_ H; rcases H with ⟨rfl, H⟩ | ⟨rfl, H⟩
       ·obtain rfl := Option.some.inj H
        obtain ⟨⟨_, _, _, _, _, _, _⟩, _, _, _, _, _, _, _⟩ := Op.cells7 BK215.out
        have q26 : (x4_2 : Int) ≤ ((l0_3.length : Int) : Int) := of_decide_eq_true ab4
        obtain ⟨i026, hi026, _, hsz26, _⟩ := info_parts info56
        have hroom26 : l0_3.length ≤ c0_3 := HC0_3.out
        have hC26 : Kd.C k56 _ A0_3 l0_3.length l0_3 := HR0_3.out
        have hcut26 := cut_to (P := Tryz.prog) 34 56 .i64 Tryz.underlying34 hi026 A0_3 l0_3.length c0_3 x4_2 (of_decide_eq_true ab4) q26 hroom26
        have hr26 := Kd.C_take (m := (x4_2 : Int).toNat) hC26 (by omega)
        have hy26 : y217.length = (x4_2 : Int).toNat := (by rw [Ny217.out, List.length_take]; omega)
        rw [← Ny217.out] at hr26
        rw [← hy26] at hcut26
        have HR220 := am hr26
        have HC220 := am (show y217.length ≤ c0_3 from by omega)
        clear hr26 hC26 hroom26 hi026 hsz26
        have KY26 := am hy26
        clear hy26
        replace q26 := eq_true q26
        obtain ⟨p221, q221, ad221, rfl, hx221_0, hx221_1, -⟩ := otT56 HB HR0_3.out x4_2 (of_decide_eq_true ab4) (of_decide_eq_true ab4)
        go_wp2_with (first | (go_at_call 103; (with_reducible refine (spec_l4Has.calls k2 _ _ y217 ((rd_T56 l0_3 x4_2).f0) true _ (sc_ HR220) HC220.out A23.out).mono ?_); rintro e w' ⟨rfl, ⟨nd, rfl⟩⟩; (try first | exact ⟨rfl, _, World.drewN_drewN _ _ _⟩ | exact ⟨rfl, _, Eq.trans (World.drewN_drewN _ _ _) (congrArg (World.drewN _) (Nat.add_assoc _ _ _))⟩)))
        repeat (go_quiet (first | (go_at_call 103; (with_reducible refine (spec_l4Has.calls k2 _ _ y217 ((rd_T56 l0_3 x4_2).f0) true _ (sc_ HR220) HC220.out A23.out).mono ?_); rintro e w' ⟨rfl, ⟨nd, rfl⟩⟩; (try first | exact ⟨rfl, _, World.drewN_drewN _ _ _⟩ | exact ⟨rfl, _, Eq.trans (World.drewN_drewN _ _ _) (congrArg (World.drewN _) (Nat.add_assoc _ _ _))⟩))); try go_wp2_with (first | (go_at_call 103; (with_reducible refine (spec_l4Has.calls k2 _ _ y217 ((rd_T56 l0_3 x4_2).f0) true _ (sc_ HR220) HC220.out A23.out).mono ?_); rintro e w' ⟨rfl, ⟨nd, rfl⟩⟩; (try first | exact ⟨rfl, _, World.drewN_drewN _ _ _⟩ | exact ⟨rfl, _, Eq.trans (World.drewN_drewN _ _ _) (congrArg (World.drewN _) (Nat.add_assoc _ _ _))⟩))))
        go_ret
        exact ⟨ab7, ab2 GE215⟩
       ·have H' := am H
        clear H
        obtain ⟨⟨_, _, _, _, _, _, _⟩, _, _, _, _, _, _, _⟩ := Op.cells7 BK215.out
        have q28 : (x4_2 : Int) ≤ ((l0_3.length : Int) : Int) := of_decide_eq_true ab4
        obtain ⟨i028, hi028, _, hsz28, _⟩ := info_parts info56
        have hroom28 : l0_3.length ≤ c0_3 := HC0_3.out
        have hC28 : Kd.C k56 _ A0_3 l0_3.length l0_3 := HR0_3.out
        have hcut28 := cut_to (P := Tryz.prog) 34 56 .i64 Tryz.underlying34 hi028 A0_3 l0_3.length c0_3 x4_2 (of_decide_eq_true ab4) q28 hroom28
        have hr28 := Kd.C_take (m := (x4_2 : Int).toNat) hC28 (by omega)
        have hy28 : y217.length = (x4_2 : Int).toNat := (by rw [Ny217.out, List.length_take]; omega)
        rw [← Ny217.out] at hr28
        rw [← hy28] at hcut28
        have HR220 := am hr28
        have HC220 := am (show y217.length ≤ c0_3 from by omega)
        clear hr28 hC28 hroom28 hi028 hsz28
        have KY28 := am hy28
        clear hy28
        replace q28 := eq_true q28
        obtain ⟨p221, q221, ad221, rfl, hx221_0, hx221_1, -⟩ := otT56 HB HR0_3.out x4_2 (of_decide_eq_true ab4) (of_decide_eq_true ab4)
        go_wp2_with (first | (go_at_call 103; (with_reducible refine (spec_l4Has.calls k2 _ _ y217 ((rd_T56 l0_3 x4_2).f0) false _ (sc_ HR220) HC220.out A23.out).mono ?_); rintro e w' ⟨rfl, ⟨nd, rfl⟩⟩; (try first | exact ⟨rfl, _, World.drewN_drewN _ _ _⟩ | exact ⟨rfl, _, Eq.trans (World.drewN_drewN _ _ _) (congrArg (World.drewN _) (Nat.add_assoc _ _ _))⟩)))
        repeat (go_quiet (first | (go_at_call 103; (with_reducible refine (spec_l4Has.calls k2 _ _ y217 ((rd_T56 l0_3 x4_2).f0) false _ (sc_ HR220) HC220.out A23.out).mono ?_); rintro e w' ⟨rfl, ⟨nd, rfl⟩⟩; (try first | exact ⟨rfl, _, World.drewN_drewN _ _ _⟩ | exact ⟨rfl, _, Eq.trans (World.drewN_drewN _ _ _) (congrArg (World.drewN _) (Nat.add_assoc _ _ _))⟩))); try go_wp2_with (first | (go_at_call 103; (with_reducible refine (spec_l4Has.calls k2 _ _ y217 ((rd_T56 l0_3 x4_2).f0) false _ (sc_ HR220) HC220.out A23.out).mono ?_); rintro e w' ⟨rfl, ⟨nd, rfl⟩⟩; (try first | exact ⟨rfl, _, World.drewN_drewN _ _ _⟩ | exact ⟨rfl, _, Eq.trans (World.drewN_drewN _ _ _) (congrArg (World.drewN _) (Nat.add_assoc _ _ _))⟩))))
        go_roundg k2
        case measure => have := HJ1.out; have := HK2.out; omega
        case rel => exact ⟨(wrap64 (x4_2 + 1)), ab6, H', ⟨by have := HJ1.out; have := HK2.out; omega⟩, ⟨ab3 BK215⟩, ⟨ab2 GE215⟩⟩
      ·replace H := ie_ H; rcases H with ⟨c29b0, c29b1, H⟩ | ⟨c29, c29b0, c29b1, H⟩
       ·obtain rfl := Option.some.inj H
        obtain ⟨⟨_, _, _, _, _, _, _⟩, _, _, _, _, _, _, _⟩ := Op.cells7 BK215.out
        go_wp2
        repeat (go_quiet (fail); try go_wp2)
        go_ret
        exact ⟨ab7, ab2 GE215⟩
       ·replace H := ie_ H; rcases H with ⟨c31b0, c31b1, H⟩ | ⟨c31, c31b0, c31b1, H⟩
        ·obtain rfl := Option.some.inj H
         obtain ⟨⟨_, _, _, _, _, _, _⟩, _, _, _, _, _, _, _⟩ := Op.cells7 BK215.out
         go_wp2
         repeat (go_quiet (fail); try go_wp2)
         go_ret
         exact ⟨ab7, ab2 GE215⟩
        ·replace H := ie_ H; rcases H with ⟨c33b0, c33b1, H⟩ | ⟨c33, c33b0, c33b1, H⟩
         ·obtain rfl := Option.some.inj H
          obtain ⟨⟨_, _, _, _, _, _, _⟩, _, _, _, _, _, _, _⟩ := Op.cells7 BK215.out
          go_wp2
          repeat (go_quiet (fail); try go_wp2)
          go_ret
          exact ⟨ab7, ab2 GE215⟩
         ·replace H := ie_ H; rcases H with ⟨c35b0, c35b1, H⟩ | ⟨c35, c35b0, c35b1, H⟩
          ·obtain rfl := Option.some.inj H
           obtain ⟨⟨_, _, _, _, _, _, _⟩, _, _, _, _, _, _, _⟩ := Op.cells7 BK215.out
           go_wp2
           repeat (go_quiet (fail); try go_wp2)
           go_ret
           exact ⟨ab7, ab2 GE215⟩
          ·obtain rfl := Option.some.inj H
           obtain ⟨⟨_, _, _, _, _, _, _⟩, _, _, _, _, _, _, _⟩ := Op.cells7 BK215.out
           go_wp2
           repeat (go_quiet (fail); try go_wp2)
           go_ret
           exact ⟨ab7, ab2 GE215⟩
theorem z10_0 {p : Prop} (h : p := by repeat (first | (with_reducible first | exact HK.out | apply Kept.alloc | apply Kept.drewN | apply Kept.drew) | exact HK.out)) : p := h
mutual
def spec_l6Links.l0 : Nat → List (S53) → Int → Option (Bool)
 | 0, _, _ => none
 | k + 1, x0, x3 => if x3 < (x0.length : Int) then (if 0 ≤ x3 then (if x3 = 0 then (if ((rd_T53 x0 x3).f5) = (-1) then (if x3 > 0 then ((spec_l1In.f ((rd_T53 x0 x3).f5) 0 (wrap64 ((x0.length : Int) - 1))).bind fun t224 => (if t224 = true then (if 0 ≤ ((rd_T53 x0 x3).f5) then (if ((rd_T53 x0 x3).f5) < (x0.length : Int) then ((spec_l6Count.f k ((rd_T53 x0 ((rd_T53 x0 x3).f5)).f6) x3).bind fun t226 => (spec_l6Links.j1 k x0 x3 (t226 != 1))) else (none)) else (none)) else (spec_l6Links.j1 k x0 x3 true))) else (spec_l6Links.j1 k x0 x3 false)) else (spec_l6Links.j1 k x0 x3 true)) else (if x3 > 0 then ((spec_l1In.f ((rd_T53 x0 x3).f5) 0 (wrap64 ((x0.length : Int) - 1))).bind fun t227 => (if t227 = true then (if 0 ≤ ((rd_T53 x0 x3).f5) then (if ((rd_T53 x0 x3).f5) < (x0.length : Int) then ((spec_l6Count.f k ((rd_T53 x0 ((rd_T53 x0 x3).f5)).f6) x3).bind fun t229 => (spec_l6Links.j1 k x0 x3 (t229 != 1))) else (none)) else (none)) else (spec_l6Links.j1 k x0 x3 true))) else (spec_l6Links.j1 k x0 x3 false))) else (none)) else (some true)
def spec_l6Links.j1 : Nat → List (S53) → Int → Bool → Option (Bool)
 | 0, _, _, _ => none
 | k + 1, x0, x3, x45 => if x45 = true then (some false) else (spec_l6Links.l1 k x0 x3 0)
def spec_l6Links.l1 : Nat → List (S53) → Int → Int → Option (Bool)
 | 0, _, _, _ => none
 | k + 1, x0, x3, x5 => if 0 ≤ x3 then (if x3 < (x0.length : Int) then (if x5 < (((rd_T53 x0 x3).f6).length : Int) then (if 0 ≤ x5 then ((spec_l1In.f (rd ((rd_T53 x0 x3).f6) x5) 1 (wrap64 ((x0.length : Int) - 1))).bind fun t233 => (if t233 = true then (if 0 ≤ (rd ((rd_T53 x0 x3).f6) x5) then (if (rd ((rd_T53 x0 x3).f6) x5) < (x0.length : Int) then (if ((rd_T53 x0 (rd ((rd_T53 x0 x3).f6) x5)).f5) = x3 then (spec_l6Links.l1 k x0 x3 (wrap64 (x5 + 1))) else (some false)) else (none)) else (none)) else (some false))) else (none)) else (spec_l6Links.l0 k x0 (wrap64 (x3 + 1)))) else (none)) else (none)
end
def spec_l6Links.f (k : Nat) (l0 : List (S53)) : Option (Bool) := spec_l6Links.l0 k l0 0
theorem spec_l6Links.calls (k : Nat) (A0 : Option Addr) (c0 : Nat) (l0 : List (S53)) (r : Bool) (w : World) (hr0 : Kd.C k53 w A0 l0.length l0) (hc0 : l0.length ≤ c0) (h : spec_l6Links.f k l0 = some r) :
  Calls Tryz.prog 79 #[.slice A0 l0.length c0] w fun e w' => e = .returned (.bool r) ∧ Drawn0 w w' := by
 have HR0 := am hr0
 have HC0 := am hc0
 clear hr0 hc0
 have H : (spec_l6Links.l0 k l0 0) = some r := h
 clear h
 have H' := am H
 clear H
 go_enter Tryz.func79, Tryz.ntmps79
 go_wp2
 go_loopg [3] k (fun kq v3 w' => ∃ (x3_1 : Int), v3 = .int .i64 x3_1 ∧ Aside0 (spec_l6Links.l0 kq l0 x3_1 = some r) ∧ Aside0 (kq ≤ k) ∧ Drawn0 w w')
 case atStart => exact ⟨(0), ab6, H', ⟨Nat.le_refl _⟩, by repeat (first | exact Drawn0.refl _ | apply Drawn0.step)⟩
 case round =>
  clear H'
  obtain ⟨x3_1, rfl, HA, HK1, ⟨m1, rfl⟩⟩ := hrel
  cases gk with
  | zero => exact absurd HA.out (by simp [spec_l6Links.l0])
  | succ k1 =>
   have H := HA.out
   clear HA
   simp only [spec_l6Links.l0] at H
   replace H := ir_ H; rcases H with ⟨c2b0, H⟩ | ⟨c2b0, H⟩
   ·replace H := iq_ H; obtain ⟨c3b0, H⟩ := H
    have HC4 := am H
    clear H
    obtain ⟨p223, q223, ad223, A223_3, c223_3, A223_6, c223_6, rfl, hx223_0, hx223_1, hx223_2, hx223_3, hx223_4, hx223_5, hx223_6, HC223_3, HR223_3, HC223_6, HR223_6⟩ := otT53 b0_ HR0.out x3_1 (of_decide_eq_true ab4) (of_decide_eq_true ab4)
    go_upto_region 5 with (fail)
    go_cut [45] (fun v45 wc => ∃ (kq : Nat) (x45_3 : Bool), v45 = .bool x45_3 ∧ Aside0 (spec_l6Links.j1 kq l0 x3_1 x45_3 = some r) ∧ Aside0 (kq ≤ k1) ∧ Drawn0 w wc)
    case first =>
     have H := HC4.out
     clear HC4
     replace H := ie_ H; rcases H with ⟨c5b0, c5b1, H⟩ | ⟨c5, c5b0, c5b1, H⟩
     ·(first | rw [c5b0] | (simp only [i64_w, i32_w]; rw [c5b0]) | skip)
      (try (generalize hgzc5 : (x3_1 == 0) = bqc5 at *; subst c5b0; have c5b0 := hgzc5; clear hgzc5))
      replace H := ie_ H; rcases H with ⟨c6b0, c6b1, H⟩ | ⟨c6, c6b0, c6b1, H⟩
      ·by_cases c7 : x3_1 > 0
       ·rw [if_pos c7] at H
        have c7b0 : decide (0 < x3_1) = true := decide_eq_true c7
        clear c7
        replace H := bi_ H; obtain ⟨t224, A8, H⟩ := H
        replace H : (if t224 = true then (if 0 ≤ ((rd_T53 l0 x3_1).f5) then (if ((rd_T53 l0 x3_1).f5) < (l0.length : Int) then ((spec_l6Count.f k1 ((rd_T53 l0 ((rd_T53 l0 x3_1).f5)).f6) x3_1).bind fun t226 => (spec_l6Links.j1 k1 l0 x3_1 (t226 != 1))) else (none)) else (none)) else (spec_l6Links.j1 k1 l0 x3_1 true)) = some r := by first | exact H | (rw [c5b0]; exact H)
        replace H := ib_ H; rcases H with ⟨rfl, H⟩ | ⟨rfl, H⟩
        ·replace H := iq_ H; obtain ⟨c10b0, H⟩ := H
         replace H := iq_ H; obtain ⟨c11b0, H⟩ := H
         replace H := bi_ H; obtain ⟨t226, A12, H⟩ := H
         replace H : (spec_l6Links.j1 k1 l0 x3_1 (t226 != 1)) = some r := by first | exact H | (rw [c5b0]; exact H)
         have H' := am H
         clear H
         go_wp2_with (first | (go_at_call 77; (with_reducible refine (spec_l1In.calls ((rd_T53 l0 x3_1).f5) 0 (wrap64 ((l0.length : Int) - 1)) true _ A8.out).mono ?_); rintro e w' ⟨rfl, ⟨nd, rfl⟩⟩; have p225 : 0 ≤ (((rd_T53 l0 x3_1).f5) : Int) := of_decide_eq_true ab4; have q225 : ((rd_T53 l0 x3_1).f5) < (l0.length : Int) := of_decide_eq_true ab4; obtain ⟨ad225, A225_3, c225_3, A225_6, c225_6, e225, hx225_0, hx225_1, hx225_2, hx225_3, hx225_4, hx225_5, hx225_6, hl225_3, hi225_3, hl225_6, hi225_6⟩ := at_T53 HR0.out ((rd_T53 l0 x3_1).f5) p225 q225; obtain rfl : ad223 = ad225 := (by injection e225); have HR225_3 := am hi225_3; have HC225_3 := am hl225_3; clear hi225_3 hl225_3; have HR225_6 := am hi225_6; have HC225_6 := am hl225_6; clear hi225_6 hl225_6; replace p225 := eq_true p225; replace q225 := eq_true q225) | (go_at_call 43; (with_reducible refine (spec_l6Count.calls k1 _ _ ((rd_T53 l0 ((rd_T53 l0 x3_1).f5)).f6) x3_1 t226 _ ?side1 ?side2 A12.out).mono ?_); (case side1 => repeat (first | exact HR225_6.out | (with_reducible refine Kd.C_alloc ?_ _) | (with_reducible refine Kd.C_drewN ?_ _) | (with_reducible refine Kd.C_drew ?_))); (case side2 => exact HC225_6.out); rintro e w' ⟨rfl, ⟨nd, rfl⟩⟩))
         go_meet
         case rel => exact ⟨_, ((t226 != 1)), ab6, (by first | exact H' | (have h_ := H'.out; rw [c5b0] at h_; exact ⟨h_⟩)), ⟨by have := HK1.out; first | omega | exact Nat.le_refl _⟩, by repeat (first | exact Drawn0.refl _ | apply Drawn0.step)⟩
        ·have H' := am H
         clear H
         go_wp2_with (first | (go_at_call 77; (with_reducible refine (spec_l1In.calls ((rd_T53 l0 x3_1).f5) 0 (wrap64 ((l0.length : Int) - 1)) false _ A8.out).mono ?_); rintro e w' ⟨rfl, ⟨nd, rfl⟩⟩))
         go_meet
         case rel => exact ⟨_, (true), ab6, (by first | exact H' | (have h_ := H'.out; rw [c5b0] at h_; exact ⟨h_⟩)), ⟨by have := HK1.out; first | omega | exact Nat.le_refl _⟩, by repeat (first | exact Drawn0.refl _ | apply Drawn0.step)⟩
       ·rw [if_neg c7] at H
        have c7b0 : decide (0 < x3_1) = false := decide_eq_false c7
        clear c7
        have H' := am H
        clear H
        go_wp2
        go_meet
        case rel => exact ⟨_, (false), ab6, (by first | exact H' | (have h_ := H'.out; rw [c5b0] at h_; exact ⟨h_⟩)), ⟨by have := HK1.out; first | omega | exact Nat.le_refl _⟩, by repeat (first | exact Drawn0.refl _ | apply Drawn0.step)⟩
      ·have H' := am H
       clear H
       go_wp2
       go_meet
       case rel => exact ⟨_, (true), ab6, (by first | exact H' | (have h_ := H'.out; rw [c5b0] at h_; exact ⟨h_⟩)), ⟨by have := HK1.out; first | omega | exact Nat.le_refl _⟩, by repeat (first | exact Drawn0.refl _ | apply Drawn0.step)⟩
     ·(first | rw [c5b0] | (simp only [i64_w, i32_w]; rw [c5b0]) | skip)
      (try (generalize hgzc5 : (x3_1 == 0) = bqc5 at *; subst c5b0; have c5b0 := hgzc5; clear hgzc5))
      by_cases c13 : x3_1 > 0
      ·rw [if_pos c13] at H
       have c13b0 : decide (0 < x3_1) = true := decide_eq_true c13
       clear c13
       replace H := bi_ H; obtain ⟨t227, A14, H⟩ := H
       replace H : (if t227 = true then (if 0 ≤ ((rd_T53 l0 x3_1).f5) then (if ((rd_T53 l0 x3_1).f5) < (l0.length : Int) then ((spec_l6Count.f k1 ((rd_T53 l0 ((rd_T53 l0 x3_1).f5)).f6) x3_1).bind fun t229 => (spec_l6Links.j1 k1 l0 x3_1 (t229 != 1))) else (none)) else (none)) else (spec_l6Links.j1 k1 l0 x3_1 true)) = some r := by first | exact H | (rw [c5b0]; exact H)
       replace H := ib_ H; rcases H with ⟨rfl, H⟩ | ⟨rfl, H⟩
       ·replace H := iq_ H; obtain ⟨c16b0, H⟩ := H
        replace H := iq_ H; obtain ⟨c17b0, H⟩ := H
        replace H := bi_ H; obtain ⟨t229, A18, H⟩ := H
        replace H : (spec_l6Links.j1 k1 l0 x3_1 (t229 != 1)) = some r := by first | exact H | (rw [c5b0]; exact H)
        have H' := am H
        clear H
        go_wp2_with (first | (go_at_call 77; (with_reducible refine (spec_l1In.calls ((rd_T53 l0 x3_1).f5) 0 (wrap64 ((l0.length : Int) - 1)) true _ A14.out).mono ?_); rintro e w' ⟨rfl, ⟨nd, rfl⟩⟩; have p228 : 0 ≤ (((rd_T53 l0 x3_1).f5) : Int) := of_decide_eq_true ab4; have q228 : ((rd_T53 l0 x3_1).f5) < (l0.length : Int) := of_decide_eq_true ab4; obtain ⟨ad228, A228_3, c228_3, A228_6, c228_6, e228, hx228_0, hx228_1, hx228_2, hx228_3, hx228_4, hx228_5, hx228_6, hl228_3, hi228_3, hl228_6, hi228_6⟩ := at_T53 HR0.out ((rd_T53 l0 x3_1).f5) p228 q228; obtain rfl : ad223 = ad228 := (by injection e228); have HR228_3 := am hi228_3; have HC228_3 := am hl228_3; clear hi228_3 hl228_3; have HR228_6 := am hi228_6; have HC228_6 := am hl228_6; clear hi228_6 hl228_6; replace p228 := eq_true p228; replace q228 := eq_true q228) | (go_at_call 43; (with_reducible refine (spec_l6Count.calls k1 _ _ ((rd_T53 l0 ((rd_T53 l0 x3_1).f5)).f6) x3_1 t229 _ ?side1 ?side2 A18.out).mono ?_); (case side1 => repeat (first | exact HR228_6.out | (with_reducible refine Kd.C_alloc ?_ _) | (with_reducible refine Kd.C_drewN ?_ _) | (with_reducible refine Kd.C_drew ?_))); (case side2 => exact HC228_6.out); rintro e w' ⟨rfl, ⟨nd, rfl⟩⟩))
        go_meet
        case rel => exact ⟨_, ((t229 != 1)), ab6, (by first | exact H' | (have h_ := H'.out; rw [c5b0] at h_; exact ⟨h_⟩)), ⟨by have := HK1.out; first | omega | exact Nat.le_refl _⟩, by repeat (first | exact Drawn0.refl _ | apply Drawn0.step)⟩
       ·have H' := am H
        clear H
        go_wp2_with (first | (go_at_call 77; (with_reducible refine (spec_l1In.calls ((rd_T53 l0 x3_1).f5) 0 (wrap64 ((l0.length : Int) - 1)) false _ A14.out).mono ?_); rintro e w' ⟨rfl, ⟨nd, rfl⟩⟩))
        go_meet
        case rel => exact ⟨_, (true), ab6, (by first | exact H' | (have h_ := H'.out; rw [c5b0] at h_; exact ⟨h_⟩)), ⟨by have := HK1.out; first | omega | exact Nat.le_refl _⟩, by repeat (first | exact Drawn0.refl _ | apply Drawn0.step)⟩
      ·rw [if_neg c13] at H
       have c13b0 : decide (0 < x3_1) = false := decide_eq_false c13
       clear c13
       have H' := am H
       clear H
       go_wp2
       go_meet
       case rel => exact ⟨_, (false), ab6, (by first | exact H' | (have h_ := H'.out; rw [c5b0] at h_; exact ⟨h_⟩)), ⟨by have := HK1.out; first | omega | exact Nat.le_refl _⟩, by repeat (first | exact Drawn0.refl _ | apply Drawn0.step)⟩
    case rest =>
     clear HC4
     (try clear c1); (try clear c2); (try clear c2b0); (try clear p2); (try clear q2); (try clear hx2); (try clear c3); (try clear c3b0); (try clear c5); (try clear c5b0); (try clear c5b1); (try clear c6); (try clear c6b0); (try clear c6b1); (try clear p6); (try clear c7); (try clear c7b0); (try clear c9); (try clear c10); (try clear c10b0); (try clear c11); (try clear c11b0); (try clear c13); (try clear c13b0); (try clear c15); (try clear c16); (try clear c16b0); (try clear c17); (try clear c17b0); (try clear hx223_0); (try clear hx223_1); (try clear hx223_2); (try clear hx223_3); (try clear hx223_4); (try clear hx223_5); (try clear hx223_6); (try clear hx225_0); (try clear hx225_1); (try clear hx225_2); (try clear hx225_3); (try clear hx225_4); (try clear hx225_5); (try clear hx225_6); (try clear hx228_0); (try clear hx228_1); (try clear hx228_2); (try clear hx228_3); (try clear hx228_4); (try clear hx228_5); (try clear hx228_6); (try clear p223); (try clear p225); (try clear p228); (try clear q223); (try clear q225); (try clear q228)
     obtain ⟨kq, x45_3, rfl, HA, HJ3, ⟨mc3, rfl⟩⟩ := hcut
     cases kq with
     | zero => exact absurd HA.out (by simp [spec_l6Links.j1])
     | succ kj3 =>
      have H := HA.out
      clear HA
      simp only [spec_l6Links.j1] at H
      replace H := ib_ H; rcases H with ⟨rfl, H⟩ | ⟨rfl, H⟩
      ·obtain rfl := Option.some.inj H
       go_wp2
       go_ret
       exact ⟨ab6, by repeat (first | exact Drawn0.refl _ | apply Drawn0.step)⟩
      ·have H' := am H
       clear H
       go_wp2
       go_loopg [5] kj3 (fun kq v5 w' => ∃ (x5_3 : Int), v5 = .int .i64 x5_3 ∧ Aside0 (spec_l6Links.l1 kq l0 x3_1 x5_3 = some r) ∧ Aside0 (kq ≤ kj3) ∧ Drawn0 w w')
       case atStart => exact ⟨(0), ab6, H', ⟨Nat.le_refl _⟩, by repeat (first | exact Drawn0.refl _ | apply Drawn0.step)⟩
       case round =>
        clear H'
        (try clear c1); (try clear c2); (try clear c2b0); (try clear p2); (try clear q2); (try clear hx2); (try clear c3); (try clear c3b0); (try clear c5); (try clear c5b0); (try clear c5b1); (try clear c6); (try clear c6b0); (try clear c6b1); (try clear p6); (try clear c7); (try clear c7b0); (try clear c9); (try clear c10); (try clear c10b0); (try clear c11); (try clear c11b0); (try clear c13); (try clear c13b0); (try clear c15); (try clear c16); (try clear c16b0); (try clear c17); (try clear c17b0); (try clear c19); (try clear hx223_0); (try clear hx223_1); (try clear hx223_2); (try clear hx223_3); (try clear hx223_4); (try clear hx223_5); (try clear hx223_6); (try clear hx225_0); (try clear hx225_1); (try clear hx225_2); (try clear hx225_3); (try clear hx225_4); (try clear hx225_5); (try clear hx225_6); (try clear hx228_0); (try clear hx228_1); (try clear hx228_2); (try clear hx228_3); (try clear hx228_4); (try clear hx228_5); (try clear hx228_6); (try clear p2); (try clear p223); (try clear p225); (try clear p228); (try clear p6); (try clear q2); (try clear q223); (try clear q225); (try clear q228)
        obtain ⟨x5_3, rfl, HA, HK3, ⟨m3, rfl⟩⟩ := hrel
        cases gk with
        | zero => exact absurd HA.out (by simp [spec_l6Links.l1])
        | succ k3 =>
         have H := HA.out
         clear HA
         simp only [spec_l6Links.l1] at H
         replace H := iq_ H; obtain ⟨c20b0, H⟩ := H
         replace H := iq_ H; obtain ⟨c21b0, H⟩ := H
         replace H := ir_ H; rcases H with ⟨c22b0, H⟩ | ⟨c22b0, H⟩
         ·replace H := iq_ H; obtain ⟨c23b0, H⟩ := H
          replace H := bi_ H; obtain ⟨t233, A24, H⟩ := H
          replace H := ib_ H; rcases H with ⟨rfl, H⟩ | ⟨rfl, H⟩
          ·replace H := iq_ H; obtain ⟨c26b0, H⟩ := H
           replace H := iq_ H; obtain ⟨c27b0, H⟩ := H
           replace H := ie_ H; rcases H with ⟨c28b0, c28b1, H⟩ | ⟨c28, c28b0, c28b1, H⟩
           ·have H' := am H
            clear H
            obtain ⟨p230, q230, A230_3, c230_3, A230_6, c230_6, hx230_0, hx230_1, hx230_2, hx230_3, hx230_4, hx230_5, hx230_6, HC230_3, HR230_3, HC230_6, HR230_6⟩ := agT53 b0_ HR0.out x3_1 (of_decide_eq_true ab4) (of_decide_eq_true ab4)
            obtain ⟨p231, q231, A231_3, c231_3, A231_6, c231_6, hx231_0, hx231_1, hx231_2, hx231_3, hx231_4, hx231_5, hx231_6, HC231_3, HR231_3, HC231_6, HR231_6⟩ := agT53 b0_ HR0.out x3_1 (of_decide_eq_true ab4) (of_decide_eq_true ab4)
            obtain ⟨rfl, rfl⟩ := sl_ hx230_3 hx231_3
            obtain ⟨rfl, rfl⟩ := sl_ hx230_6 hx231_6
            have p232 : 0 ≤ (x5_3 : Int) := of_decide_eq_true ab4
            have q232 : x5_3 < (((rd_T53 l0 x3_1).f6).length : Int) := of_decide_eq_true ab4
            obtain ⟨ad232, e232, hx232_0⟩ := Kd.at_int HR231_6.out x5_3 p232 q232
            cases e232
            replace p232 := eq_true p232
            replace q232 := eq_true q232
            go_wp2_with (first | ((with_reducible refine gf_ 77 ?_); refine gc_ Tryz.func77 (spec_l1In.calls (rd ((rd_T53 l0 x3_1).f6) x5_3) 1 (wrap64 ((l0.length : Int) - 1)) true _ A24.out) ?_; rintro w' ⟨nd, rfl⟩; have p234 : 0 ≤ ((rd ((rd_T53 l0 x3_1).f6) x5_3) : Int) := of_decide_eq_true ab4; have q234 : (rd ((rd_T53 l0 x3_1).f6) x5_3) < (l0.length : Int) := of_decide_eq_true ab4; obtain ⟨ad234, A234_3, c234_3, A234_6, c234_6, e234, hx234_0, hx234_1, hx234_2, hx234_3, hx234_4, hx234_5, hx234_6, hl234_3, hi234_3, hl234_6, hi234_6⟩ := at_T53 HR0.out (rd ((rd_T53 l0 x3_1).f6) x5_3) p234 q234; obtain rfl : ad223 = ad234 := (by injection e234); have HR234_3 := am hi234_3; have HC234_3 := am hl234_3; clear hi234_3 hl234_3; have HR234_6 := am hi234_6; have HC234_6 := am hl234_6; clear hi234_6 hl234_6; replace p234 := eq_true p234; replace q234 := eq_true q234))
            go_roundg k3
            case measure => have := HK1.out; have := HJ3.out; have := HK3.out; omega
            case rel => exact ⟨(wrap64 (x5_3 + 1)), ab6, H', ⟨by have := HK1.out; have := HJ3.out; have := HK3.out; omega⟩, by repeat (first | exact Drawn0.refl _ | apply Drawn0.step)⟩
           ·obtain rfl := Option.some.inj H
            obtain ⟨p230, q230, A230_3, c230_3, A230_6, c230_6, hx230_0, hx230_1, hx230_2, hx230_3, hx230_4, hx230_5, hx230_6, HC230_3, HR230_3, HC230_6, HR230_6⟩ := agT53 b0_ HR0.out x3_1 (of_decide_eq_true ab4) (of_decide_eq_true ab4)
            obtain ⟨p231, q231, A231_3, c231_3, A231_6, c231_6, hx231_0, hx231_1, hx231_2, hx231_3, hx231_4, hx231_5, hx231_6, HC231_3, HR231_3, HC231_6, HR231_6⟩ := agT53 b0_ HR0.out x3_1 (of_decide_eq_true ab4) (of_decide_eq_true ab4)
            obtain ⟨rfl, rfl⟩ := sl_ hx230_3 hx231_3
            obtain ⟨rfl, rfl⟩ := sl_ hx230_6 hx231_6
            have p232 : 0 ≤ (x5_3 : Int) := of_decide_eq_true ab4
            have q232 : x5_3 < (((rd_T53 l0 x3_1).f6).length : Int) := of_decide_eq_true ab4
            obtain ⟨ad232, e232, hx232_0⟩ := Kd.at_int HR231_6.out x5_3 p232 q232
            cases e232
            replace p232 := eq_true p232
            replace q232 := eq_true q232
            go_wp2_with (first | ((with_reducible refine gf_ 77 ?_); refine gc_ Tryz.func77 (spec_l1In.calls (rd ((rd_T53 l0 x3_1).f6) x5_3) 1 (wrap64 ((l0.length : Int) - 1)) true _ A24.out) ?_; rintro w' ⟨nd, rfl⟩; have p234 : 0 ≤ ((rd ((rd_T53 l0 x3_1).f6) x5_3) : Int) := of_decide_eq_true ab4; have q234 : (rd ((rd_T53 l0 x3_1).f6) x5_3) < (l0.length : Int) := of_decide_eq_true ab4; obtain ⟨ad234, A234_3, c234_3, A234_6, c234_6, e234, hx234_0, hx234_1, hx234_2, hx234_3, hx234_4, hx234_5, hx234_6, hl234_3, hi234_3, hl234_6, hi234_6⟩ := at_T53 HR0.out (rd ((rd_T53 l0 x3_1).f6) x5_3) p234 q234; obtain rfl : ad223 = ad234 := (by injection e234); have HR234_3 := am hi234_3; have HC234_3 := am hl234_3; clear hi234_3 hl234_3; have HR234_6 := am hi234_6; have HC234_6 := am hl234_6; clear hi234_6 hl234_6; replace p234 := eq_true p234; replace q234 := eq_true q234))
            go_ret
            exact ⟨ab6, by repeat (first | exact Drawn0.refl _ | apply Drawn0.step)⟩
          ·obtain rfl := Option.some.inj H
           obtain ⟨p230, q230, A230_3, c230_3, A230_6, c230_6, hx230_0, hx230_1, hx230_2, hx230_3, hx230_4, hx230_5, hx230_6, HC230_3, HR230_3, HC230_6, HR230_6⟩ := agT53 b0_ HR0.out x3_1 (of_decide_eq_true ab4) (of_decide_eq_true ab4)
           obtain ⟨p231, q231, A231_3, c231_3, A231_6, c231_6, hx231_0, hx231_1, hx231_2, hx231_3, hx231_4, hx231_5, hx231_6, HC231_3, HR231_3, HC231_6, HR231_6⟩ := agT53 b0_ HR0.out x3_1 (of_decide_eq_true ab4) (of_decide_eq_true ab4)
           obtain ⟨rfl, rfl⟩ := sl_ hx230_3 hx231_3
           obtain ⟨rfl, rfl⟩ := sl_ hx230_6 hx231_6
           have p232 : 0 ≤ (x5_3 : Int) := of_decide_eq_true ab4
           have q232 : x5_3 < (((rd_T53 l0 x3_1).f6).length : Int) := of_decide_eq_true ab4
           obtain ⟨ad232, e232, hx232_0⟩ := Kd.at_int HR231_6.out x5_3 p232 q232
           cases e232
           replace p232 := eq_true p232
           replace q232 := eq_true q232
           go_wp2_with (first | ((with_reducible refine gf_ 77 ?_); refine gc_ Tryz.func77 (spec_l1In.calls (rd ((rd_T53 l0 x3_1).f6) x5_3) 1 (wrap64 ((l0.length : Int) - 1)) false _ A24.out) ?_; rintro w' ⟨nd, rfl⟩))
           go_ret
           exact ⟨ab6, by repeat (first | exact Drawn0.refl _ | apply Drawn0.step)⟩
         ·have H' := am H
          clear H
          obtain ⟨p230, q230, A230_3, c230_3, A230_6, c230_6, hx230_0, hx230_1, hx230_2, hx230_3, hx230_4, hx230_5, hx230_6, HC230_3, HR230_3, HC230_6, HR230_6⟩ := agT53 b0_ HR0.out x3_1 (of_decide_eq_true ab4) (of_decide_eq_true ab4)
          go_wp2
          go_roundg k3
          case measure => have := HK1.out; have := HJ3.out; have := HK3.out; omega
          case rel => exact ⟨(wrap64 (x3_1 + 1)), ab6, H', ⟨by have := HK1.out; have := HJ3.out; have := HK3.out; omega⟩, by repeat (first | exact Drawn0.refl _ | apply Drawn0.step)⟩
   ·obtain rfl := Option.some.inj H
    go_wp2
    go_ret
    exact ⟨ab6, by repeat (first | exact Drawn0.refl _ | apply Drawn0.step)⟩
mutual
def spec_l6Order.l0 : Nat → List (S53) → Int → List Int → Int → Option (List Int)
 | 0, _, _, _, _ => none
 | k + 1, x0, x1, x2, x7 => if 0 ≤ x1 then (if x1 < (x0.length : Int) then (if x7 < (((rd_T53 x0 x1).f6).length : Int) then (if 0 ≤ x7 then ((spec_l6Order.f k x0 (rd ((rd_T53 x0 x1).f6) x7) x2).bind fun t241 => (spec_l6Order.l0 k x0 x1 t241 (wrap64 (x7 + 1)))) else (none)) else (some x2)) else (none)) else (none)
def spec_l6Order.f : Nat → List (S53) → Int → List Int → Option (List Int)
 | 0, _, _, _ => none
 | k + 1, l0, a1, l2 => if (l2.length : Int) ≥ (l0.length : Int) then (some l2) else (if l2.length < 17592186044416 then (spec_l6Order.l0 k l0 a1 (l2 ++ [a1]) 0) else (none))
end
theorem spec_l6Order.calls (k : Nat) : ∀ (A0 : Option Addr) (c0 : Nat) (l0 : List (S53)) (a1 : Int) (P2_ : Nat → Prop) (u9000_ : Value) (l2 : List Int) (r : List Int) (w0 w : World) (hB : Below w0.heap.size w0 w) (hr0 : ∀ W_, Kept w W_ (fun k_ => P2_ k_) → Kd.C k53 W_ A0 l0.length l0) (hc0 : l0.length ≤ c0) (ho2 : Kd.R (Kd.int .i64) 3 w w0.heap.size P2_ u9000_ l2) (h : spec_l6Order.f k l0 a1 l2 = some r),
  Calls Tryz.prog 80 #[.slice A0 l0.length c0, .int .i64 a1, u9000_] w fun e w' => ∃ v0_ : Value, e = .returned (v0_) ∧ Kd.R (Kd.int .i64) 3 w' w0.heap.size (fun k_ => (P2_ k_ ∨ w.heap.size ≤ k_)) v0_ r ∧ Below w0.heap.size w0 w' ∧ Kept w w' (fun k_ => P2_ k_) := by
 induction k using Nat.strongRecOn with
 | _ k ih =>
 intro A0 c0 l0 a1 P2_ u9000_ l2 r w0 w hB hr0 hc0 ho2 h
 cases k with
 | zero => exact absurd h (by simp [spec_l6Order.f])
 | succ k =>
 simp only [spec_l6Order.f] at h
 have HR0 := am hr0
 have HC0 := am hc0
 clear hr0 hc0
 have HO2 := am (show Kd.R (Kd.int .i64) 3 w w0.heap.size (fun k_ => (P2_ k_ ∨ w.heap.size ≤ k_)) u9000_ l2 from Kd.R_mono ho2 (fun k_ hk => (.inl hk)))
 have HK := am (Kept.refl w (fun k_ => P2_ k_))
 have HW0 := am hB.size
 have HB := am hB
 clear hB
 have H : (if (l2.length : Int) ≥ (l0.length : Int) then (some l2) else (if l2.length < 17592186044416 then (spec_l6Order.l0 k l0 a1 (l2 ++ [a1]) 0) else (none))) = some r := h
 clear h
 by_cases c4 : (l2.length : Int) ≥ (l0.length : Int)
 ·rw [if_pos c4] at H
  have c4b0 : decide ((l0.length : Int) ≤ (l2.length : Int)) = true := decide_eq_true c4
  have c4b1 : decide (l0.length ≤ l2.length) = true := decide_eq_true (Int.ofNat_le.mp c4)
  clear c4
  obtain rfl := Option.some.inj H
  obtain ⟨Ao5, co5, eo5⟩ := Kd.R_slice HO2.out
  subst eo5
  go_enter Tryz.func80, Tryz.ntmps80
  go_wp2
  go_ret
  exact ⟨_, ab7, ab8 HO2, ab1, z10_0⟩
 ·rw [if_neg c4] at H
  have c4b0 : decide ((l0.length : Int) ≤ (l2.length : Int)) = false := decide_eq_false c4
  have c4b1 : decide (l0.length ≤ l2.length) = false := decide_eq_false (fun h => c4 (Int.ofNat_le.mpr h))
  clear c4
  by_cases c6 : l2.length < 17592186044416
  case neg => rw [if_neg c6] at H; exact absurd H (by simp)
  rw [if_pos c6] at H
  have LMc6 := am c6
  clear c6
  obtain ⟨y235, hy235⟩ : ∃ y_ : List Int, y_ = (l2 ++ [a1]) := ⟨_, rfl⟩
  replace H : (spec_l6Order.l0 k l0 a1 y235 0) = some r := by first | (rw [hy235]; with_reducible exact H) | (have H2_ := (Option.bind_some _ _).symm.trans H; rw [hy235]; with_reducible exact H2_) | (have H2_ := (Option.bind_some _ _).symm.trans H; with_reducible exact H2_) | with_reducible exact H | (rw [hy235]; exact H) | exact H
  have Ny235 := am hy235
  clear hy235
  have H' := am H
  clear H
  obtain ⟨Ao7, co7, eo7⟩ := Kd.R_slice HO2.out
  subst eo7
  go_enter Tryz.func80, Tryz.ntmps80
  go_wp2_with (first | ((with_reducible refine gate_builtin (b := .append) (xs := #[.tmp 14, .tmp 16]) rfl ?_); at_builtin; refine Kd.R_append (Kd.int .i64) (w0 := w0) w0.heap.size rfl (.tmp 14) (.tmp 16) 23 3 (.int .i64 0) 8 rfl Tryz.underlying23 info3 rfl (by decide) (by omega) (.slice Ao7 l2.length co7) l2 a1 [.int .i64 a1] (fun k_ => (P2_ k_ ∨ w.heap.size ≤ k_)) (fun _ => False) rfl rfl ?aP (fun _ hk => hk.elim) ?aF ?aO ?aB ?aS ?aL ?_; (case aP => exact rfl); (case aB => exact ab1); (case aF => exact (fun k_ hk => (.inr (Nat.le_trans (by first | exact HK.out.1 | exact (show Kept w _ (fun k_ => P2_ k_) from z10_0).1) hk)))); (case aO => exact (ab8 HO2)); (case aS => exact (below_size ab1)); (case aL => have := LMc6.out; omega); intro v236 w8 ho hb hg hat; rw [← Ny235.out] at ho; replace HB := am hb; replace HK := am (Kept.of_grown (S := (fun k_ => P2_ k_)) hg (z10_0) (fun k_ e_ => (HO2.out.1 k_ e_))); have HO237 := am ho; clear HO2; clear ho hb hg hat))
  go_loopg [2, 7] k (fun kq v2 v7 w' => ∃ (x2_1 : List Int) (x7_1 : Int), v7 = .int .i64 x7_1 ∧ Aside0 (spec_l6Order.l0 kq l0 a1 x2_1 x7_1 = some r) ∧ Aside0 (kq ≤ k) ∧ Aside0 (Kd.R (Kd.int .i64) 3 w' w0.heap.size (fun k_ => (P2_ k_ ∨ w.heap.size ≤ k_)) v2 x2_1) ∧ Aside0 (Kept w w' (fun k_ => P2_ k_)) ∧ Aside0 (Below w0.heap.size w0 w'))
  case atStart => exact ⟨(y235), (0), ab6, H', ⟨Nat.le_refl _⟩, ⟨ab8 HO237⟩, ⟨z10_0⟩, ⟨ab1⟩⟩
  case round =>
   clear H'
   (try clear p2); (try clear c4); (try clear c4b0); (try clear c4b1); (try clear c6); (try clear c8)
   obtain ⟨x2_1, x7_1, rfl, HA, HK1, HO_2, HK, HB⟩ := hrel
   cases gk with
   | zero => exact absurd HA.out (by simp [spec_l6Order.l0])
   | succ k1 =>
    have H := HA.out
    clear HA
    simp only [spec_l6Order.l0] at H
    replace H := iq_ H; obtain ⟨c9b0, H⟩ := H
    replace H := iq_ H; obtain ⟨c10b0, H⟩ := H
    replace H := ir_ H; rcases H with ⟨c11b0, H⟩ | ⟨c11b0, H⟩
    ·replace H := iq_ H; obtain ⟨c12b0, H⟩ := H
     replace H := bi_ H; obtain ⟨t241, A13, H⟩ := H
     have H' := am H
     clear H
     obtain ⟨p238, q238, ad238, A238_3, c238_3, A238_6, c238_6, rfl, hx238_0, hx238_1, hx238_2, hx238_3, hx238_4, hx238_5, hx238_6, HC238_3, HR238_3, HC238_6, HR238_6⟩ := otT53 b0_ (Kd.C_kept_now HR0.out HK.out) a1 (of_decide_eq_true ab4) (of_decide_eq_true ab4)
     obtain ⟨p239, q239, A239_3, c239_3, A239_6, c239_6, hx239_0, hx239_1, hx239_2, hx239_3, hx239_4, hx239_5, hx239_6, HC239_3, HR239_3, HC239_6, HR239_6⟩ := agT53 b0_ (Kd.C_kept_now HR0.out HK.out) a1 (of_decide_eq_true ab4) (of_decide_eq_true ab4)
     obtain ⟨rfl, rfl⟩ := sl_ hx238_3 hx239_3
     obtain ⟨rfl, rfl⟩ := sl_ hx238_6 hx239_6
     have p240 : 0 ≤ (x7_1 : Int) := of_decide_eq_true ab4
     have q240 : x7_1 < (((rd_T53 l0 a1).f6).length : Int) := of_decide_eq_true ab4
     obtain ⟨ad240, e240, hx240_0⟩ := Kd.at_int (by repeat (first | (with_reducible exact HR239_6.out) | (with_reducible refine Kd.C_alloc ?_ _) | (with_reducible refine Kd.C_drewN ?_ _) | (with_reducible refine Kd.C_drew ?_) | exact HR239_6.out)) x7_1 p240 q240
     cases e240
     replace p240 := eq_true p240
     replace q240 := eq_true q240
     obtain ⟨Ao14, co14, eo14⟩ := Kd.R_slice HO_2.out
     subst eo14
     go_wp2_with (first | ((with_reducible refine gate_callee (f := 80) rfl ?_); refine goesL_ (some 38) rfl rfl Tryz.func80 (by kernel_rfl) rfl #[.slice (some ad238) l0.length c0, .int .i64 (rd ((rd_T53 l0 a1).f6) x7_1), .slice Ao14 x2_1.length co14] rfl ab5 ?_; (with_reducible refine (ih k1 (by have := HK1.out; omega) _ _ l0 (rd ((rd_T53 l0 a1).f6) x7_1) (fun k_ => some k_ = (.slice Ao14 x2_1.length co14 : Value).ownBlock) (.slice Ao14 x2_1.length co14) x2_1 t241 w0 _ ?side1 ?side2 ?side3 ?side4 A13.out).mono ?_); (case side1 => repeat (first | (with_reducible first | exact HB.out | apply below_alloc | apply pw_below_drewN | apply below_drew1) | exact HB.out)); (case side2 => exact Kd.C_kept_call HR0.out (z10_0) (fun k_ hs_ => (fun e_ => (HO_2.out.1 k_ e_.symm)) hs_)); (case side3 => exact HC0.out); (case side4 => exact Kd.R_tight rfl HO_2.out); rintro e w15 ⟨v242, rfl, ho0, hb, hkp⟩; refine ⟨_, rfl, ?_⟩; have HO243 := am (Kd.R_mono (ok' := fun k_ => (P2_ k_ ∨ w.heap.size ≤ k_)) ho0 (fun k_ hk_ => Or.elim hk_ (fun hs_ => (HO_2.out.1 k_ (hs_).symm)) (fun hn_ => (.inr (Nat.le_trans (by first | exact HK.out.1 | exact (show Kept w _ (fun k_ => P2_ k_) from z10_0).1) hn_))))); replace HK := am (Kept.then_ (S := (fun k_ => P2_ k_)) (z10_0) hkp (fun k_ hs_ => (fun e_ => (HO_2.out.1 k_ e_.symm)) hs_)); replace HB := am hb; clear HO_2; (try clear hb); (try clear hkp); (try clear ho0)))
     go_roundg k1
     case measure => have := HK1.out; omega
     case rel => exact ⟨(t241), (wrap64 (x7_1 + 1)), ab6, H', ⟨by have := HK1.out; omega⟩, ⟨ab8 HO243⟩, ⟨z10_0⟩, ⟨ab1⟩⟩
    ·obtain rfl := Option.some.inj H
     obtain ⟨p238, q238, ad238, A238_3, c238_3, A238_6, c238_6, rfl, hx238_0, hx238_1, hx238_2, hx238_3, hx238_4, hx238_5, hx238_6, HC238_3, HR238_3, HC238_6, HR238_6⟩ := otT53 b0_ (Kd.C_kept_now HR0.out HK.out) a1 (of_decide_eq_true ab4) (of_decide_eq_true ab4)
     go_wp2
     go_ret
     exact ⟨_, ab7, ab8 HO_2, ab1, z10_0⟩
end Go.Proofs.YtekkalnafngfeaaGreat.P
