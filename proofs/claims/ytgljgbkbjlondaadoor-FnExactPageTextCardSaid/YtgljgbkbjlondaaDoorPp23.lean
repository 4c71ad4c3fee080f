-- WRITTEN BY hprint.py, this session's own program, over the kit's printer: not typed by hand; Lean checks it
import Derived.Test.YtgljgbkbjlondaaDoorPp0
import Derived.Test.YtgljgbkbjlondaaDoorPp20
namespace Go.Proofs.YtgljgbkbjlondaaDoor.P
open Go.RowKit Go.Proofs.YtgljgbkbjlondaaDoorW.PrintWords Go.Proofs.YtgljgbkbjlondaaDoorW.PrintLast Go.Proofs.YtgljgbkbjlondaaDoorW.PrintMore
attribute [local go_sem] max2_int min2_int max_two min_two max_three min_three max_four min_four   -- for this text's walks alone
set_option linter.unusedVariables false
set_option linter.unusedSimpArgs false

/-! ### impl_isPlainRaw: function 114 -/
def impl_isPlainRaw.f (a0 : ByteArray) : Option (Bool) := if a0.toList = ([115, 99, 114, 105, 112, 116] : List UInt8) then (some true) else (some (a0.toList == ([115, 116, 121, 108, 101] : List UInt8)))
set_option maxHeartbeats 8000000 in
set_option maxRecDepth 100000 in
theorem impl_isPlainRaw.calls (a0 : ByteArray) (r : Bool) (w : World) (h : impl_isPlainRaw.f a0 = some r) :
  Calls Tryd.prog 114 #[.string a0] w fun e w' => e = .returned (.bool r) ∧ Drawn0 w w' := by
 have H : (if a0.toList = ([115, 99, 114, 105, 112, 116] : List UInt8) then (some true) else (some (a0.toList == ([115, 116, 121, 108, 101] : List UInt8)))) = some r := h
 clear h
 by_cases c2 : a0.toList = ([115, 99, 114, 105, 112, 116] : List UInt8)
 ·rw [if_pos c2] at H
  have c2b0 : (a0.toList == ([115, 99, 114, 105, 112, 116] : List UInt8)) = true := beq_iff_eq.mpr c2
  have c2b1 : (a0.toList != ([115, 99, 114, 105, 112, 116] : List UInt8)) = false := bne_eq_false_iff_eq.mpr c2
  clear c2
  obtain rfl := Option.some.inj H
  go_enter Tryd.func114, Tryd.ntmps114
  go_wp2
  go_ret
  exact ⟨ab6, by repeat (first | exact Drawn0.refl _ | apply Drawn0.step)⟩
 ·rw [if_neg c2] at H
  have c2b0 : (a0.toList == ([115, 99, 114, 105, 112, 116] : List UInt8)) = false := beq_eq_false_iff_ne.mpr c2
  have c2b1 : (a0.toList != ([115, 99, 114, 105, 112, 116] : List UInt8)) = true := bne_iff_ne.mpr c2
  obtain rfl := Option.some.inj H
  go_enter Tryd.func114, Tryd.ntmps114
  go_wp2
  go_ret
  exact ⟨ab6, by repeat (first | exact Drawn0.refl _ | apply Drawn0.step)⟩

/-! ### impl_valueSpelt: function 140 -/
def impl_valueSpelt.f (a0 : ByteArray) : Option (ByteArray) := (strings_ReplaceAll.f a0 (⟨#[38]⟩ : ByteArray) (⟨#[38, 97, 109, 112, 59]⟩ : ByteArray)).bind fun t283 => ((strings_ReplaceAll.f t283 (⟨#[34]⟩ : ByteArray) (⟨#[38, 113, 117, 111, 116, 59]⟩ : ByteArray)).bind fun t284 => (some t284))
set_option maxHeartbeats 8000000 in
set_option maxRecDepth 100000 in
theorem impl_valueSpelt.calls (a0 : ByteArray) (r : ByteArray) (w : World) (M_ : Int) (hm_ : w.cell? ⟨0, 0, none⟩ = some (.int .i64 M_)) (h : impl_valueSpelt.f a0 = some r) :
  Calls Tryd.prog 140 #[.string a0] w fun e w' => e = .returned (.string r) ∧ Below w.heap.size w w' := by
 have HB := Aside0.mk (Below.refl w.heap.size w)
 have HM_ := Aside0.mk hm_
 clear hm_
 have H : ((strings_ReplaceAll.f a0 (⟨#[38]⟩ : ByteArray) (⟨#[38, 97, 109, 112, 59]⟩ : ByteArray)).bind fun t283 => ((strings_ReplaceAll.f t283 (⟨#[34]⟩ : ByteArray) (⟨#[38, 113, 117, 111, 116, 59]⟩ : ByteArray)).bind fun t284 => (some t284))) = some r := h
 clear h
 replace H := Option.bind_eq_some_iff.mp H
 obtain ⟨t283, A20, H⟩ := H
 try dsimp only at H
 have A2 := Aside0.mk A20
 clear A20
 replace H := Option.bind_eq_some_iff.mp H
 obtain ⟨t284, A30, H⟩ := H
 try dsimp only at H
 have A3 := Aside0.mk A30
 clear A30
 obtain rfl := Option.some.inj H
 go_enter Tryd.func140, Tryd.ntmps140
 go_wp2_with (first | ((with_reducible refine gate_callee (f := 71) rfl ?_); refine goesL_ (some 4) rfl rfl Tryd.func71 (by kernel_rfl) rfl #[.string a0, .string (⟨#[38]⟩ : ByteArray), .string (⟨#[38, 97, 109, 112, 59]⟩ : ByteArray)] rfl ab5 ?_; (with_reducible refine (strings_ReplaceAll.calls a0 (⟨#[38]⟩ : ByteArray) (⟨#[38, 97, 109, 112, 59]⟩ : ByteArray) t283 _ M_ ?side1 A2.out).mono ?_); (case side1 => exact pw_cell_below ab1 HM_.out); rintro e w4 ⟨rfl, hb⟩; refine ⟨_, rfl, ?_⟩; have n0_ := Aside0.mk (below_step ab1 hb); clear HB; have HB := n0_; clear n0_; (try clear hb); (try clear hb2); (try clear hk); (try clear hi)) | ((with_reducible refine gate_callee (f := 71) rfl ?_); refine goesL_ (some 5) rfl rfl Tryd.func71 (by kernel_rfl) rfl #[.string t283, .string (⟨#[34]⟩ : ByteArray), .string (⟨#[38, 113, 117, 111, 116, 59]⟩ : ByteArray)] rfl ab5 ?_; (with_reducible refine (strings_ReplaceAll.calls t283 (⟨#[34]⟩ : ByteArray) (⟨#[38, 113, 117, 111, 116, 59]⟩ : ByteArray) t284 _ M_ ?side1 A3.out).mono ?_); (case side1 => exact pw_cell_below ab1 HM_.out); rintro e w5 ⟨rfl, hb⟩; refine ⟨_, rfl, ?_⟩; have n0_ := Aside0.mk (below_step ab1 hb); clear HB; have HB := n0_; clear n0_; (try clear hb); (try clear hb2); (try clear hk); (try clear hi)))
 go_ret
 exact ⟨ab7, ab1⟩

/-! ### impl_valueSaid: function 116 -/
def impl_valueSaid.f (a0 : ByteArray) : Option (ByteArray) := (impl_valueSpelt.f a0).bind fun t285 => ((strings_ReplaceAll.f t285 (⟨#[13]⟩ : ByteArray) (⟨#[38, 35, 49, 51, 59]⟩ : ByteArray)).bind fun t286 => (some t286))
set_option maxHeartbeats 8000000 in
set_option maxRecDepth 100000 in
theorem impl_valueSaid.calls (a0 : ByteArray) (r : ByteArray) (w : World) (M_ : Int) (hm_ : w.cell? ⟨0, 0, none⟩ = some (.int .i64 M_)) (h : impl_valueSaid.f a0 = some r) :
  Calls Tryd.prog 116 #[.string a0] w fun e w' => e = .returned (.string r) ∧ Below w.heap.size w w' := by
 have HB := Aside0.mk (Below.refl w.heap.size w)
 have HM_ := Aside0.mk hm_
 clear hm_
 have H : ((impl_valueSpelt.f a0).bind fun t285 => ((strings_ReplaceAll.f t285 (⟨#[13]⟩ : ByteArray) (⟨#[38, 35, 49, 51, 59]⟩ : ByteArray)).bind fun t286 => (some t286))) = some r := h
 clear h
 replace H := Option.bind_eq_some_iff.mp H
 obtain ⟨t285, A20, H⟩ := H
 try dsimp only at H
 have A2 := Aside0.mk A20
 clear A20
 replace H := Option.bind_eq_some_iff.mp H
 obtain ⟨t286, A30, H⟩ := H
 try dsimp only at H
 have A3 := Aside0.mk A30
 clear A30
 obtain rfl := Option.some.inj H
 go_enter Tryd.func116, Tryd.ntmps116
 go_wp2_with (first | ((with_reducible refine gate_callee (f := 140) rfl ?_); refine goesL_ (some 4) rfl rfl Tryd.func140 (by kernel_rfl) rfl #[.string a0] rfl ab5 ?_; (with_reducible refine (impl_valueSpelt.calls a0 t285 _ M_ ?side1 A2.out).mono ?_); (case side1 => exact pw_cell_below ab1 HM_.out); rintro e w4 ⟨rfl, hb⟩; refine ⟨_, rfl, ?_⟩; have n0_ := Aside0.mk (below_step ab1 hb); clear HB; have HB := n0_; clear n0_; (try clear hb); (try clear hb2); (try clear hk); (try clear hi)) | ((with_reducible refine gate_callee (f := 71) rfl ?_); refine goesL_ (some 5) rfl rfl Tryd.func71 (by kernel_rfl) rfl #[.string t285, .string (⟨#[13]⟩ : ByteArray), .string (⟨#[38, 35, 49, 51, 59]⟩ : ByteArray)] rfl ab5 ?_; (with_reducible refine (strings_ReplaceAll.calls t285 (⟨#[13]⟩ : ByteArray) (⟨#[38, 35, 49, 51, 59]⟩ : ByteArray) t286 _ M_ ?side1 A3.out).mono ?_); (case side1 => exact pw_cell_below ab1 HM_.out); rintro e w5 ⟨rfl, hb⟩; refine ⟨_, rfl, ?_⟩; have n0_ := Aside0.mk (below_step ab1 hb); clear HB; have HB := n0_; clear n0_; (try clear hb); (try clear hb2); (try clear hk); (try clear hi)))
 go_ret
 exact ⟨ab7, ab1⟩

/-! ### impl_startSpelt: function 115 -/
def impl_startSpelt.l0 : Nat → ByteArray → List (S114) → Int → Int → Option (ByteArray)
 | 0, _, _, _, _ => none
 | k + 1, x7, x12, x13, x14 => if x14 < x13 then (if 0 ≤ x14 then (if x14 < (x12.length : Int) then (if 1 + ((rd_T114 x12 x14).f0).size ≤ 9223372036854775807 then (if ((⟨#[32]⟩ : ByteArray) ++ ((rd_T114 x12 x14).f0)).size + 2 ≤ 9223372036854775807 then ((impl_valueSaid.f ((rd_T114 x12 x14).f1)).bind fun t289 => (if (((⟨#[32]⟩ : ByteArray) ++ ((rd_T114 x12 x14).f0)) ++ (⟨#[61, 34]⟩ : ByteArray)).size + t289.size ≤ 9223372036854775807 then (if ((((⟨#[32]⟩ : ByteArray) ++ ((rd_T114 x12 x14).f0)) ++ (⟨#[61, 34]⟩ : ByteArray)) ++ t289).size + 1 ≤ 9223372036854775807 then (if x7.size + (((((⟨#[32]⟩ : ByteArray) ++ ((rd_T114 x12 x14).f0)) ++ (⟨#[61, 34]⟩ : ByteArray)) ++ t289) ++ (⟨#[34]⟩ : ByteArray)).size ≤ 9223372036854775807 then (impl_startSpelt.l0 k (x7 ++ (((((⟨#[32]⟩ : ByteArray) ++ ((rd_T114 x12 x14).f0)) ++ (⟨#[61, 34]⟩ : ByteArray)) ++ t289) ++ (⟨#[34]⟩ : ByteArray))) x12 x13 (wrap64 (x14 + 1))) else (none)) else (none)) else (none))) else (none)) else (none)) else (none)) else (none)) else (some x7)
def impl_startSpelt.f (k : Nat) (a0 : ByteArray) (l1 : List (S114))  : Option (ByteArray) := if 1 + a0.size ≤ 9223372036854775807 then (impl_startSpelt.l0 k ((⟨#[60]⟩ : ByteArray) ++ a0) l1 (l1.length : Int) 0) else (none)
theorem impl_startSpelt.mono_l : ∀ k, (∀ y0 y1 y2 y3, LeO (impl_startSpelt.l0 k y0 y1 y2 y3) (impl_startSpelt.l0 (k + 1) y0 y1 y2 y3))
 | 0 => fun _ _ _ _ r h => by simp [impl_startSpelt.l0] at h
 | k + 1 => by
  have ih0 := impl_startSpelt.mono_l k
  ·intro y0 y1 y2 y3
   unfold impl_startSpelt.l0
   repeat' first
   | (with_reducible exact ih0 _ _ _ _)
   | (with_reducible exact LeO.refl _)
   | (with_reducible exact LeO.none _)
   | (with_reducible refine LeO.ite ?_ ?_)
   | (with_reducible refine LeO.bind ?_ (fun _ => ?_))
theorem impl_startSpelt.mono : ∀ a0 a1 k, LeO (impl_startSpelt.f k a0 a1) (impl_startSpelt.f (k + 1) a0 a1) := by
 intro a0 a1 k
 have ih0 := impl_startSpelt.mono_l k
 unfold impl_startSpelt.f
 repeat' first
   | (with_reducible exact ih0 _ _ _ _)
   | (with_reducible exact LeO.refl _)
   | (with_reducible exact LeO.none _)
   | (with_reducible refine LeO.ite ?_ ?_)
   | (with_reducible refine LeO.bind ?_ (fun _ => ?_))
def impl_startSpelt.T5 : Bool × List (List Nat × List Nat) := (true, [([], []), ([], []), ([1], [1]), ([2], [2]), ([3], [3]), ([], []), ([], []), ([6], [6]), ([5, 7], [5, 7]), ([4, 8], [4, 8]), ([9], [9]), ([0, 10], [0, 10]), ([11, 8, 0, 1, 2, 3, 4, 5, 6, 7, 8, 9, 10, 11], [0, 11])])
def impl_startSpelt.B5 : List Nat := [0, 0, 2, 6, 14, 0, 0, 64, 224, 510, 1022, 2047, 4095]
theorem impl_startSpelt.tab5 : rtab .any (opsOf Tryd.f115 5) = impl_startSpelt.T5 := by kernel_rfl
theorem impl_startSpelt.bits5 : waitsOk impl_startSpelt.T5.2 impl_startSpelt.B5 = true := by kernel_rfl
theorem impl_startSpelt.goesV {P : Program} {ops : Array Oper} {Q : Exit → Act → World → Prop} {oi : Oper} {N : Option Tmp} {a : Act} {w : World} {K : Act → World → Prop} {f : FuncId} {fn : Func} {cal : Operand} {xs : Array Operand} {ts : Array TypeId} (hf : P.funcs[f]? = some fn) (hname : (fn.name == "runtime.NumGoroutine") = false) (hb : fn.body.isSome = true) (args : Array Value) (hw : Region.wanted oi (yielded ops a.tmps) = true) (hN : oi.dst = N) (hop : oi.op = .call { callee := .value cal, args := xs, argTypes := ts }) (hc : a.eval cal = .func (.func f) #[] #[]) (hargs : xs.map a.eval = args) (h : Calls P f args w fun e w' => ∃ v, e = .returned v ∧ K (a.put N v) w') : if Region.wanted oi (yielded ops a.tmps) = true then Oper.wp P oi a w K Q else K (a.put N undef) w := by
 refine call_ f args hw hN ?_ h
 have he := enters_ hf hname hb args w
 unfold execOp
 simp [hop, resolve, Deferred.ofValue, invoke, hc, hargs, he]
set_option maxHeartbeats 8000000 in
set_option maxRecDepth 100000 in
theorem impl_startSpelt.calls (k : Nat) (a0 : ByteArray) (A1 : Option Addr) (c1 : Nat) (l1 : List (S114))  (r : ByteArray) (w : World) (hr1 : Kd.C k114 w A1 l1.length l1) (hc1 : l1.length ≤ c1) (M_ : Int) (hm_ : w.cell? ⟨0, 0, none⟩ = some (.int .i64 M_)) (h : impl_startSpelt.f k a0 l1 = some r) :
  Calls Tryd.prog 115 #[.string a0, .slice A1 l1.length c1, .func (.func 116) #[] #[]] w fun e w' => e = .returned (.string r) ∧ Below w.heap.size w w' := by
 have hu114 := Tryd.underlying114
 have HR1 := Aside0.mk hr1
 have HC1 := Aside0.mk hc1
 clear hr1 hc1
 have HB := Aside0.mk (Below.refl w.heap.size w)
 have HM_ := Aside0.mk hm_
 clear hm_
 have H : (if 1 + a0.size ≤ 9223372036854775807 then (impl_startSpelt.l0 k ((⟨#[60]⟩ : ByteArray) ++ a0) l1 (l1.length : Int) 0) else (none)) = some r := h
 clear h
 by_cases c4 : 1 + a0.size ≤ 9223372036854775807
 case neg => rw [if_neg c4] at H; exact absurd H (by simp)
 rw [if_pos c4] at H
 have c4b0 := eq_true c4
 have c4b1 := decide_eq_true c4
 try have c4b2 : (9223372036854775807 < 1 + a0.size) = False := eq_false (Nat.not_lt.2 c4)
 have H' := Aside0.mk H
 clear H
 go_enter Tryd.func115, Tryd.ntmps115
 go_wp2
 go_loopg [7, 14] k (fun kq v7 v14 w' => ∃ (x7_1 : ByteArray) (x14_1 : Int), v7 = .string x7_1 ∧ v14 = .int .i64 x14_1 ∧ Aside0 (impl_startSpelt.l0 kq x7_1 l1 (l1.length : Int) x14_1 = some r) ∧ Aside0 (kq ≤ k) ∧ Aside0 (Below w.heap.size w w'))
 case atStart => exact ⟨((⟨#[60]⟩ : ByteArray) ++ a0), (0), ab6, ab6, H', ⟨Nat.le_refl _⟩, ⟨ab1⟩⟩
 case round =>
  clear H'
  (try clear c1); (try clear p2); (try clear c4); (try clear c4b0); (try clear c4b1); (try clear c4b2)
  obtain ⟨x7_1, x14_1, rfl, rfl, HA, HK1, HB⟩ := hrel
  cases gk with
  | zero => exact absurd HA.out (by simp [impl_startSpelt.l0])
  | succ k1 =>
   have H := HA.out
   clear HA
   simp only [impl_startSpelt.l0] at H
   by_cases c5 : x14_1 < (l1.length : Int)
   ·rw [if_pos c5] at H
    have c5b0 := decide_eq_true c5
    clear c5
    by_cases c6 : 0 ≤ x14_1
    case neg => rw [if_neg c6] at H; exact absurd H (by simp)
    rw [if_pos c6] at H
    have c6b0 := decide_eq_true c6
    clear c6
    by_cases c7 : x14_1 < (l1.length : Int)
    case neg => rw [if_neg c7] at H; exact absurd H (by simp)
    rw [if_pos c7] at H
    have c7b0 := decide_eq_true c7
    clear c7
    by_cases c8 : 1 + ((rd_T114 l1 x14_1).f0).size ≤ 9223372036854775807
    case neg => rw [if_neg c8] at H; exact absurd H (by simp)
    rw [if_pos c8] at H
    have c8b0 := eq_true c8
    have c8b1 := decide_eq_true c8
    try have c8b2 : (9223372036854775807 < 1 + ((rd_T114 l1 x14_1).f0).size) = False := eq_false (Nat.not_lt.2 c8)
    by_cases c9 : ((⟨#[32]⟩ : ByteArray) ++ ((rd_T114 l1 x14_1).f0)).size + 2 ≤ 9223372036854775807
    case neg => rw [if_neg c9] at H; exact absurd H (by simp)
    rw [if_pos c9] at H
    have c9b0 := eq_true c9
    have c9b1 := decide_eq_true c9
    try (have c9b5 := c9; simp only [ByteArray.size_append, show (⟨#[32]⟩ : ByteArray).size = 1 from rfl] at c9b5; have c9b6 := eq_false (Nat.not_lt.2 c9b5))
    try have c9b2 : (9223372036854775807 < ((⟨#[32]⟩ : ByteArray) ++ ((rd_T114 l1 x14_1).f0)).size + 2) = False := eq_false (Nat.not_lt.2 c9)
    replace H := Option.bind_eq_some_iff.mp H
    obtain ⟨t289, A100, H⟩ := H
    try dsimp only at H
    have A10 := Aside0.mk A100
    clear A100
    by_cases c11 : (((⟨#[32]⟩ : ByteArray) ++ ((rd_T114 l1 x14_1).f0)) ++ (⟨#[61, 34]⟩ : ByteArray)).size + t289.size ≤ 9223372036854775807
    case neg => rw [if_neg c11] at H; exact absurd H (by simp)
    rw [if_pos c11] at H
    have c11b0 := eq_true c11
    have c11b1 := decide_eq_true c11
    try (have c11b5 := c11; simp only [ByteArray.size_append, show (⟨#[32]⟩ : ByteArray).size = 1 from rfl, show (⟨#[61, 34]⟩ : ByteArray).size = 2 from rfl] at c11b5; have c11b6 := eq_false (Nat.not_lt.2 c11b5))
    try have c11b2 : (9223372036854775807 < (((⟨#[32]⟩ : ByteArray) ++ ((rd_T114 l1 x14_1).f0)) ++ (⟨#[61, 34]⟩ : ByteArray)).size + t289.size) = False := eq_false (Nat.not_lt.2 c11)
    by_cases c12 : ((((⟨#[32]⟩ : ByteArray) ++ ((rd_T114 l1 x14_1).f0)) ++ (⟨#[61, 34]⟩ : ByteArray)) ++ t289).size + 1 ≤ 9223372036854775807
    case neg => rw [if_neg c12] at H; exact absurd H (by simp)
    rw [if_pos c12] at H
    have c12b0 := eq_true c12
    have c12b1 := decide_eq_true c12
    try (have c12b5 := c12; simp only [ByteArray.size_append, show (⟨#[32]⟩ : ByteArray).size = 1 from rfl, show (⟨#[61, 34]⟩ : ByteArray).size = 2 from rfl] at c12b5; have c12b6 := eq_false (Nat.not_lt.2 c12b5))
    try have c12b2 : (9223372036854775807 < ((((⟨#[32]⟩ : ByteArray) ++ ((rd_T114 l1 x14_1).f0)) ++ (⟨#[61, 34]⟩ : ByteArray)) ++ t289).size + 1) = False := eq_false (Nat.not_lt.2 c12)
    by_cases c13 : x7_1.size + (((((⟨#[32]⟩ : ByteArray) ++ ((rd_T114 l1 x14_1).f0)) ++ (⟨#[61, 34]⟩ : ByteArray)) ++ t289) ++ (⟨#[34]⟩ : ByteArray)).size ≤ 9223372036854775807
    case neg => rw [if_neg c13] at H; exact absurd H (by simp)
    rw [if_pos c13] at H
    have c13b0 := eq_true c13
    have c13b1 := decide_eq_true c13
    try (have c13b5 := c13; simp only [ByteArray.size_append, show (⟨#[32]⟩ : ByteArray).size = 1 from rfl, show (⟨#[34]⟩ : ByteArray).size = 1 from rfl, show (⟨#[61, 34]⟩ : ByteArray).size = 2 from rfl] at c13b5; have c13b6 := eq_false (Nat.not_lt.2 c13b5))
    try have c13b2 : (9223372036854775807 < x7_1.size + (((((⟨#[32]⟩ : ByteArray) ++ ((rd_T114 l1 x14_1).f0)) ++ (⟨#[61, 34]⟩ : ByteArray)) ++ t289) ++ (⟨#[34]⟩ : ByteArray)).size) = False := eq_false (Nat.not_lt.2 c13)
    have H' := Aside0.mk H
    clear H
    have p287 : 0 ≤ (x14_1 : Int) := of_decide_eq_true ab4
    have q287 : x14_1 < (l1.length : Int) := of_decide_eq_true ab4
    obtain ⟨ad287, e287, hx287_0, hx287_1⟩ := at_T114 HR1.out x14_1 p287 q287
    cases e287
    replace hx287_0 := pw_cell_below HB.out hx287_0
    replace hx287_1 := pw_cell_below HB.out hx287_1
    replace p287 := eq_true p287
    replace q287 := eq_true q287
    try go_wp2_with (first | ((with_reducible refine gate_dst (N := 9) rfl ?_); refine box_event ?hg (N := 9) ?hd (cs := #[.string (⟨#[]⟩ : ByteArray), .string (⟨#[]⟩ : ByteArray)]) (t := 114) ?hr ?_; (case hd => rfl); (case hg => rfl); (case hr => first | (go_simp; done) | (go_simp; rfl)); intro gb288 hg w14 hbox hb; have n0_ := Aside0.mk (below_step ab1 hb); have n1_ := Aside0.mk (hbox); have n2_ := Aside0.mk ((by rw [hg]; exact (below_size ab1) : w.heap.size ≤ gb288)); have n3_ := Aside0.mk ((by rw [hg]; exact (below_size ab1) : w.heap.size ≤ gb288)); clear HB; have HB := n0_; have BK288 := n1_; have GW288 := n2_; have GE288 := n3_; clear n0_ n1_ n2_ n3_; clear hb hbox hg; obtain ⟨⟨hcz15_0, hcz15_1⟩, hfz15_0, hfz15_1⟩ := Op.cells2 BK288.out))
    have n0_ : Aside0 (((w14.setCell ⟨gb288, 0, none⟩ (.string ((rd_T114 l1 x14_1).f0))).setCell ⟨gb288, 1, none⟩ (.string ((rd_T114 l1 x14_1).f1))).heap[gb288]? = some (.cells #[.string ((rd_T114 l1 x14_1).f0), .string ((rd_T114 l1 x14_1).f1)] 114 (0, 0))) := ⟨by (with_reducible repeat (first | refine blk_drewN ?_ _ | refine blk_drew ?_ | refine blk_alloc ?_ _)); refine blk_put (cs := #[.string ((rd_T114 l1 x14_1).f0), .string (⟨#[]⟩ : ByteArray)]) ?_ 1 _ rfl; (with_reducible repeat (first | refine blk_drewN ?_ _ | refine blk_drew ?_ | refine blk_alloc ?_ _)); refine blk_put (cs := #[.string (⟨#[]⟩ : ByteArray), .string (⟨#[]⟩ : ByteArray)]) ?_ 0 _ rfl; (with_reducible repeat (first | refine blk_drewN ?_ _ | refine blk_drew ?_ | refine blk_alloc ?_ _)); exact BK288.out⟩
    have n1_ : Aside0 (Below w.heap.size w ((w14.setCell ⟨gb288, 0, none⟩ (.string ((rd_T114 l1 x14_1).f0))).setCell ⟨gb288, 1, none⟩ (.string ((rd_T114 l1 x14_1).f1)))) := ⟨ab2 GE288⟩
    (try clear BK288)
    (try clear HB)
    generalize ((w14.setCell ⟨gb288, 0, none⟩ (.string ((rd_T114 l1 x14_1).f0))).setCell ⟨gb288, 1, none⟩ (.string ((rd_T114 l1 x14_1).f1))) = w16 at n0_ n1_ ⊢
    have BK288 := n0_
    have HB := n1_
    clear n0_ n1_
    have n0_ := Aside0.mk (blk_drew BK288.out)
    have n1_ := Aside0.mk (below_drew1 HB.out)
    clear BK288
    clear HB
    have BK288 := n0_
    have HB := n1_
    clear n0_ n1_
    refine start_ (n := 13) (S := fun w' => w'.cell? ⟨gb288, 0, none⟩ = some (.string ((rd_T114 l1 x14_1).f0)) ∧ w'.cell? ⟨gb288, 1, none⟩ = some (.string ((rd_T114 l1 x14_1).f1))) (ds := []) #[false, false, false, false, false, false, false, false, false, false, false, false, false] (by kernel_rfl) rfl rfl ⟨(blk_cell BK288.out 0).trans rfl, (blk_cell BK288.out 1).trans rfl⟩ (fun hHeld => ?_); refine with_tabW impl_startSpelt.tab5 impl_startSpelt.bits5 (fun HT_ HW_ => ?_)
    generalize w16.drew = w17 at BK288 HB hHeld ⊢
    refine pure_ (i := 0) (N := some 18) (v := ?_) (a' := ?_) #[true, false, false, false, false, false, false, false, false, false, false, false, false] rfl rfl (any_of HT_.out (by kernel_rfl)) (fun _ _ _ h => h) (Or.inl ⟨by rfl, ?_⟩) ?_ ?_
    rotate_left
    ·intro w'
     go_simp
     with_reducible rfl
    rotate_left
    ·simp only [Act.put, List.setIfInBounds_toArray, List.set_cons_zero, List.set_cons_succ, i64_w, i32_w]
     rfl
    refine pure_ (i := 1) (N := some 19) (v := ?_) (a' := ?_) #[true, true, false, false, false, false, false, false, false, false, false, false, false] rfl rfl (any_of HT_.out (by kernel_rfl)) (fun _ _ _ h => h) (Or.inl ⟨by rfl, ?_⟩) ?_ ?_
    rotate_left
    ·intro w'
     go_simp
     with_reducible rfl
    rotate_left
    ·simp only [Act.put, List.setIfInBounds_toArray, List.set_cons_zero, List.set_cons_succ, i64_w, i32_w]
     rfl
    refine pure_ (i := 5) (N := some 23) (v := ?_) (a' := ?_) #[true, true, false, false, false, true, false, false, false, false, false, false, false] rfl rfl (any_of HT_.out (by kernel_rfl)) (fun _ _ _ h => h) (Or.inl ⟨by rfl, ?_⟩) ?_ ?_
    rotate_left
    ·intro w'
     go_simp
     with_reducible rfl
    rotate_left
    ·simp only [Act.put, List.setIfInBounds_toArray, List.set_cons_zero, List.set_cons_succ, i64_w, i32_w]
     rfl
    refine pure_ (i := 6) (N := some 24) (v := ?_) (a' := ?_) #[true, true, false, false, false, true, true, false, false, false, false, false, false] rfl rfl (any_of HT_.out (by kernel_rfl)) (fun _ _ _ h => h) (Or.inl ⟨by rfl, ?_⟩) ?_ ?_
    rotate_left
    ·intro w'
     go_simp
     with_reducible rfl
    rotate_left
    ·simp only [Act.put, List.setIfInBounds_toArray, List.set_cons_zero, List.set_cons_succ, i64_w, i32_w]
     rfl
    refine take_ (i := 2) (N := some 20) (v := ?_) (a' := ?_) #[true, true, true, false, false, true, true, false, false, false, false, false, false] rfl rfl (take_ofW HT_.out HW_.out (by kernel_rfl)) (fun _ _ _ h => h) (Or.inl ⟨by rfl, ?_⟩) hHeld ?_ ?_
    rotate_left
    ·rintro w' ⟨s0, s1⟩
     go_simp
     with_reducible rfl
    rotate_left
    ·simp only [Act.put, List.setIfInBounds_toArray, List.set_cons_zero, List.set_cons_succ, i64_w, i32_w]
     rfl
    refine pure_ (i := 3) (N := some 21) (v := ?_) (a' := ?_) #[true, true, true, true, false, true, true, false, false, false, false, false, false] rfl rfl (any_of HT_.out (by kernel_rfl)) (fun _ _ _ h => h) (Or.inl ⟨by rfl, ?_⟩) ?_ ?_
    rotate_left
    ·intro w'
     go_simp
     with_reducible rfl
    rotate_left
    ·simp only [Act.put, List.setIfInBounds_toArray, List.set_cons_zero, List.set_cons_succ, i64_w, i32_w]
     rfl
    refine pure_ (i := 4) (N := some 22) (v := ?_) (a' := ?_) #[true, true, true, true, true, true, true, false, false, false, false, false, false] rfl rfl (any_of HT_.out (by kernel_rfl)) (fun _ _ _ h => h) (Or.inl ⟨by rfl, ?_⟩) ?_ ?_
    rotate_left
    ·intro w'
     go_simp
     with_reducible rfl
    rotate_left
    ·simp only [Act.put, List.setIfInBounds_toArray, List.set_cons_zero, List.set_cons_succ, i64_w, i32_w]
     rfl
    refine take_ (i := 7) (N := some 25) (v := ?_) (a' := ?_) #[true, true, true, true, true, true, true, true, false, false, false, false, false] rfl rfl (take_ofW HT_.out HW_.out (by kernel_rfl)) (fun _ _ _ h => h) (Or.inl ⟨by rfl, ?_⟩) hHeld ?_ ?_
    rotate_left
    ·rintro w' ⟨s0, s1⟩
     go_simp
     with_reducible rfl
    rotate_left
    ·simp only [Act.put, List.setIfInBounds_toArray, List.set_cons_zero, List.set_cons_succ, i64_w, i32_w]
     rfl
    refine one_ (i := 8) (N := some 26) #[true, true, true, true, true, true, true, true, true, false, false, false, false] rfl rfl (one_of HT_.out (by kernel_rfl)) (by decide) (fun K hK => ?_)
    refine impl_startSpelt.goesV Tryd.func116 (by kernel_rfl) rfl #[.string ((rd_T114 l1 x14_1).f1)] (by rfl) rfl rfl (by rfl) ab5 ?_
    with_reducible refine (impl_valueSaid.calls ((rd_T114 l1 x14_1).f1) t289 _ M_ ?side1 A10.out).mono ?_
    (case side1 => exact pw_cell_below (ab2 GE288) HM_.out)
    rintro e w18 ⟨rfl, hb⟩
    refine ⟨_, rfl, ?_⟩
    have n0_ := Aside0.mk (blk_below (g := gb288) (o := .cells #[.string ((rd_T114 l1 x14_1).f0), .string ((rd_T114 l1 x14_1).f1)] 114 (0, 0)) (ab3 BK288) hb)
    have n1_ := Aside0.mk (below_step (ab2 GE288) hb)
    clear BK288
    clear HB
    have BK288 := n0_
    have HB := n1_
    clear n0_ n1_
    (try clear hb)
    (try clear hb2)
    (try clear hk)
    (try clear hi)
    refine hK.out _ _ ⟨(blk_cell BK288.out 0).trans rfl, (blk_cell BK288.out 1).trans rfl⟩ (fun hHeld => ?_)
    clear hK K
    refine norm_ (a' := ?_) ?_ ?_
    rotate_left
    ·show Act.put _ (some 26) _ = _
     simp only [Act.put, List.setIfInBounds_toArray, List.set_cons_zero, List.set_cons_succ, i64_w, i32_w]
     rfl
    refine pure_ (i := 9) (N := some 27) (v := ?_) (a' := ?_) #[true, true, true, true, true, true, true, true, true, true, false, false, false] rfl rfl (any_of HT_.out (by kernel_rfl)) (fun _ _ _ h => h) (Or.inl ⟨by rfl, ?_⟩) ?_ ?_
    rotate_left
    ·intro w'
     go_simp
     with_reducible rfl
    rotate_left
    ·simp only [Act.put, List.setIfInBounds_toArray, List.set_cons_zero, List.set_cons_succ, i64_w, i32_w]
     rfl
    refine pure_ (i := 10) (N := some 28) (v := ?_) (a' := ?_) #[true, true, true, true, true, true, true, true, true, true, true, false, false] rfl rfl (any_of HT_.out (by kernel_rfl)) (fun _ _ _ h => h) (Or.inl ⟨by rfl, ?_⟩) ?_ ?_
    rotate_left
    ·intro w'
     go_simp
     with_reducible rfl
    rotate_left
    ·simp only [Act.put, List.setIfInBounds_toArray, List.set_cons_zero, List.set_cons_succ, i64_w, i32_w]
     rfl
    refine pure_ (i := 11) (N := some 29) (v := ?_) (a' := ?_) #[true, true, true, true, true, true, true, true, true, true, true, true, false] rfl rfl (any_of HT_.out (by kernel_rfl)) (fun _ _ _ h => h) (Or.inl ⟨by rfl, ?_⟩) ?_ ?_
    rotate_left
    ·intro w'
     go_simp
     with_reducible rfl
    rotate_left
    ·simp only [Act.put, List.setIfInBounds_toArray, List.set_cons_zero, List.set_cons_succ, i64_w, i32_w]
     rfl
    refine pure_ (i := 12) (N := some 7) (v := ?_) (a' := ?_) #[true, true, true, true, true, true, true, true, true, true, true, true, true] rfl rfl (any_of HT_.out (by kernel_rfl)) (fun _ _ _ h => h) (Or.inl ⟨by rfl, ?_⟩) ?_ ?_
    rotate_left
    ·intro w'
     go_simp
     with_reducible rfl
    rotate_left
    ·simp only [Act.put, List.setIfInBounds_toArray, List.set_cons_zero, List.set_cons_succ, i64_w, i32_w]
     rfl
    refine done_ (done_of HT_.out (by kernel_rfl)) ?_
    try go_wp2
    go_roundg k1
    case measure => have := HK1.out; omega
    case rel => exact ⟨(x7_1 ++ (((((⟨#[32]⟩ : ByteArray) ++ ((rd_T114 l1 x14_1).f0)) ++ (⟨#[61, 34]⟩ : ByteArray)) ++ t289) ++ (⟨#[34]⟩ : ByteArray))), (wrap64 (x14_1 + 1)), ab6, ab6, H', ⟨by have := HK1.out; omega⟩, ⟨ab2 GE288⟩⟩
   ·rw [if_neg c5] at H
    have c5b0 := decide_eq_false c5
    clear c5
    obtain rfl := Option.some.inj H
    go_wp2
    go_ret
    exact ⟨ab7, ab1⟩

end Go.Proofs.YtgljgbkbjlondaaDoor.P
