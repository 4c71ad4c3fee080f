-- WRITTEN BY this session's own programs
import Derived.Test.YtekkalnafngfeaaPi24
import Derived.Test.YtekkalnafngfeaaPi16
namespace Go.Proofs.Ytekkalnafngfeaa.P
open Go.RowKit Go.Proofs.YtekkalnafngfeaaW.PrintWords Go.Proofs.YtekkalnafngfeaaW.PrintLast Go.Proofs.YtekkalnafngfeaaW.PrintMore Go
set_option linter.unusedVariables false
set_option linter.unusedSimpArgs false
set_option maxHeartbeats 8000000
set_option maxRecDepth 100000
attribute [local go_sem] max2_int min2_int max_two min_two max_three min_three max_four min_four
theorem z17_0 {q0 p : Prop} (g0 : Aside0 q0) (h : Aside0 q0 → p := by intro g0_; repeat (first | (with_reducible first | exact g0_.out | apply IsS33.alloc | apply IsS33.drewN | apply IsS33.drew | apply IsS33.set_3 | apply IsS33.set_4) | exact g0_.out)) : p := h g0
theorem z17_1 {p : Prop} (h : p := by repeat (first | (with_reducible first | exact HB.out | apply below_alloc | apply pw_below_drewN | apply below_drew1) | exact HB.out)) : p := h
theorem z17_2 {p : Prop} (h : p := by repeat (first | (with_reducible first | exact HK.out | apply KeepBut.set_ | apply keep_drewN | apply keep_drew | apply keep_alloc) | exact HK.out)) : p := h
def impl_isOneOf.f (a0 : ByteArray) (a1 : ByteArray) : Option (Bool) := if a0.toList = ([] : List UInt8) then (some false) else ((strings_Contains.f a0 (⟨#[32]⟩ : ByteArray)).bind fun t341 => (if t341 = true then (some false) else (if 1 + a1.size ≤ 9223372036854775807 then (if ((⟨#[32]⟩ : ByteArray) ++ a1).size + 1 ≤ 9223372036854775807 then (if 1 + a0.size ≤ 9223372036854775807 then (if ((⟨#[32]⟩ : ByteArray) ++ a0).size + 1 ≤ 9223372036854775807 then ((strings_Contains.f (((⟨#[32]⟩ : ByteArray) ++ a1) ++ (⟨#[32]⟩ : ByteArray)) (((⟨#[32]⟩ : ByteArray) ++ a0) ++ (⟨#[32]⟩ : ByteArray))).bind fun t342 => (some t342)) else (none)) else (none)) else (none)) else (none))))
theorem impl_isOneOf.calls (a0 : ByteArray) (a1 : ByteArray) (r : Bool) (w : World) (M_ : Int) (hm_ : w.cell? ⟨0, 0, none⟩ = some (.int .i64 M_)) (h : impl_isOneOf.f a0 a1 = some r) :
  Calls Try.prog 76 #[.string a0, .string a1] w fun e w' => e = .returned (.bool r) ∧ Drawn0 w w' := by
 have HM_ := am hm_
 clear hm_
 have H : (if a0.toList = ([] : List UInt8) then (some false) else ((strings_Contains.f a0 (⟨#[32]⟩ : ByteArray)).bind fun t341 => (if t341 = true then (some false) else (if 1 + a1.size ≤ 9223372036854775807 then (if ((⟨#[32]⟩ : ByteArray) ++ a1).size + 1 ≤ 9223372036854775807 then (if 1 + a0.size ≤ 9223372036854775807 then (if ((⟨#[32]⟩ : ByteArray) ++ a0).size + 1 ≤ 9223372036854775807 then ((strings_Contains.f (((⟨#[32]⟩ : ByteArray) ++ a1) ++ (⟨#[32]⟩ : ByteArray)) (((⟨#[32]⟩ : ByteArray) ++ a0) ++ (⟨#[32]⟩ : ByteArray))).bind fun t342 => (some t342)) else (none)) else (none)) else (none)) else (none))))) = some r := h
 clear h
 replace H := ie_ H; rcases H with ⟨c3b0, c3b1, H⟩ | ⟨c3, c3b0, c3b1, H⟩
 ·obtain rfl := Option.some.inj H
  go_enter Try.func76, Try.ntmps76
  go_wp2
  go_ret
  exact ⟨ab6, by repeat (first | exact Drawn0.refl _ | apply Drawn0.step)⟩
 ·replace H := bi_ H; obtain ⟨t341, A4, H⟩ := H
  replace H := ib_ H; rcases H with ⟨rfl, H⟩ | ⟨rfl, H⟩
  ·obtain rfl := Option.some.inj H
   go_enter Try.func76, Try.ntmps76
   go_wp2_with (first | (go_at_call 80; (with_reducible refine (strings_Contains.calls a0 (⟨#[32]⟩ : ByteArray) true _ M_ HM_.out A4.out).mono ?_); rintro e w' ⟨rfl, ⟨nd, rfl⟩⟩))
   go_ret
   exact ⟨ab6, by repeat (first | exact Drawn0.refl _ | apply Drawn0.step)⟩
  ·by_cases c6 : 1 + a1.size ≤ 9223372036854775807
   case neg => rw [if_neg c6] at H; exact absurd H (by simp)
   rw [if_pos c6] at H
   have c6b0 := eq_true c6
   have c6b1 := decide_eq_true c6
   try have c6b2 : (9223372036854775807 < 1 + a1.size) = False := eq_false (Nat.not_lt.2 c6)
   by_cases c7 : ((⟨#[32]⟩ : ByteArray) ++ a1).size + 1 ≤ 9223372036854775807
   case neg => rw [if_neg c7] at H; exact absurd H (by simp)
   rw [if_pos c7] at H
   have c7b0 := eq_true c7
   have c7b1 := decide_eq_true c7
   try (have c7b5 := c7; simp only [ByteArray.size_append, show (⟨#[32]⟩ : ByteArray).size = 1 from rfl] at c7b5; have c7b6 := eq_false (Nat.not_lt.2 c7b5))
   try have c7b2 : (9223372036854775807 < ((⟨#[32]⟩ : ByteArray) ++ a1).size + 1) = False := eq_false (Nat.not_lt.2 c7)
   by_cases c8 : 1 + a0.size ≤ 9223372036854775807
   case neg => rw [if_neg c8] at H; exact absurd H (by simp)
   rw [if_pos c8] at H
   have c8b0 := eq_true c8
   have c8b1 := decide_eq_true c8
   try have c8b2 : (9223372036854775807 < 1 + a0.size) = False := eq_false (Nat.not_lt.2 c8)
   by_cases c9 : ((⟨#[32]⟩ : ByteArray) ++ a0).size + 1 ≤ 9223372036854775807
   case neg => rw [if_neg c9] at H; exact absurd H (by simp)
   rw [if_pos c9] at H
   have c9b0 := eq_true c9
   have c9b1 := decide_eq_true c9
   try (have c9b5 := c9; simp only [ByteArray.size_append, show (⟨#[32]⟩ : ByteArray).size = 1 from rfl] at c9b5; have c9b6 := eq_false (Nat.not_lt.2 c9b5))
   try have c9b2 : (9223372036854775807 < ((⟨#[32]⟩ : ByteArray) ++ a0).size + 1) = False := eq_false (Nat.not_lt.2 c9)
   replace H := bi_ H; obtain ⟨t342, A10, H⟩ := H
   obtain rfl := Option.some.inj H
   go_enter Try.func76, Try.ntmps76
   go_wp2_with (first | (go_at_call 80; (with_reducible refine (strings_Contains.calls a0 (⟨#[32]⟩ : ByteArray) false _ M_ HM_.out A4.out).mono ?_); rintro e w' ⟨rfl, ⟨nd, rfl⟩⟩) | ((with_reducible refine gf_ 80 ?_); refine gc_ Try.func80 (strings_Contains.calls (((⟨#[32]⟩ : ByteArray) ++ a1) ++ (⟨#[32]⟩ : ByteArray)) (((⟨#[32]⟩ : ByteArray) ++ a0) ++ (⟨#[32]⟩ : ByteArray)) t342 _ M_ HM_.out A10.out) ?_; rintro w' ⟨nd, rfl⟩))
   go_ret
   exact ⟨ab6, by repeat (first | exact Drawn0.refl _ | apply Drawn0.step)⟩
def impl_Format.f (a0 : ByteArray) : Option (Bool) := (impl_isOneOf.f a0 (⟨#[97, 32, 98, 32, 105, 32, 117, 32, 101, 109, 32, 115, 116, 114, 111, 110, 103, 32, 99, 111, 100, 101, 32, 115, 109, 97, 108, 108]⟩ : ByteArray)).bind fun t343 => (some t343)
theorem impl_Format.calls (a0 : ByteArray) (r : Bool) (w : World) (M_ : Int) (hm_ : w.cell? ⟨0, 0, none⟩ = some (.int .i64 M_)) (h : impl_Format.f a0 = some r) :
  Calls Try.prog 67 #[.string a0] w fun e w' => e = .returned (.bool r) ∧ Drawn0 w w' := by
 have HM_ := am hm_
 clear hm_
 have H : ((impl_isOneOf.f a0 (⟨#[97, 32, 98, 32, 105, 32, 117, 32, 101, 109, 32, 115, 116, 114, 111, 110, 103, 32, 99, 111, 100, 101, 32, 115, 109, 97, 108, 108]⟩ : ByteArray)).bind fun t343 => (some t343)) = some r := h
 clear h
 replace H := bi_ H; obtain ⟨t343, A2, H⟩ := H
 obtain rfl := Option.some.inj H
 go_enter Try.func67, Try.ntmps67
 go_wp2_with (first | ((with_reducible refine gf_ 76 ?_); refine gc_ Try.func76 (impl_isOneOf.calls a0 (⟨#[97, 32, 98, 32, 105, 32, 117, 32, 101, 109, 32, 115, 116, 114, 111, 110, 103, 32, 99, 111, 100, 101, 32, 115, 109, 97, 108, 108]⟩ : ByteArray) t343 _ M_ HM_.out A2.out) ?_; rintro w' ⟨nd, rfl⟩))
 go_ret
 exact ⟨ab6, by repeat (first | exact Drawn0.refl _ | apply Drawn0.step)⟩
def impl_Page_isFormat.f (s0_0 : List (S38)) (s0_1 : List Int) (s0_2 : List Int) (s0_3 : Int) (s0_4 : Int) (a1 : Int) : Option (Bool × Int × Int) := (impl_Page_isTag.f s0_0 s0_1 s0_2 s0_3 s0_4 a1).bind fun bt344 => (if bt344.1 = true then (if 0 ≤ a1 then (if a1 < (s0_0.length : Int) then ((impl_Format.f ((rd_T38 s0_0 a1).f2)).bind fun t348 => (some (t348, bt344.2.1, bt344.2.2))) else (none)) else (none)) else (some (false, bt344.2.1, bt344.2.2)))
theorem impl_Page_isFormat.calls (g : Nat) (s0_0 : List (S38)) (s0_1 : List Int) (s0_2 : List Int) (s0_3 : Int) (s0_4 : Int) (a1 : Int) (r1 : Bool) (r2 : Int) (r3 : Int) (w0 w : World) (hI : IsS33 w0 w g s0_0 s0_1 s0_2 s0_3 s0_4) (hB : Below w0.heap.size w0 w) (M_ : Int) (hm_ : w0.cell? ⟨0, 0, none⟩ = some (.int .i64 M_)) (h : impl_Page_isFormat.f s0_0 s0_1 s0_2 s0_3 s0_4 a1 = some (r1, r2, r3)) :
  Calls Try.prog 48 #[.pointer (some ⟨g, 0, none⟩), .int .i64 a1] w fun e w' => e = .returned (.bool r1) ∧ IsS33 w0 w' g s0_0 s0_1 s0_2 r2 r3 ∧ Below w0.heap.size w0 w' ∧ KeepBut w w' g none := by
 have HI0 := am hI
 have HK := am (KeepBut.refl w g none)
 have HL := am hB.size
 clear hI
 have HW0 := am hB.size
 have HB := am hB
 clear hB
 have HM_ := am hm_
 clear hm_
 have H : ((impl_Page_isTag.f s0_0 s0_1 s0_2 s0_3 s0_4 a1).bind fun bt344 => (if bt344.1 = true then (if 0 ≤ a1 then (if a1 < (s0_0.length : Int) then ((impl_Format.f ((rd_T38 s0_0 a1).f2)).bind fun t348 => (some (t348, bt344.2.1, bt344.2.2))) else (none)) else (none)) else (some (false, bt344.2.1, bt344.2.2)))) = some (r1, r2, r3) := h
 clear h
 replace H := Option.bind_eq_some_iff.mp H
 obtain ⟨⟨t344, t345, t346⟩, A30, H⟩ := H
 try dsimp only at H
 have A3 := am A30
 clear A30
 replace H := ib_ H; rcases H with ⟨rfl, H⟩ | ⟨rfl, H⟩
 ·replace H := iq_ H; obtain ⟨c5b0, H⟩ := H
  replace H := iq_ H; obtain ⟨c6b0, H⟩ := H
  replace H := bi_ H; obtain ⟨t348, A7, H⟩ := H
  simp only [Option.some.injEq, Prod.mk.injEq] at H
  obtain ⟨rfl, rfl, rfl⟩ := H
  go_enter Try.func48, Try.ntmps48
  go_wp2_with (first | ((with_reducible refine gf_ 46 ?_); refine gc_ Try.func46 (impl_Page_isTag.calls g s0_0 s0_1 s0_2 s0_3 s0_4 a1 true t345 t346 w0 _ ?side1 ?side2 A3.out) ?_; (case side1 => exact (z17_0 HI0)); (case side2 => exact (z17_1)); rintro w8 ⟨hi, hb, hk⟩; replace HK := am (KeepBut.trans (z17_2) hk (.inl rfl)); replace HB := am hb; replace HI0 := am hi; (try clear hb); (try clear hb2); (try clear hk); (try clear hi); obtain ⟨ASz9_0, cSz9_0, ASz9_1, cSz9_1, ASz9_2, cSz9_2, HGz9, hgz9, HSz9_0, HSz9_1, HSz9_2⟩ := HI0.out; obtain ⟨⟨_, _, _, _, _⟩, _, _, _, _, _⟩ := Op.cells5 HGz9; clear HGz9 hgz9; have p347 : 0 ≤ (a1 : Int) := of_decide_eq_true ab4; have q347 : a1 < (s0_0.length : Int) := of_decide_eq_true ab4; obtain ⟨ad347, A347_3, c347_3, A347_6, c347_6, e347, hx347_0, hx347_1, hx347_2, hx347_3, hx347_4, hx347_5, hx347_6, hl347_3, hi347_3, hl347_6, hi347_6⟩ := at_T38 HSz9_0 a1 p347 q347; cases e347; replace hx347_0 := pc_ HB hx347_0; replace hx347_1 := pc_ HB hx347_1; replace hx347_2 := pc_ HB hx347_2; replace hx347_3 := pc_ HB hx347_3; replace hx347_4 := pc_ HB hx347_4; replace hx347_5 := pc_ HB hx347_5; replace hx347_6 := pc_ HB hx347_6; have HR347_3 := am hi347_3; have HC347_3 := am hl347_3; clear hi347_3 hl347_3; have HR347_6 := am hi347_6; have HC347_6 := am hl347_6; clear hi347_6 hl347_6; replace p347 := eq_true p347; replace q347 := eq_true q347) | (go_at_call 67; (with_reducible refine (impl_Format.calls ((rd_T38 s0_0 a1).f2) t348 _ M_ (pw_cell_below ab1 HM_.out) A7.out).mono ?_); rintro e w' ⟨rfl, ⟨nd, rfl⟩⟩))
  go_ret
  exact ⟨ab7, (z17_0 HI0), ab1, z17_2⟩
 ·simp only [Option.some.injEq, Prod.mk.injEq] at H
  obtain ⟨rfl, rfl, rfl⟩ := H
  go_enter Try.func48, Try.ntmps48
  go_wp2_with (first | ((with_reducible refine gf_ 46 ?_); refine gc_ Try.func46 (impl_Page_isTag.calls g s0_0 s0_1 s0_2 s0_3 s0_4 a1 false t345 t346 w0 _ ?side1 ?side2 A3.out) ?_; (case side1 => exact (z17_0 HI0)); (case side2 => exact (z17_1)); rintro w10 ⟨hi, hb, hk⟩; replace HK := am (KeepBut.trans (z17_2) hk (.inl rfl)); replace HB := am hb; replace HI0 := am hi; (try clear hb); (try clear hb2); (try clear hk); (try clear hi)))
  go_ret
  exact ⟨ab7, (z17_0 HI0), ab1, z17_2⟩
def impl_Page_isNamed.f (s0_0 : List (S38)) (s0_1 : List Int) (s0_2 : List Int) (s0_3 : Int) (s0_4 : Int) (a1 : Int) (a2 : ByteArray) : Option (Bool × Int × Int) := if a1 = 0 then (some (true, s0_3, s0_4)) else ((impl_Page_isTag.f s0_0 s0_1 s0_2 s0_3 s0_4 a1).bind fun bt349 => (if bt349.1 = true then (if 0 ≤ a1 then (if a1 < (s0_0.length : Int) then (some ((((rd_T38 s0_0 a1).f2).toList == a2.toList), bt349.2.1, bt349.2.2)) else (none)) else (none)) else (some (false, bt349.2.1, bt349.2.2))))
theorem impl_Page_isNamed.calls (g : Nat) (s0_0 : List (S38)) (s0_1 : List Int) (s0_2 : List Int) (s0_3 : Int) (s0_4 : Int) (a1 : Int) (a2 : ByteArray) (r1 : Bool) (r2 : Int) (r3 : Int) (w0 w : World) (hI : IsS33 w0 w g s0_0 s0_1 s0_2 s0_3 s0_4) (hB : Below w0.heap.size w0 w) (h : impl_Page_isNamed.f s0_0 s0_1 s0_2 s0_3 s0_4 a1 a2 = some (r1, r2, r3)) :
  Calls Try.prog 49 #[.pointer (some ⟨g, 0, none⟩), .int .i64 a1, .string a2] w fun e w' => e = .returned (.bool r1) ∧ IsS33 w0 w' g s0_0 s0_1 s0_2 r2 r3 ∧ Below w0.heap.size w0 w' ∧ KeepBut w w' g none := by
 have HI0 := am hI
 have HK := am (KeepBut.refl w g none)
 have HL := am hB.size
 clear hI
 have HW0 := am hB.size
 have HB := am hB
 clear hB
 have H : (if a1 = 0 then (some (true, s0_3, s0_4)) else ((impl_Page_isTag.f s0_0 s0_1 s0_2 s0_3 s0_4 a1).bind fun bt349 => (if bt349.1 = true then (if 0 ≤ a1 then (if a1 < (s0_0.length : Int) then (some ((((rd_T38 s0_0 a1).f2).toList == a2.toList), bt349.2.1, bt349.2.2)) else (none)) else (none)) else (some (false, bt349.2.1, bt349.2.2))))) = some (r1, r2, r3) := h
 clear h
 replace H := ie_ H; rcases H with ⟨c4b0, c4b1, H⟩ | ⟨c4, c4b0, c4b1, H⟩
 ·simp only [Option.some.injEq, Prod.mk.injEq] at H
  obtain ⟨rfl, rfl, rfl⟩ := H
  go_enter Try.func49, Try.ntmps49
  go_wp2
  go_ret
  exact ⟨ab7, (z17_0 HI0), ab1, z17_2⟩
 ·replace H := Option.bind_eq_some_iff.mp H
  obtain ⟨⟨t349, t350, t351⟩, A50, H⟩ := H
  try dsimp only at H
  have A5 := am A50
  clear A50
  replace H := ib_ H; rcases H with ⟨rfl, H⟩ | ⟨rfl, H⟩
  ·replace H := iq_ H; obtain ⟨c7b0, H⟩ := H
   replace H := iq_ H; obtain ⟨c8b0, H⟩ := H
   simp only [Option.some.injEq, Prod.mk.injEq] at H
   obtain ⟨rfl, rfl, rfl⟩ := H
   go_enter Try.func49, Try.ntmps49
   go_wp2_with (first | (go_at_call 46; (with_reducible refine (impl_Page_isTag.calls g s0_0 s0_1 s0_2 s0_3 s0_4 a1 true t350 t351 w0 _ ?side1 ?side2 A5.out).mono ?_); (case side1 => exact (z17_0 HI0)); (case side2 => exact (z17_1)); rintro e w9 ⟨rfl, hi, hb, hk⟩; replace HK := am (KeepBut.trans (z17_2) hk (.inl rfl)); replace HB := am hb; replace HI0 := am hi; (try clear hb); (try clear hb2); (try clear hk); (try clear hi); obtain ⟨ASz10_0, cSz10_0, ASz10_1, cSz10_1, ASz10_2, cSz10_2, HGz10, hgz10, HSz10_0, HSz10_1, HSz10_2⟩ := HI0.out; obtain ⟨⟨_, _, _, _, _⟩, _, _, _, _, _⟩ := Op.cells5 HGz10; clear HGz10 hgz10; have p352 : 0 ≤ (a1 : Int) := of_decide_eq_true ab4; have q352 : a1 < (s0_0.length : Int) := of_decide_eq_true ab4; obtain ⟨ad352, A352_3, c352_3, A352_6, c352_6, e352, hx352_0, hx352_1, hx352_2, hx352_3, hx352_4, hx352_5, hx352_6, hl352_3, hi352_3, hl352_6, hi352_6⟩ := at_T38 HSz10_0 a1 p352 q352; cases e352; replace hx352_0 := pc_ HB hx352_0; replace hx352_1 := pc_ HB hx352_1; replace hx352_2 := pc_ HB hx352_2; replace hx352_3 := pc_ HB hx352_3; replace hx352_4 := pc_ HB hx352_4; replace hx352_5 := pc_ HB hx352_5; replace hx352_6 := pc_ HB hx352_6; have HR352_3 := am hi352_3; have HC352_3 := am hl352_3; clear hi352_3 hl352_3; have HR352_6 := am hi352_6; have HC352_6 := am hl352_6; clear hi352_6 hl352_6; replace p352 := eq_true p352; replace q352 := eq_true q352))
   go_ret
   exact ⟨ab7, (z17_0 HI0), ab1, z17_2⟩
  ·simp only [Option.some.injEq, Prod.mk.injEq] at H
   obtain ⟨rfl, rfl, rfl⟩ := H
   go_enter Try.func49, Try.ntmps49
   go_wp2_with (first | (go_at_call 46; (with_reducible refine (impl_Page_isTag.calls g s0_0 s0_1 s0_2 s0_3 s0_4 a1 false t350 t351 w0 _ ?side1 ?side2 A5.out).mono ?_); (case side1 => exact (z17_0 HI0)); (case side2 => exact (z17_1)); rintro e w11 ⟨rfl, hi, hb, hk⟩; replace HK := am (KeepBut.trans (z17_2) hk (.inl rfl)); replace HB := am hb; replace HI0 := am hi; (try clear hb); (try clear hb2); (try clear hk); (try clear hi)))
   go_ret
   exact ⟨ab7, (z17_0 HI0), ab1, z17_2⟩
mutual
def impl_kidsOk.l0 : Nat → List (S38) → List Int → List (S38) → Int → Int → Option (Bool)
 | 0, _, _, _, _, _ => none
 | k + 1, x0, x3, x12, x13, x14 => if x14 < x13 then (if 0 ≤ x14 then (if x14 < (x12.length : Int) then (impl_kidsOk.l1 k x0 x3 x14 x12 x13 x14 ((rd_T38 x12 x14).f6) (((rd_T38 x12 x14).f6).length : Int) 0) else (none)) else (none)) else (impl_kidsOk.l2 k x0 x3 1)
def impl_kidsOk.l1 : Nat → List (S38) → List Int → Int → List (S38) → Int → Int → List Int → Int → Int → Option (Bool)
 | 0, _, _, _, _, _, _, _, _, _ => none
 | k + 1, x0, x3, x4, x12, x13, x14, x20, x21, x22 => if x22 < x21 then (if 0 ≤ x22 then (if x22 < (x20.length : Int) then ((impl_inRange.f (rd x20 x22) 1 (wrap64 ((x0.length : Int) - 1))).bind fun t370 => (if t370 = true then (if 0 ≤ (rd x20 x22) then (if (rd x20 x22) < (x0.length : Int) then (if ((rd_T38 x0 (rd x20 x22)).f5) = x4 then (if (rd x20 x22) < (x3.length : Int) then (impl_kidsOk.l1 k x0 (x3.set ((rd x20 x22) : Int).toNat (wrap64 ((rd x3 (rd x20 x22)) + 1))) x4 x12 x13 x14 x20 x21 (wrap64 (x22 + 1))) else (none)) else (some false)) else (none)) else (none)) else (some false))) else (none)) else (none)) else (impl_kidsOk.l0 k x0 x3 x12 x13 (wrap64 (x14 + 1)))
def impl_kidsOk.l2 : Nat → List (S38) → List Int → Int → Option (Bool)
 | 0, _, _, _ => none
 | k + 1, x0, x3, x8 => if x8 < (x0.length : Int) then (if 0 ≤ x8 then (if x8 < (x3.length : Int) then (if (rd x3 x8) = 1 then (impl_kidsOk.l2 k x0 x3 (wrap64 (x8 + 1))) else (some false)) else (none)) else (none)) else (some true)
end
def impl_kidsOk.f (k : Nat) (l0 : List (S38)) : Option (Bool) := if 0 ≤ (l0.length : Int) then (if ((l0.length : Int) : Int).toNat ≤ 35184372088832 then (impl_kidsOk.l0 k l0 (List.replicate ((l0.length : Int) : Int).toNat 0) l0 (l0.length : Int) 0) else (none)) else (none)
theorem impl_kidsOk.calls (k : Nat) (A0 : Option Addr) (c0 : Nat) (l0 : List (S38)) (r : Bool) (w : World) (hr0 : Kd.C k38 w A0 l0.length l0) (hc0 : l0.length ≤ c0) (h : impl_kidsOk.f k l0 = some r) :
  Calls Try.prog 70 #[.slice A0 l0.length c0] w fun e w' => e = .returned (.bool r) ∧ Below w.heap.size w w' := by
 have hu38 := Try.underlying38
 have HR0 := am hr0
 have HC0 := am hc0
 clear hr0 hc0
 have HB := am (Below.refl w.heap.size w)
 have H : (if 0 ≤ (l0.length : Int) then (if ((l0.length : Int) : Int).toNat ≤ 35184372088832 then (impl_kidsOk.l0 k l0 (List.replicate ((l0.length : Int) : Int).toNat 0) l0 (l0.length : Int) 0) else (none)) else (none)) = some r := h
 clear h
 by_cases c2 : 0 ≤ (l0.length : Int)
 case neg => rw [if_neg c2] at H; exact absurd H (by simp)
 rw [if_pos c2] at H
 have c2b0 := eq_true c2
 have c2b1 := decide_eq_true c2
 clear c2
 by_cases c3 : ((l0.length : Int) : Int).toNat ≤ 35184372088832
 case neg => rw [if_neg c3] at H; exact absurd H (by simp)
 rw [if_pos c3] at H
 have c3b0 := eq_true c3
 have c3b1 := decide_eq_true c3
 clear c3
 obtain ⟨y364, hy364⟩ : ∃ y_ : List Int, y_ = (List.replicate ((l0.length : Int) : Int).toNat 0) := ⟨_, rfl⟩
 replace H : (impl_kidsOk.l0 k l0 y364 l0 (l0.length : Int) 0) = some r := by first | (rw [hy364]; with_reducible exact H) | (have H2_ := (Option.bind_some _ _).symm.trans H; rw [hy364]; with_reducible exact H2_) | (have H2_ := (Option.bind_some _ _).symm.trans H; with_reducible exact H2_) | with_reducible exact H | (rw [hy364]; exact H) | exact H
 have Ny364 := am hy364
 clear hy364
 have H' := am H
 clear H
 go_enter Try.func70, Try.ntmps70
 go_wp2_with (first | ((with_reducible refine gate_dst (N := 11) rfl ?_); refine Kd.R_make (Kd.int .i64) _ 3 rfl (N := 11) rfl 23 _ _ rfl (l0.length : Int) rfl rfl Try.underlying23 (.int .i64 0) 8 info3 rfl (by decide) (by omega) 0 (ok := fun _ => True) (okp := fun _ => True) rfl (fun _ hk => hk) trivial (of_decide_eq_true ab4) (Nat.le_trans (Nat.mul_le_mul_right _ (of_decide_eq_true ab4 : (l0.length : Int).toNat ≤ 35184372088832)) (by omega)) (Below.refl _ _) (Nat.le_refl _) ?_; intro v365 w4 ho5 hb hg_ hnew_; clear hg_ hnew_; (first | rw [← Ny364.out] at ho5 | (simp only [Int.reduceToNat] at ho5; rw [← Ny364.out] at ho5)); have HO366 := am (Kd.R_lower ho5 (below_size ab1)); replace HB := am (below_step ab1 hb); clear hb ho5))
 go_loopg [14] k (fun kq v14 w' => ∃ (x3_1 : List Int) (x14_1 : Int), v14 = .int .i64 x14_1 ∧ Aside0 (impl_kidsOk.l0 kq l0 x3_1 l0 (l0.length : Int) x14_1 = some r) ∧ Aside0 (kq ≤ k) ∧ Aside0 (Kd.R (Kd.int .i64) 3 w' w.heap.size (fun _ => True) v365 x3_1) ∧ Aside0 (Below w.heap.size w w'))
 case atStart => exact ⟨(y364), (0), ab6, H', ⟨Nat.le_refl _⟩, ⟨ab8 HO366⟩, ⟨ab1⟩⟩
 case round =>
  clear H'
  (try clear c2); (try clear c2b0); (try clear c2b1); (try clear p2); (try clear c3); (try clear c3b0); (try clear c3b1)
  obtain ⟨x3_1, x14_1, rfl, HA, HK1, HO_3, HB⟩ := hrel
  cases gk with
  | zero => exact absurd HA.out (by simp [impl_kidsOk.l0])
  | succ k1 =>
   have H := HA.out
   clear HA
   simp only [impl_kidsOk.l0] at H
   replace H := ir_ H; rcases H with ⟨c6b0, H⟩ | ⟨c6b0, H⟩
   ·replace H := iq_ H; obtain ⟨c7b0, H⟩ := H
    replace H := iq_ H; obtain ⟨c8b0, H⟩ := H
    have H' := am H
    clear H
    have p367 : 0 ≤ (x14_1 : Int) := of_decide_eq_true ab4
    have q367 : x14_1 < (l0.length : Int) := of_decide_eq_true ab4
    obtain ⟨ad367, A367_3, c367_3, A367_6, c367_6, e367, hx367_0, hx367_1, hx367_2, hx367_3, hx367_4, hx367_5, hx367_6, hl367_3, hi367_3, hl367_6, hi367_6⟩ := at_T38 HR0.out x14_1 p367 q367
    cases e367
    replace hx367_0 := pc_ HB hx367_0
    replace hx367_1 := pc_ HB hx367_1
    replace hx367_2 := pc_ HB hx367_2
    replace hx367_3 := pc_ HB hx367_3
    replace hx367_4 := pc_ HB hx367_4
    replace hx367_5 := pc_ HB hx367_5
    replace hx367_6 := pc_ HB hx367_6
    have HR367_3 := am hi367_3
    have HC367_3 := am hl367_3
    clear hi367_3 hl367_3
    have HR367_6 := am hi367_6
    have HC367_6 := am hl367_6
    clear hi367_6 hl367_6
    replace p367 := eq_true p367
    replace q367 := eq_true q367
    go_wp2_with (first | ((with_reducible refine gd_ 5 ?_); refine bx_ 5 (cs := #[.int .i64 0, .int .i64 0, .string (⟨#[]⟩ : ByteArray), .slice none 0 0, .string (⟨#[]⟩ : ByteArray), .int .i64 0, .slice none 0 0]) 38 ?_; intro gb368 hg w9 hbox hb; replace HO_3 := am (Kd.R_below (ab8 HO_3) hb); have BK368 := am hbox; have GW368 := ge_ (w := w) hg; have GE368 := ge_ (w := w) hg; replace HB := am (below_step ab1 hb); clear hb hbox hg; obtain ⟨⟨_, _, _, _, _, _, _⟩, _, _, _, _, _, _, _⟩ := Op.cells7 BK368.out))
    go_loopg [22] k1 (fun kq v22 w' => ∃ (x3_2 : List Int) (x22_2 : Int), v22 = .int .i64 x22_2 ∧ Aside0 (impl_kidsOk.l1 kq l0 x3_2 x14_1 l0 (l0.length : Int) x14_1 ((rd_T38 l0 x14_1).f6) (((rd_T38 l0 x14_1).f6).length : Int) x22_2 = some r) ∧ Aside0 (kq ≤ k1) ∧ Aside0 (Kd.R (Kd.int .i64) 3 w' w.heap.size (fun _ => True) v365 x3_2) ∧ Aside0 (w'.heap[gb368]? = some (.cells #[.int .i64 ((rd_T38 l0 x14_1).f0), .int .i64 ((rd_T38 l0 x14_1).f1), .string ((rd_T38 l0 x14_1).f2), (.slice A367_3 ((rd_T38 l0 x14_1).f3).length c367_3), .string ((rd_T38 l0 x14_1).f4), .int .i64 ((rd_T38 l0 x14_1).f5), (.slice A367_6 ((rd_T38 l0 x14_1).f6).length c367_6)] 38 (0, 0))) ∧ Aside0 (Below w.heap.size w w'))
    case atStart => exact ⟨(x3_1), (0), ab6, H', ⟨Nat.le_refl _⟩, ⟨by (with_reducible repeat (first | apply Kd.R_alloc | apply Kd.R_drewN | apply Kd.R_drew)); exact Kd.R_mono (Kd.R_far (p := ⟨gb368, 6, none⟩) (Kd.R_far (p := ⟨gb368, 5, none⟩) (Kd.R_far (p := ⟨gb368, 4, none⟩) (Kd.R_far (p := ⟨gb368, 3, none⟩) (Kd.R_far (p := ⟨gb368, 2, none⟩) (Kd.R_far (p := ⟨gb368, 1, none⟩) (Kd.R_far (p := ⟨gb368, 0, none⟩) (Kd.R_types HO_3.out BK368.out (by decide)) (fun _ hk => hk.2) (.int .i64 ((rd_T38 l0 x14_1).f0))) (fun _ hk => hk.2) (.int .i64 ((rd_T38 l0 x14_1).f1))) (fun _ hk => hk.2) (.string ((rd_T38 l0 x14_1).f2))) (fun _ hk => hk.2) (.slice A367_3 ((rd_T38 l0 x14_1).f3).length c367_3)) (fun _ hk => hk.2) (.string ((rd_T38 l0 x14_1).f4))) (fun _ hk => hk.2) (.int .i64 ((rd_T38 l0 x14_1).f5))) (fun _ hk => hk.2) (.slice A367_6 ((rd_T38 l0 x14_1).f6).length c367_6)) (fun _ hk => trivial)⟩, ⟨by (with_reducible repeat (first | refine blk_drewN ?_ _ | refine blk_drew ?_ | refine blk_alloc ?_ _)); refine blk_put (cs := #[.int .i64 ((rd_T38 l0 x14_1).f0), .int .i64 ((rd_T38 l0 x14_1).f1), .string ((rd_T38 l0 x14_1).f2), .slice A367_3 ((rd_T38 l0 x14_1).f3).length c367_3, .string ((rd_T38 l0 x14_1).f4), .int .i64 ((rd_T38 l0 x14_1).f5), .slice none 0 0]) ?_ 6 _ rfl; (with_reducible repeat (first | refine blk_drewN ?_ _ | refine blk_drew ?_ | refine blk_alloc ?_ _)); refine blk_put (cs := #[.int .i64 ((rd_T38 l0 x14_1).f0), .int .i64 ((rd_T38 l0 x14_1).f1), .string ((rd_T38 l0 x14_1).f2), .slice A367_3 ((rd_T38 l0 x14_1).f3).length c367_3, .string ((rd_T38 l0 x14_1).f4), .int .i64 0, .slice none 0 0]) ?_ 5 _ rfl; (with_reducible repeat (first | refine blk_drewN ?_ _ | refine blk_drew ?_ | refine blk_alloc ?_ _)); refine blk_put (cs := #[.int .i64 ((rd_T38 l0 x14_1).f0), .int .i64 ((rd_T38 l0 x14_1).f1), .string ((rd_T38 l0 x14_1).f2), .slice A367_3 ((rd_T38 l0 x14_1).f3).length c367_3, .string (⟨#[]⟩ : ByteArray), .int .i64 0, .slice none 0 0]) ?_ 4 _ rfl; (with_reducible repeat (first | refine blk_drewN ?_ _ | refine blk_drew ?_ | refine blk_alloc ?_ _)); refine blk_put (cs := #[.int .i64 ((rd_T38 l0 x14_1).f0), .int .i64 ((rd_T38 l0 x14_1).f1), .string ((rd_T38 l0 x14_1).f2), .slice none 0 0, .string (⟨#[]⟩ : ByteArray), .int .i64 0, .slice none 0 0]) ?_ 3 _ rfl; (with_reducible repeat (first | refine blk_drewN ?_ _ | refine blk_drew ?_ | refine blk_alloc ?_ _)); refine blk_put (cs := #[.int .i64 ((rd_T38 l0 x14_1).f0), .int .i64 ((rd_T38 l0 x14_1).f1), .string (⟨#[]⟩ : ByteArray), .slice none 0 0, .string (⟨#[]⟩ : ByteArray), .int .i64 0, .slice none 0 0]) ?_ 2 _ rfl; (with_reducible repeat (first | refine blk_drewN ?_ _ | refine blk_drew ?_ | refine blk_alloc ?_ _)); refine blk_put (cs := #[.int .i64 ((rd_T38 l0 x14_1).f0), .int .i64 0, .string (⟨#[]⟩ : ByteArray), .slice none 0 0, .string (⟨#[]⟩ : ByteArray), .int .i64 0, .slice none 0 0]) ?_ 1 _ rfl; (with_reducible repeat (first | refine blk_drewN ?_ _ | refine blk_drew ?_ | refine blk_alloc ?_ _)); refine blk_put (cs := #[.int .i64 0, .int .i64 0, .string (⟨#[]⟩ : ByteArray), .slice none 0 0, .string (⟨#[]⟩ : ByteArray), .int .i64 0, .slice none 0 0]) ?_ 0 _ rfl; (with_reducible repeat (first | refine blk_drewN ?_ _ | refine blk_drew ?_ | refine blk_alloc ?_ _)); exact BK368.out⟩, ⟨ab2 GE368⟩⟩
    case round =>
     clear H'
     (try clear c2); (try clear c2b0); (try clear c2b1); (try clear p2); (try clear c3); (try clear c3b0); (try clear c3b1); (try clear p3); (try clear q3); (try clear hx3); (try clear c6); (try clear c6b0); (try clear c7); (try clear c7b0); (try clear c8); (try clear c8b0); (try clear hcz10_0); (try clear hcz10_1); (try clear hcz10_2); (try clear hcz10_3); (try clear hcz10_4); (try clear hcz10_5); (try clear hcz10_6); (try clear hfz10_0); (try clear hfz10_1); (try clear hfz10_2); (try clear hfz10_3); (try clear hfz10_4); (try clear hfz10_5); (try clear hfz10_6); (try clear hx367_0); (try clear hx367_1); (try clear hx367_2); (try clear hx367_3); (try clear hx367_4); (try clear hx367_5); (try clear hx367_6); (try clear p2); (try clear p367); (try clear q367)
     obtain ⟨x3_2, x22_2, rfl, HA, HK2, HO_3, BK368, HB⟩ := hrel
     cases gk with
     | zero => exact absurd HA.out (by simp [impl_kidsOk.l1])
     | succ k2 =>
      have H := HA.out
      clear HA
      simp only [impl_kidsOk.l1] at H
      replace H := ir_ H; rcases H with ⟨c11b0, H⟩ | ⟨c11b0, H⟩
      ·replace H := iq_ H; obtain ⟨c12b0, H⟩ := H
       replace H := iq_ H; obtain ⟨c13b0, H⟩ := H
       replace H := bi_ H; obtain ⟨t370, A14, H⟩ := H
       replace H := ib_ H; rcases H with ⟨rfl, H⟩ | ⟨rfl, H⟩
       ·replace H := iq_ H; obtain ⟨c16b0, H⟩ := H
        replace H := iq_ H; obtain ⟨c17b0, H⟩ := H
        replace H := ie_ H; rcases H with ⟨c18b0, c18b1, H⟩ | ⟨c18, c18b0, c18b1, H⟩
        ·replace H := iq_ H; obtain ⟨c19b0, H⟩ := H
         obtain ⟨y373, hy373⟩ : ∃ y_ : List Int, y_ = (x3_2.set ((rd ((rd_T38 l0 x14_1).f6) x22_2) : Int).toNat (wrap64 ((rd x3_2 (rd ((rd_T38 l0 x14_1).f6) x22_2)) + 1))) := ⟨_, rfl⟩
         replace H : (impl_kidsOk.l1 k2 l0 y373 x14_1 l0 (l0.length : Int) x14_1 ((rd_T38 l0 x14_1).f6) (((rd_T38 l0 x14_1).f6).length : Int) (wrap64 (x22_2 + 1))) = some r := by first | (rw [hy373]; with_reducible exact H) | (have H2_ := (Option.bind_some _ _).symm.trans H; rw [hy373]; with_reducible exact H2_) | (have H2_ := (Option.bind_some _ _).symm.trans H; with_reducible exact H2_) | with_reducible exact H | (rw [hy373]; exact H) | exact H
         have Ny373 := am hy373
         clear hy373
         have H' := am H
         clear H
         have p369 : 0 ≤ (x22_2 : Int) := of_decide_eq_true ab4
         have q369 : x22_2 < (((rd_T38 l0 x14_1).f6).length : Int) := of_decide_eq_true ab4
         obtain ⟨ad369, e369, hx369_0⟩ := Kd.at_int HR367_6.out x22_2 p369 q369
         cases e369
         replace hx369_0 := pc_ HB hx369_0
         replace p369 := eq_true p369
         replace q369 := eq_true q369
         go_wp2_with (first | ((with_reducible refine gf_ 66 ?_); refine gc_ Try.func66 (impl_inRange.calls (rd ((rd_T38 l0 x14_1).f6) x22_2) 1 (wrap64 ((l0.length : Int) - 1)) true _ A14.out) ?_; rintro w' ⟨nd, rfl⟩; (try (rw [drewN_self wr]; generalize hq_ : World.drewN wr _ = wr; have n0_ : Aside0 (Kd.R (Kd.int .i64) 3 wr w.heap.size (fun _ => True) v365 x3_2) := ⟨by rw [← hq_]; exact (ab8 HO_3)⟩; have n1_ : Aside0 (wr.heap[gb368]? = some (.cells #[.int .i64 ((rd_T38 l0 x14_1).f0), .int .i64 ((rd_T38 l0 x14_1).f1), .string ((rd_T38 l0 x14_1).f2), .slice A367_3 ((rd_T38 l0 x14_1).f3).length c367_3, .string ((rd_T38 l0 x14_1).f4), .int .i64 ((rd_T38 l0 x14_1).f5), .slice (some ad369) ((rd_T38 l0 x14_1).f6).length c367_6] 38 (0, 0))) := ⟨by rw [← hq_]; exact (ab3 BK368)⟩; have n2_ : Aside0 (Below w.heap.size w wr) := ⟨by rw [← hq_]; exact (ab2 GE368)⟩; clear HO_3 BK368 HB hq_; have HO_3 := n0_; have BK368 := n1_; have HB := n2_; clear n0_ n1_ n2_)); have p371 : 0 ≤ ((rd ((rd_T38 l0 x14_1).f6) x22_2) : Int) := of_decide_eq_true ab4; have q371 : (rd ((rd_T38 l0 x14_1).f6) x22_2) < (l0.length : Int) := of_decide_eq_true ab4; obtain ⟨ad371, A371_3, c371_3, A371_6, c371_6, e371, hx371_0, hx371_1, hx371_2, hx371_3, hx371_4, hx371_5, hx371_6, hl371_3, hi371_3, hl371_6, hi371_6⟩ := at_T38 HR0.out (rd ((rd_T38 l0 x14_1).f6) x22_2) p371 q371; obtain rfl : ad367 = ad371 := (by injection e371); replace hx371_0 := pc_ HB hx371_0; replace hx371_1 := pc_ HB hx371_1; replace hx371_2 := pc_ HB hx371_2; replace hx371_3 := pc_ HB hx371_3; replace hx371_4 := pc_ HB hx371_4; replace hx371_5 := pc_ HB hx371_5; replace hx371_6 := pc_ HB hx371_6; have HR371_3 := am hi371_3; have HC371_3 := am hl371_3; clear hi371_3 hl371_3; have HR371_6 := am hi371_6; have HC371_6 := am hl371_6; clear hi371_6 hl371_6; replace p371 := eq_true p371; replace q371 := eq_true q371; obtain ⟨Ao21, co21, eo21⟩ := Kd.R_slice HO_3.out; subst eo21; have p372 : 0 ≤ ((rd ((rd_T38 l0 x14_1).f6) x22_2) : Int) := of_decide_eq_true ab4; have q372 : (rd ((rd_T38 l0 x14_1).f6) x22_2) < (x3_2.length : Int) := of_decide_eq_true ab4; obtain ⟨ad372, e372, hx372_0⟩ := Kd.at_int (Kd.R_reads' HO_3.out).2.2 (rd ((rd_T38 l0 x14_1).f6) x22_2) p372 q372; cases e372; replace p372 := eq_true p372; replace q372 := eq_true q372; have p20 : 0 ≤ ((rd ((rd_T38 l0 x14_1).f6) x22_2) : Int) := of_decide_eq_true ab4; have q20 : ((rd ((rd_T38 l0 x14_1).f6) x22_2) : Int) < ((x3_2.length : Int) : Int) := of_decide_eq_true ab4; obtain ⟨go20, co20, eo20, gb20, gl20, cl20, HG20⟩ := Kd.R_form HO_3.out (by omega); (first | cases eo20 | (injection eo20 with ea_ en_ ec_; (first | subst ea_ | (injection ea_ with ea_; subst ea_)); subst ec_; clear en_)); have GB20 := am gb20; have GG20 := am HG20; clear gb20 gl20 HG20; (first | simp only [add_plain] at hx372_0 | skip); obtain ⟨hx20_0, hf20_0⟩ := Kd.R_celln 0 HO_3.out ((rd ((rd_T38 l0 x14_1).f6) x22_2) : Int) p20 q20; replace p20 := eq_true p20; replace q20 := eq_true q20; obtain ⟨hy22_, hz22_⟩ := Kd.R_celln 0 HO_3.out ((rd ((rd_T38 l0 x14_1).f6) x22_2) : Int) (of_decide_eq_true ab4) (of_decide_eq_true ab4); have HP22 := Kd.R_putg HO_3.out ((rd ((rd_T38 l0 x14_1).f6) x22_2) : Int) (wrap64 ((rd x3_2 (rd ((rd_T38 l0 x14_1).f6) x22_2)) + 1))) | ((with_reducible refine gate_store (t := 3) (p := 46) rfl ?_); refine store_event (t := 3) (p := 46) (v := ?vo_w23) (w1 := (wr.setCell ⟨go20, ((rd ((rd_T38 l0 x14_1).f6) x22_2) : Int).toNat, none⟩ (.int .i64 (wrap64 ((rd x3_2 (rd ((rd_T38 l0 x14_1).f6) x22_2)) + 1))))) ?hg ?ho ?hn ?hr ?_; (case ho => rfl); (case hg => rfl); (case hn => rfl); (case hr => first | (go_simp; done) | (go_simp; rfl)); intro w23 hw; have hg : wr.grownBy w23 (some go20) := (by rw [hw]; exact HP22.2); have hp_ : Kd.R (Kd.int .i64) 3 w23 w.heap.size (fun _ => True) (.slice (some ⟨go20, 0, none⟩) x3_2.length co21) y373 := (by rw [hw, Ny373.out]; exact HP22.1); clear HP22; replace BK368 := bg_ BK368 hg (Kd.R_ne HO_3.out BK368.out (by decide)); replace HO_3 := am hp_; replace HB := am ((by rw [hw]; exact below_set (HB.out) GB20.out : Below w.heap.size w w23)); clear hg hw hp_))
         go_roundg k2
         case measure => have := HK1.out; have := HK2.out; omega
         case rel => exact ⟨(y373), (wrap64 (x22_2 + 1)), ab6, H', ⟨by have := HK1.out; have := HK2.out; omega⟩, ⟨ab8 HO_3⟩, ⟨ab3 BK368⟩, ⟨ab2 GE368⟩⟩
        ·obtain rfl := Option.some.inj H
         have p369 : 0 ≤ (x22_2 : Int) := of_decide_eq_true ab4
         have q369 : x22_2 < (((rd_T38 l0 x14_1).f6).length : Int) := of_decide_eq_true ab4
         obtain ⟨ad369, e369, hx369_0⟩ := Kd.at_int HR367_6.out x22_2 p369 q369
         cases e369
         replace hx369_0 := pc_ HB hx369_0
         replace p369 := eq_true p369
         replace q369 := eq_true q369
         go_wp2_with (first | ((with_reducible refine gf_ 66 ?_); refine gc_ Try.func66 (impl_inRange.calls (rd ((rd_T38 l0 x14_1).f6) x22_2) 1 (wrap64 ((l0.length : Int) - 1)) true _ A14.out) ?_; rintro w' ⟨nd, rfl⟩; have p371 : 0 ≤ ((rd ((rd_T38 l0 x14_1).f6) x22_2) : Int) := of_decide_eq_true ab4; have q371 : (rd ((rd_T38 l0 x14_1).f6) x22_2) < (l0.length : Int) := of_decide_eq_true ab4; obtain ⟨ad371, A371_3, c371_3, A371_6, c371_6, e371, hx371_0, hx371_1, hx371_2, hx371_3, hx371_4, hx371_5, hx371_6, hl371_3, hi371_3, hl371_6, hi371_6⟩ := at_T38 HR0.out (rd ((rd_T38 l0 x14_1).f6) x22_2) p371 q371; obtain rfl : ad367 = ad371 := (by injection e371); replace hx371_0 := pc_ HB hx371_0; replace hx371_1 := pc_ HB hx371_1; replace hx371_2 := pc_ HB hx371_2; replace hx371_3 := pc_ HB hx371_3; replace hx371_4 := pc_ HB hx371_4; replace hx371_5 := pc_ HB hx371_5; replace hx371_6 := pc_ HB hx371_6; have HR371_3 := am hi371_3; have HC371_3 := am hl371_3; clear hi371_3 hl371_3; have HR371_6 := am hi371_6; have HC371_6 := am hl371_6; clear hi371_6 hl371_6; replace p371 := eq_true p371; replace q371 := eq_true q371))
         go_ret
         exact ⟨ab7, ab2 GE368⟩
       ·obtain rfl := Option.some.inj H
        have p369 : 0 ≤ (x22_2 : Int) := of_decide_eq_true ab4
        have q369 : x22_2 < (((rd_T38 l0 x14_1).f6).length : Int) := of_decide_eq_true ab4
        obtain ⟨ad369, e369, hx369_0⟩ := Kd.at_int HR367_6.out x22_2 p369 q369
        cases e369
        replace hx369_0 := pc_ HB hx369_0
        replace p369 := eq_true p369
        replace q369 := eq_true q369
        go_wp2_with (first | ((with_reducible refine gf_ 66 ?_); refine gc_ Try.func66 (impl_inRange.calls (rd ((rd_T38 l0 x14_1).f6) x22_2) 1 (wrap64 ((l0.length : Int) - 1)) false _ A14.out) ?_; rintro w' ⟨nd, rfl⟩))
        go_ret
        exact ⟨ab7, ab2 GE368⟩
      ·have H' := am H
       clear H
       go_wp2
       go_roundg k2
       case measure => have := HK1.out; have := HK2.out; omega
       case rel => exact ⟨(x3_2), (wrap64 (x14_1 + 1)), ab6, H', ⟨by have := HK1.out; have := HK2.out; omega⟩, ⟨ab8 HO_3⟩, ⟨ab2 GE368⟩⟩
   ·have H' := am H
    clear H
    go_wp2
    go_loopg [8] k1 (fun kq v8 w' => ∃ (x8_2 : Int), v8 = .int .i64 x8_2 ∧ Aside0 (impl_kidsOk.l2 kq l0 x3_1 x8_2 = some r) ∧ Aside0 (kq ≤ k1) ∧ Aside0 (Kd.R (Kd.int .i64) 3 w' w.heap.size (fun _ => True) v365 x3_1) ∧ Aside0 (Below w.heap.size w w'))
    case atStart => exact ⟨(1), ab6, H', ⟨Nat.le_refl _⟩, ⟨ab8 HO_3⟩, ⟨ab1⟩⟩
    case round =>
     clear H'
     (try clear c1); (try clear c2); (try clear c2b0); (try clear c2b1); (try clear p2); (try clear q2); (try clear hx2); (try clear hf2); (try clear c3); (try clear c3b0); (try clear c3b1); (try clear p3); (try clear q3); (try clear hx3); (try clear c6); (try clear c6b0); (try clear p6); (try clear c7); (try clear c7b0); (try clear c8); (try clear c8b0); (try clear c11); (try clear c11b0); (try clear c12); (try clear c12b0); (try clear c13); (try clear c13b0); (try clear c15); (try clear c16); (try clear c16b0); (try clear c17); (try clear c17b0); (try clear c18); (try clear c18b0); (try clear c18b1); (try clear c19); (try clear c19b0); (try clear p20); (try clear q20); (try clear hx20); (try clear hf20); (try clear hcz10_0); (try clear hcz10_1); (try clear hcz10_2); (try clear hcz10_3); (try clear hcz10_4); (try clear hcz10_5); (try clear hcz10_6); (try clear hfz10_0); (try clear hfz10_1); (try clear hfz10_2); (try clear hfz10_3); (try clear hfz10_4); (try clear hfz10_5); (try clear hfz10_6); (try clear hx20_0); (try clear hx367_0); (try clear hx367_1); (try clear hx367_2); (try clear hx367_3); (try clear hx367_4); (try clear hx367_5); (try clear hx367_6); (try clear hx369_0); (try clear hx371_0); (try clear hx371_1); (try clear hx371_2); (try clear hx371_3); (try clear hx371_4); (try clear hx371_5); (try clear hx371_6); (try clear hx372_0); (try clear p2); (try clear p20); (try clear p3); (try clear p367); (try clear p369); (try clear p371); (try clear p372); (try clear q20); (try clear q3); (try clear q367); (try clear q369); (try clear q371); (try clear q372)
     obtain ⟨x8_2, rfl, HA, HK2, HO_3, HB⟩ := hrel
     cases gk with
     | zero => exact absurd HA.out (by simp [impl_kidsOk.l2])
     | succ k2 =>
      have H := HA.out
      clear HA
      simp only [impl_kidsOk.l2] at H
      replace H := ir_ H; rcases H with ⟨c24b0, H⟩ | ⟨c24b0, H⟩
      ·replace H := iq_ H; obtain ⟨c25b0, H⟩ := H
       replace H := iq_ H; obtain ⟨c26b0, H⟩ := H
       replace H := ie_ H; rcases H with ⟨c27b0, c27b1, H⟩ | ⟨c27, c27b0, c27b1, H⟩
       ·have H' := am H
        clear H
        obtain ⟨Ao28, co28, eo28⟩ := Kd.R_slice HO_3.out
        subst eo28
        have p374 : 0 ≤ (x8_2 : Int) := of_decide_eq_true ab4
        have q374 : x8_2 < (x3_1.length : Int) := of_decide_eq_true ab4
        obtain ⟨ad374, e374, hx374_0⟩ := Kd.at_int (Kd.R_reads' HO_3.out).2.2 x8_2 p374 q374
        cases e374
        replace p374 := eq_true p374
        replace q374 := eq_true q374
        go_wp2
        go_roundg k2
        case measure => have := HK1.out; have := HK2.out; omega
        case rel => exact ⟨(wrap64 (x8_2 + 1)), ab6, H', ⟨by have := HK1.out; have := HK2.out; omega⟩, ⟨ab8 HO_3⟩, ⟨ab1⟩⟩
       ·obtain rfl := Option.some.inj H
        obtain ⟨Ao29, co29, eo29⟩ := Kd.R_slice HO_3.out
        subst eo29
        have p374 : 0 ≤ (x8_2 : Int) := of_decide_eq_true ab4
        have q374 : x8_2 < (x3_1.length : Int) := of_decide_eq_true ab4
        obtain ⟨ad374, e374, hx374_0⟩ := Kd.at_int (Kd.R_reads' HO_3.out).2.2 x8_2 p374 q374
        cases e374
        replace p374 := eq_true p374
        replace q374 := eq_true q374
        go_wp2
        go_ret
        exact ⟨ab7, ab1⟩
      ·obtain rfl := Option.some.inj H
       go_wp2
       go_ret
       exact ⟨ab7, ab1⟩
mutual
def impl_order.l0 : Nat → List (S38) → List Int → List Int → Option (List Int)
 | 0, _, _, _ => none
 | k + 1, x0, x3, x4 => if (x4.length : Int) > 0 then (if 0 ≤ (wrap64 ((x4.length : Int) - 1)) then (if (wrap64 ((x4.length : Int) - 1)) < (x4.length : Int) then (if (wrap64 ((x4.length : Int) - 1)) ≤ (x4.length : Int) then (if x3.length < 17592186044416 then (if 0 ≤ (rd x4 (wrap64 ((x4.length : Int) - 1))) then (if (rd x4 (wrap64 ((x4.length : Int) - 1))) < (x0.length : Int) then (impl_order.l1 k x0 (x3 ++ [rd x4 (wrap64 ((x4.length : Int) - 1))]) (x4.take ((wrap64 ((x4.length : Int) - 1)) : Int).toNat) (rd x4 (wrap64 ((x4.length : Int) - 1))) (wrap64 ((((rd_T38 x0 (rd x4 (wrap64 ((x4.length : Int) - 1)))).f6).length : Int) - 1))) else (none)) else (none)) else (none)) else (none)) else (none)) else (none)) else (some x3)
def impl_order.l1 : Nat → List (S38) → List Int → List Int → Int → Int → Option (List Int)
 | 0, _, _, _, _, _ => none
 | k + 1, x0, x3, x4, x6, x7 => if x7 ≥ 0 then (if 0 ≤ x6 then (if x6 < (x0.length : Int) then (if 0 ≤ x7 then (if x7 < (((rd_T38 x0 x6).f6).length : Int) then (if x4.length < 17592186044416 then (impl_order.l1 k x0 x3 (x4 ++ [rd ((rd_T38 x0 x6).f6) x7]) x6 (wrap64 (x7 - 1))) else (none)) else (none)) else (none)) else (none)) else (none)) else (impl_order.l0 k x0 x3 x4)
end
def impl_order.f (k : Nat) (l0 : List (S38)) : Option (List Int) := impl_order.l0 k l0 ([] : List Int) (([0] : List Int))
theorem impl_order.calls (k : Nat) (A0 : Option Addr) (c0 : Nat) (l0 : List (S38)) (r : List Int) (w : World) (hr0 : Kd.C k38 w A0 l0.length l0) (hc0 : l0.length ≤ c0) (h : impl_order.f k l0 = some r) :
  Calls Try.prog 71 #[.slice A0 l0.length c0] w fun e w' => ∃ v0_ : Value, e = .returned (v0_) ∧ Kd.R (Kd.int .i64) 3 w' w.heap.size (fun _ => True) v0_ r ∧ Below w.heap.size w w' := by
 have HR0 := am hr0
 have HC0 := am hc0
 clear hr0 hc0
 have HB := am (Below.refl w.heap.size w)
 have H : (impl_order.l0 k l0 ([] : List Int) (([0] : List Int))) = some r := h
 clear h
 obtain ⟨y375, hy375⟩ : ∃ y_ : List Int, y_ = (([0] : List Int)) := ⟨_, rfl⟩
 replace H : (impl_order.l0 k l0 ([] : List Int) y375) = some r := by first | (rw [hy375]; with_reducible exact H) | (have H2_ := (Option.bind_some _ _).symm.trans H; rw [hy375]; with_reducible exact H2_) | (have H2_ := (Option.bind_some _ _).symm.trans H; with_reducible exact H2_) | with_reducible exact H | (rw [hy375]; exact H) | exact H
 have Ny375 := am hy375
 clear hy375
 have H' := am H
 clear H
 go_enter Try.func71, Try.ntmps71
 go_wp2_with (first | ((with_reducible refine gate_dst (N := 8) rfl ?_); refine Kd.R_lit (Kd.int .i64) _ 3 ?hg (N := 8) ?hd (xs := ([0] : List Int)) (inner := [.int .i64 0]) (ok := fun _ => True) (okp := fun _ => True) ?hr ?hp (fun _ hk => hk) trivial (Below.refl _ _) (Nat.le_refl _) (by simp) ?_; (case hd => rfl); (case hg => rfl); (case hr => first | (go_simp; done) | (go_simp; rfl)); (case hp => exact (Reps.one (show Kd.M (Kd.int .i64) _ _ _ 0 [.int .i64 0] from rfl) (Reps.none _ _))); intro v376 w2 ho3 hb hg_ hnew_; clear hg_ hnew_; (first | rw [← Ny375.out] at ho3 | (simp only [Int.reduceToNat] at ho3; rw [← Ny375.out] at ho3)); have HO377 := am (Kd.R_lower ho3 (below_size ab1)); replace HB := am (below_step ab1 hb); clear hb ho3))
 go_loopg [3, 4] k (fun kq v3 v4 w' => ∃ (x3_1 : List Int) (x4_1 : List Int), Aside0 (impl_order.l0 kq l0 x3_1 x4_1 = some r) ∧ Aside0 (kq ≤ k) ∧ Aside0 (Kd.R (Kd.int .i64) 3 w' w.heap.size (fun k_ => some k_ ≠ (v4 : Value).ownBlock) v3 x3_1) ∧ Aside0 (Kd.R (Kd.int .i64) 3 w' w.heap.size (fun k_ => some k_ ≠ (v3 : Value).ownBlock) v4 x4_1) ∧ Aside0 (Below w.heap.size w w'))
 case atStart => exact ⟨(([] : List Int)), (y375), H', ⟨Nat.le_refl _⟩, ⟨by first | exact Kd.R_nil _ _ _ _ _ | exact Kd.N_nil _ _ _ _ _ | exact Kd.V_nil _ _ _ _ _ | exact Kd.Q_nil _ _ _ _ _ | exact Kd.S_nil _ _ _ _ _⟩, ⟨by (with_reducible repeat (first | apply Kd.R_alloc | apply Kd.R_drewN | apply Kd.R_drew)); exact Kd.R_mono HO377.out (fun _ hk => (by simp [Value.ownBlock]))⟩, ⟨ab1⟩⟩
 case round =>
  clear H'
  try clear p2
  obtain ⟨x3_1, x4_1, HA, HK1, HO_3, HO_4, HB⟩ := hrel
  cases gk with
  | zero => exact absurd HA.out (by simp [impl_order.l0])
  | succ k1 =>
   have H := HA.out
   clear HA
   simp only [impl_order.l0] at H
   by_cases c4 : (x4_1.length : Int) > 0
   ·rw [if_pos c4] at H
    have c4b0 : decide (0 < (x4_1.length : Int)) = true := decide_eq_true c4
    have c4b1 : decide (0 < x4_1.length) = true := decide_eq_true (by omega)
    clear c4
    obtain ⟨ji5, hji5⟩ : ∃ j_ : Int, (wrap64 ((x4_1.length : Int) - 1)) = j_ := ⟨_, rfl⟩
    replace H : (if 0 ≤ (ji5) then (if (ji5) < (x4_1.length : Int) then (if (ji5) ≤ (x4_1.length : Int) then (if x3_1.length < 17592186044416 then (if 0 ≤ (rd x4_1 (ji5)) then (if (rd x4_1 (ji5)) < (l0.length : Int) then (impl_order.l1 k1 l0 (x3_1 ++ [rd x4_1 (ji5)]) (x4_1.take ((ji5) : Int).toNat) (rd x4_1 (ji5)) (wrap64 ((((rd_T38 l0 (rd x4_1 (ji5))).f6).length : Int) - 1))) else (none)) else (none)) else (none)) else (none)) else (none)) else (none)) = some r := by first | (rw [hji5] at H; exact H) | (simp only [hji5] at H ⊢; exact H)
    have hji5w : (IntKind.i64.wrap ((x4_1.length : Int) - 1)) = ji5 := (i64_w _).trans hji5
    replace H := iq_ H; obtain ⟨c6b0, H⟩ := H
    replace H := iq_ H; obtain ⟨c7b0, H⟩ := H
    by_cases c8 : (ji5) ≤ (x4_1.length : Int)
    case neg => rw [if_neg c8] at H; exact absurd H (by simp)
    rw [if_pos c8] at H
    have c8b0 := eq_true c8
    have c8b1 := decide_eq_true c8
    clear c8
    obtain ⟨y379, hy379⟩ : ∃ y_ : List Int, y_ = (x4_1.take ((ji5) : Int).toNat) := ⟨_, rfl⟩
    replace H : (if x3_1.length < 17592186044416 then (if 0 ≤ (rd x4_1 (ji5)) then (if (rd x4_1 (ji5)) < (l0.length : Int) then (impl_order.l1 k1 l0 (x3_1 ++ [rd x4_1 (ji5)]) y379 (rd x4_1 (ji5)) (wrap64 ((((rd_T38 l0 (rd x4_1 (ji5))).f6).length : Int) - 1))) else (none)) else (none)) else (none)) = some r := by first | (rw [hy379]; with_reducible exact H) | (have H2_ := (Option.bind_some _ _).symm.trans H; rw [hy379]; with_reducible exact H2_) | (have H2_ := (Option.bind_some _ _).symm.trans H; with_reducible exact H2_) | with_reducible exact H | (rw [hy379]; exact H) | exact H
    have Ny379 := am hy379
    clear hy379
    by_cases c9 : x3_1.length < 17592186044416
    case neg => rw [if_neg c9] at H; exact absurd H (by simp)
    rw [if_pos c9] at H
    have LMc9 := am c9
    clear c9
    obtain ⟨y382, hy382⟩ : ∃ y_ : List Int, y_ = (x3_1 ++ [rd x4_1 (ji5)]) := ⟨_, rfl⟩
    replace H : (if 0 ≤ (rd x4_1 (ji5)) then (if (rd x4_1 (ji5)) < (l0.length : Int) then (impl_order.l1 k1 l0 y382 y379 (rd x4_1 (ji5)) (wrap64 ((((rd_T38 l0 (rd x4_1 (ji5))).f6).length : Int) - 1))) else (none)) else (none)) = some r := by first | (rw [hy382]; with_reducible exact H) | (have H2_ := (Option.bind_some _ _).symm.trans H; rw [hy382]; with_reducible exact H2_) | (have H2_ := (Option.bind_some _ _).symm.trans H; with_reducible exact H2_) | with_reducible exact H | (rw [hy382]; exact H) | exact H
    have Ny382 := am hy382
    clear hy382
    replace H := iq_ H; obtain ⟨c10b0, H⟩ := H
    replace H := iq_ H; obtain ⟨c11b0, H⟩ := H
    have H' := am H
    clear H
    obtain ⟨Ao12, co12, eo12⟩ := Kd.R_slice HO_4.out
    subst eo12
    have p378 : 0 ≤ ((ji5) : Int) := of_decide_eq_true ab4
    have q378 : (ji5) < (x4_1.length : Int) := of_decide_eq_true ab4
    obtain ⟨ad378, e378, hx378_0⟩ := Kd.at_int (Kd.R_reads' HO_4.out).2.2 (ji5) p378 q378
    cases e378
    replace p378 := eq_true p378
    replace q378 := eq_true q378
    have q13 : ((ji5) : Int) ≤ ((x4_1.length : Int) : Int) := of_decide_eq_true ab4
    obtain ⟨i013, hi013, _, hsz13, _⟩ := info_parts info3
    have hcut13 := cut_to (P := Try.prog) 23 3 .i64 Try.underlying23 hi013 (some ad378) x4_1.length co12 (ji5) (of_decide_eq_true ab4) q13 (Kd.R_reads' HO_4.out).2.1
    have hr13 := Kd.R_take (m := ((ji5) : Int).toNat) HO_4.out (by omega)
    have hy13 : y379.length = ((ji5) : Int).toNat := (by rw [Ny379.out, List.length_take]; omega)
    rw [← Ny379.out] at hr13
    rw [← hy13] at hr13 hcut13
    clear hy13 hi013 hsz13 HO_4
    have HO381 := am hr13
    clear hr13
    replace q13 := eq_true q13
    go_wp2_with (first | ((with_reducible refine gate_builtin (b := .append) (xs := #[.tmp 22, .tmp 24]) rfl ?_); at_builtin; refine Kd.R_append (Kd.int .i64) (w0 := w) w.heap.size rfl (.tmp 22) (.tmp 24) 23 3 (.int .i64 0) 8 rfl Try.underlying23 info3 rfl (by decide) (by omega) u3 x3_1 (rd x4_1 (ji5)) [.int .i64 (rd x4_1 (ji5))] (fun k_ => some k_ ≠ (.slice (some ad378) y379.length co12 : Value).ownBlock) (fun _ => False) rfl rfl ?aP (fun _ hk => hk.elim) ?aF ?aO ?aB ?aS ?aL ?_; (case aP => exact rfl); (case aB => exact ab1); (case aF => exact (fun k_ hk => Kd.fresh' (Kd.R_lt (ab8 HO381)) k_ hk)); (case aO => exact (ab8 HO_3)); (case aS => exact (below_size ab1)); (case aL => have := LMc9.out; omega); intro v383 w14 ho hb hg hat; rw [← Ny382.out] at ho; replace HO381 := am (Kd.R_after (ok := (fun _ => True)) (by (with_reducible repeat (first | apply Kd.R_alloc | apply Kd.R_drewN | apply Kd.R_drew)); exact Kd.R_mono HO381.out (fun _ hk => ⟨trivial, hk⟩)) hg hat); replace HB := am hb; have HO384 := am ho; clear HO_3; clear ho hb hg hat; have p385 : 0 ≤ ((rd x4_1 (ji5)) : Int) := of_decide_eq_true ab4; have q385 : (rd x4_1 (ji5)) < (l0.length : Int) := of_decide_eq_true ab4; obtain ⟨ad385, A385_3, c385_3, A385_6, c385_6, e385, hx385_0, hx385_1, hx385_2, hx385_3, hx385_4, hx385_5, hx385_6, hl385_3, hi385_3, hl385_6, hi385_6⟩ := at_T38 HR0.out (rd x4_1 (ji5)) p385 q385; cases e385; replace hx385_0 := pc_ HB hx385_0; replace hx385_1 := pc_ HB hx385_1; replace hx385_2 := pc_ HB hx385_2; replace hx385_3 := pc_ HB hx385_3; replace hx385_4 := pc_ HB hx385_4; replace hx385_5 := pc_ HB hx385_5; replace hx385_6 := pc_ HB hx385_6; have HR385_3 := am hi385_3; have HC385_3 := am hl385_3; clear hi385_3 hl385_3; have HR385_6 := am hi385_6; have HC385_6 := am hl385_6; clear hi385_6 hl385_6; replace p385 := eq_true p385; replace q385 := eq_true q385))
    go_loopg [4, 7] k1 (fun kq v4 v7 w' => ∃ (x4_2 : List Int) (x7_2 : Int), v7 = .int .i64 x7_2 ∧ Aside0 (impl_order.l1 kq l0 y382 x4_2 (rd x4_1 (ji5)) x7_2 = some r) ∧ Aside0 (kq ≤ k1) ∧ Aside0 (Kd.R (Kd.int .i64) 3 w' w.heap.size (fun k_ => some k_ ≠ (v4 : Value).ownBlock) v383 y382) ∧ Aside0 (Kd.R (Kd.int .i64) 3 w' w.heap.size (fun k_ => some k_ ≠ (v383 : Value).ownBlock) v4 x4_2) ∧ Aside0 (Below w.heap.size w w'))
    case atStart => exact ⟨(y379), (wrap64 ((((rd_T38 l0 (rd x4_1 (ji5))).f6).length : Int) - 1)), (by first | rfl | (simp; done) | (simp only [← hji5] <;> (first | rfl | simp)) | (simp [*]; done)), H', ⟨Nat.le_refl _⟩, ⟨ab8 HO384⟩, ⟨by (with_reducible repeat (first | apply Kd.R_alloc | apply Kd.R_drewN | apply Kd.R_drew)); exact Kd.R_mono HO381.out (fun _ hk => hk.2)⟩, ⟨ab1⟩⟩
    case round =>
     clear H'
     (try clear c1); (try clear q1); (try clear p2); (try clear c3); (try clear p3); (try clear q3); (try clear hx3); (try clear c4); (try clear c4b0); (try clear c4b1); (try clear c6); (try clear c6b0); (try clear p6); (try clear c7); (try clear c7b0); (try clear c8); (try clear c8b0); (try clear c8b1); (try clear c9); (try clear c10); (try clear c10b0); (try clear c11); (try clear c11b0); (try clear q13); (try clear hx378_0); (try clear hx385_0); (try clear hx385_1); (try clear hx385_2); (try clear hx385_3); (try clear hx385_4); (try clear hx385_5); (try clear hx385_6); (try clear p2); (try clear p378); (try clear p385); (try clear q13); (try clear q378); (try clear q385)
     obtain ⟨x4_2, x7_2, rfl, HA, HK2, HO_3, HO_4, HB⟩ := hrel
     cases gk with
     | zero => exact absurd HA.out (by simp [impl_order.l1])
     | succ k2 =>
      have H := HA.out
      clear HA
      simp only [impl_order.l1] at H
      by_cases c15 : x7_2 ≥ 0
      ·rw [if_pos c15] at H
       have c15b0 : decide (0 ≤ x7_2) = true := decide_eq_true c15
       clear c15
       replace H := iq_ H; obtain ⟨c16b0, H⟩ := H
       replace H := iq_ H; obtain ⟨c17b0, H⟩ := H
       replace H := iq_ H; obtain ⟨c18b0, H⟩ := H
       replace H := iq_ H; obtain ⟨c19b0, H⟩ := H
       by_cases c20 : x4_2.length < 17592186044416
       case neg => rw [if_neg c20] at H; exact absurd H (by simp)
       rw [if_pos c20] at H
       have LMc20 := am c20
       clear c20
       obtain ⟨y388, hy388⟩ : ∃ y_ : List Int, y_ = (x4_2 ++ [rd ((rd_T38 l0 (rd x4_1 (ji5))).f6) x7_2]) := ⟨_, rfl⟩
       replace H : (impl_order.l1 k2 l0 y382 y388 (rd x4_1 (ji5)) (wrap64 (x7_2 - 1))) = some r := by first | (rw [hy388]; with_reducible exact H) | (have H2_ := (Option.bind_some _ _).symm.trans H; rw [hy388]; with_reducible exact H2_) | (have H2_ := (Option.bind_some _ _).symm.trans H; with_reducible exact H2_) | with_reducible exact H | (rw [hy388]; exact H) | exact H
       have Ny388 := am hy388
       clear hy388
       have H' := am H
       clear H
       have p386 : 0 ≤ ((rd x4_1 (ji5)) : Int) := of_decide_eq_true ab4
       have q386 : (rd x4_1 (ji5)) < (l0.length : Int) := of_decide_eq_true ab4
       obtain ⟨ad386, A386_3, c386_3, A386_6, c386_6, e386, hx386_0, hx386_1, hx386_2, hx386_3, hx386_4, hx386_5, hx386_6, hl386_3, hi386_3, hl386_6, hi386_6⟩ := at_T38 HR0.out (rd x4_1 (ji5)) p386 q386
       obtain rfl : ad385 = ad386 := (by injection e386)
       replace hx386_0 := pc_ HB hx386_0
       replace hx386_1 := pc_ HB hx386_1
       replace hx386_2 := pc_ HB hx386_2
       replace hx386_3 := pc_ HB hx386_3
       replace hx386_4 := pc_ HB hx386_4
       replace hx386_5 := pc_ HB hx386_5
       replace hx386_6 := pc_ HB hx386_6
       have HR386_3 := am hi386_3
       have HC386_3 := am hl386_3
       clear hi386_3 hl386_3
       have HR386_6 := am hi386_6
       have HC386_6 := am hl386_6
       clear hi386_6 hl386_6
       replace p386 := eq_true p386
       replace q386 := eq_true q386
       have p387 : 0 ≤ (x7_2 : Int) := of_decide_eq_true ab4
       have q387 : x7_2 < (((rd_T38 l0 (rd x4_1 (ji5))).f6).length : Int) := of_decide_eq_true ab4
       obtain ⟨ad387, e387, hx387_0⟩ := Kd.at_int HR386_6.out x7_2 p387 q387
       cases e387
       replace hx387_0 := pc_ HB hx387_0
       replace p387 := eq_true p387
       replace q387 := eq_true q387
       go_wp2_with (first | ((with_reducible refine gate_builtin (b := .append) (xs := #[.tmp 37, .tmp 46]) rfl ?_); at_builtin; refine Kd.R_append (Kd.int .i64) (w0 := w) w.heap.size rfl (.tmp 37) (.tmp 46) 23 3 (.int .i64 0) 8 rfl Try.underlying23 info3 rfl (by decide) (by omega) u4 x4_2 (rd ((rd_T38 l0 (rd x4_1 (ji5))).f6) x7_2) [.int .i64 (rd ((rd_T38 l0 (rd x4_1 (ji5))).f6) x7_2)] (fun k_ => some k_ ≠ (v383 : Value).ownBlock) (fun _ => False) rfl rfl ?aP (fun _ hk => hk.elim) ?aF ?aO ?aB ?aS ?aL ?_; (case aP => exact rfl); (case aB => exact ab1); (case aF => exact (fun k_ hk => Kd.fresh' (Kd.R_lt (ab8 HO_3)) k_ hk)); (case aO => exact (ab8 HO_4)); (case aS => exact (below_size ab1)); (case aL => have := LMc20.out; omega); intro v389 w21 ho hb hg hat; rw [← Ny388.out] at ho; replace HO_3 := am (Kd.R_after (ok := (fun _ => True)) (by (with_reducible repeat (first | apply Kd.R_alloc | apply Kd.R_drewN | apply Kd.R_drew)); exact Kd.R_mono HO_3.out (fun _ hk => ⟨trivial, hk⟩)) hg hat); replace HB := am hb; have HO390 := am ho; clear HO_4; clear ho hb hg hat))
       go_roundg k2
       case measure => have := HK1.out; have := HK2.out; omega
       case rel => exact ⟨(y388), (wrap64 (x7_2 - 1)), ab6, H', ⟨by have := HK1.out; have := HK2.out; omega⟩, ⟨by (with_reducible repeat (first | apply Kd.R_alloc | apply Kd.R_drewN | apply Kd.R_drew)); exact Kd.R_mono HO_3.out (fun _ hk => hk.2)⟩, ⟨ab8 HO390⟩, ⟨ab1⟩⟩
      ·rw [if_neg c15] at H
       have c15b0 : decide (0 ≤ x7_2) = false := decide_eq_false c15
       clear c15
       have H' := am H
       clear H
       go_wp2
       go_roundg k2
       case measure => have := HK1.out; have := HK2.out; omega
       case rel => exact ⟨(y382), (x4_2), H', ⟨by have := HK1.out; have := HK2.out; omega⟩, ⟨ab8 HO_3⟩, ⟨ab8 HO_4⟩, ⟨ab1⟩⟩
   ·rw [if_neg c4] at H
    have c4b0 : decide (0 < (x4_1.length : Int)) = false := decide_eq_false c4
    have c4b1 : decide (0 < x4_1.length) = false := decide_eq_false (by omega)
    clear c4
    obtain rfl := Option.some.inj H
    obtain ⟨Ao22, co22, eo22⟩ := Kd.R_slice HO_4.out
    subst eo22
    go_wp2
    go_ret
    exact ⟨_, ab7, by (with_reducible repeat (first | apply Kd.R_alloc | apply Kd.R_drewN | apply Kd.R_drew)); exact Kd.R_mono HO_3.out (fun _ hk => trivial), ab1⟩
mutual
def impl_TreeOk.j0 : Nat → List (S38) → Bool → Option (Bool)
 | 0, _, _ => none
 | k + 1, x0, x15 => if x15 = true then (some false) else (if 1 ≤ (x0.length : Int) then ((some (x0.drop 1 : List (S38))).bind fun y394 => (impl_TreeOk.l0 k x0 y394 (y394.length : Int) 0)) else (none))
def impl_TreeOk.l0 : Nat → List (S38) → List (S38) → Int → Int → Option (Bool)
 | 0, _, _, _, _ => none
 | k + 1, x0, x17, x18, x19 => if x19 < x18 then (if 0 ≤ x19 then (if x19 < (x17.length : Int) then ((impl_itemOk.f k ((rd_T38 x17 x19).f0) ((rd_T38 x17 x19).f1) ((rd_T38 x17 x19).f2) ((rd_T38 x17 x19).f3) ((rd_T38 x17 x19).f4) ((rd_T38 x17 x19).f5) ((rd_T38 x17 x19).f6)).bind fun t404 => (if t404 = true then ((impl_inRange.f ((rd_T38 x17 x19).f5) 0 (wrap64 ((x0.length : Int) - 1))).bind fun t405 => (if t405 = true then (if 0 ≤ ((rd_T38 x17 x19).f5) then (if ((rd_T38 x17 x19).f5) < (x0.length : Int) then ((impl_hasKids.f ((rd_T38 x0 ((rd_T38 x17 x19).f5)).f0)).bind fun t407 => (if t407 = true then (impl_TreeOk.l0 k x0 x17 x18 (wrap64 (x19 + 1))) else (some false))) else (none)) else (none)) else (some false))) else (some false))) else (none)) else (none)) else ((impl_kidsOk.f k x0).bind fun t398 => (if t398 = true then ((impl_order.f k x0).bind fun t399 => (some ((t399.length : Int) == (x0.length : Int)))) else (some false)))
end
def impl_TreeOk.f (k : Nat) (l0 : List (S38)) : Option (Bool) := (impl_inRange.f (l0.length : Int) 1 3000).bind fun t391 => (if t391 = true then (if 0 < (l0.length : Int) then ((impl_pageOk.f ((rd_T38 l0 0).f0) ((rd_T38 l0 0).f1) ((rd_T38 l0 0).f2) ((rd_T38 l0 0).f3) ((rd_T38 l0 0).f4) ((rd_T38 l0 0).f5) ((rd_T38 l0 0).f6)).bind fun t393 => (impl_TreeOk.j0 k l0 (!t393))) else (none)) else (impl_TreeOk.j0 k l0 true))
theorem impl_TreeOk.calls (k : Nat) (A0 : Option Addr) (c0 : Nat) (l0 : List (S38)) (r : Bool) (w : World) (hr0 : Kd.C k38 w A0 l0.length l0) (hc0 : l0.length ≤ c0) (h : impl_TreeOk.f k l0 = some r) :
  Calls Try.prog 50 #[.slice A0 l0.length c0] w fun e w' => e = .returned (.bool r) ∧ Below w.heap.size w w' := by
 have hu38 := Try.underlying38
 have HR0 := am hr0
 have HC0 := am hc0
 clear hr0 hc0
 have HB := am (Below.refl w.heap.size w)
 have H : ((impl_inRange.f (l0.length : Int) 1 3000).bind fun t391 => (if t391 = true then (if 0 < (l0.length : Int) then ((impl_pageOk.f ((rd_T38 l0 0).f0) ((rd_T38 l0 0).f1) ((rd_T38 l0 0).f2) ((rd_T38 l0 0).f3) ((rd_T38 l0 0).f4) ((rd_T38 l0 0).f5) ((rd_T38 l0 0).f6)).bind fun t393 => (impl_TreeOk.j0 k l0 (!t393))) else (none)) else (impl_TreeOk.j0 k l0 true))) = some r := h
 clear h
 have HC2 := am H
 clear H
 go_enter Try.func50, Try.ntmps50
 go_upto_region 1 with (fail)
 go_cut [15] (fun v15 wc => ∃ (kq : Nat) (x15_1 : Bool), v15 = .bool x15_1 ∧ Aside0 (impl_TreeOk.j0 kq l0 x15_1 = some r) ∧ Aside0 (kq ≤ k) ∧ Aside0 (Below w.heap.size w wc))
 case first =>
  have H := HC2.out
  clear HC2
  replace H := bi_ H; obtain ⟨t391, A3, H⟩ := H
  replace H := ib_ H; rcases H with ⟨rfl, H⟩ | ⟨rfl, H⟩
  ·by_cases c5 : 0 < (l0.length : Int)
   case neg => rw [if_neg c5] at H; exact absurd H (by simp)
   rw [if_pos c5] at H
   have c5b0 := decide_eq_true c5
   have c5b1 : decide (0 < l0.length) = true := decide_eq_true (by omega)
   clear c5
   (first | rw [c5b0] | (simp only [i64_w, i32_w]; rw [c5b0]) | skip)
   (try (generalize hgzc5 : decide (0 < (l0.length : Int)) = bqc5 at *; subst c5b0; have c5b0 := hgzc5; clear hgzc5))
   replace H := bi_ H; obtain ⟨t393, A6, H⟩ := H
   replace H : (impl_TreeOk.j0 k l0 (!t393)) = some r := by first | exact H | (rw [c5b0]; exact H)
   have H' := am H
   clear H
   go_wp2_with (first | ((with_reducible refine gf_ 66 ?_); refine gc_ Try.func66 (impl_inRange.calls (l0.length : Int) 1 3000 true _ A3.out) ?_; rintro w' ⟨nd, rfl⟩; have p392 : 0 ≤ (0 : Int) := (by omega); have q392 : 0 < (l0.length : Int) := of_decide_eq_true ab4; obtain ⟨ad392, A392_3, c392_3, A392_6, c392_6, e392, hx392_0, hx392_1, hx392_2, hx392_3, hx392_4, hx392_5, hx392_6, hl392_3, hi392_3, hl392_6, hi392_6⟩ := at_T38 HR0.out 0 p392 q392; cases e392; have qi392 : (0 < l0.length) = True := eq_true (by omega); (try rw [show ((0 : Int)).toNat = 0 from rfl] at hx392_0); (try rw [show 0 * 7 = 0 from rfl] at hx392_0); (try rw [Addr.add_zero'] at hx392_0); (try rw [show ((0 : Int)).toNat = 0 from rfl] at hx392_1); (try rw [show 0 * 7 = 0 from rfl] at hx392_1); (try rw [Addr.add_zero'] at hx392_1); (try rw [show ((0 : Int)).toNat = 0 from rfl] at hx392_2); (try rw [show 0 * 7 = 0 from rfl] at hx392_2); (try rw [Addr.add_zero'] at hx392_2); (try rw [show ((0 : Int)).toNat = 0 from rfl] at hx392_3); (try rw [show 0 * 7 = 0 from rfl] at hx392_3); (try rw [Addr.add_zero'] at hx392_3); (try rw [show ((0 : Int)).toNat = 0 from rfl] at hx392_4); (try rw [show 0 * 7 = 0 from rfl] at hx392_4); (try rw [Addr.add_zero'] at hx392_4); (try rw [show ((0 : Int)).toNat = 0 from rfl] at hx392_5); (try rw [show 0 * 7 = 0 from rfl] at hx392_5); (try rw [Addr.add_zero'] at hx392_5); (try rw [show ((0 : Int)).toNat = 0 from rfl] at hx392_6); (try rw [show 0 * 7 = 0 from rfl] at hx392_6); (try rw [Addr.add_zero'] at hx392_6); replace hx392_0 := pc_ HB hx392_0; replace hx392_1 := pc_ HB hx392_1; replace hx392_2 := pc_ HB hx392_2; replace hx392_3 := pc_ HB hx392_3; replace hx392_4 := pc_ HB hx392_4; replace hx392_5 := pc_ HB hx392_5; replace hx392_6 := pc_ HB hx392_6; have HR392_3 := am hi392_3; have HC392_3 := am hl392_3; clear hi392_3 hl392_3; have HR392_6 := am hi392_6; have HC392_6 := am hl392_6; clear hi392_6 hl392_6; replace p392 := eq_true p392; replace q392 := eq_true q392) | (go_at_call 68; (with_reducible refine (impl_pageOk.calls ((rd_T38 l0 0).f0) ((rd_T38 l0 0).f1) ((rd_T38 l0 0).f2) _ _ ((rd_T38 l0 0).f3) ((rd_T38 l0 0).f4) ((rd_T38 l0 0).f5) _ _ ((rd_T38 l0 0).f6) t393 _ ?side1 ?side2 ?side3 ?side4 A6.out).mono ?_); (case side1 => repeat (first | exact (Kd.C_below HR392_3.out ab1) | (with_reducible refine Kd.C_alloc ?_ _) | (with_reducible refine Kd.C_drewN ?_ _) | (with_reducible refine Kd.C_drew ?_))); (case side2 => exact HC392_3.out); (case side3 => repeat (first | exact (Kd.C_below HR392_6.out ab1) | (with_reducible refine Kd.C_alloc ?_ _) | (with_reducible refine Kd.C_drewN ?_ _) | (with_reducible refine Kd.C_drew ?_))); (case side4 => exact HC392_6.out); rintro e w7 ⟨rfl, hb⟩; replace HB := am (below_step ab1 hb); (try clear hb); (try clear hb2); (try clear hk); (try clear hi)))
   go_meet
   case rel => exact ⟨_, (!t393), ab6, (by first | exact H' | (have h_ := H'.out; rw [c5b0] at h_; exact ⟨h_⟩)), ⟨by first | omega | exact Nat.le_refl _⟩, ⟨ab1⟩⟩
  ·have H' := am H
   clear H
   go_wp2_with (first | ((with_reducible refine gf_ 66 ?_); refine gc_ Try.func66 (impl_inRange.calls (l0.length : Int) 1 3000 false _ A3.out) ?_; rintro w' ⟨nd, rfl⟩))
   go_meet
   case rel => exact ⟨_, (true), ab6, H', ⟨by first | omega | exact Nat.le_refl _⟩, ⟨ab1⟩⟩
 case rest =>
  clear HC2
  (try clear p2); (try clear c3); (try clear p3); (try clear q3); (try clear hx3); (try clear qi3); (try clear c4); (try clear c5); (try clear c5b0); (try clear c5b1); (try clear c6); (try clear hx392_0); (try clear hx392_1); (try clear hx392_2); (try clear hx392_3); (try clear hx392_4); (try clear hx392_5); (try clear hx392_6); (try clear p392); (try clear q392)
  obtain ⟨kq, x15_1, rfl, HA, HJ1, HB⟩ := hcut
  cases kq with
  | zero => exact absurd HA.out (by simp [impl_TreeOk.j0])
  | succ kj1 =>
   have H := HA.out
   clear HA
   simp only [impl_TreeOk.j0] at H
   replace H := ib_ H; rcases H with ⟨rfl, H⟩ | ⟨rfl, H⟩
   ·obtain rfl := Option.some.inj H
    go_wp2
    go_ret
    exact ⟨ab7, ab1⟩
   ·by_cases c9 : 1 ≤ (l0.length : Int)
    case neg => rw [if_neg c9] at H; exact absurd H (by simp)
    rw [if_pos c9] at H
    have c9b0 := eq_true c9
    have c9b1 := decide_eq_true c9
    clear c9
    obtain ⟨y394, hy394⟩ : ∃ y_ : List (S38), y_ = (l0.drop 1) := ⟨_, rfl⟩
    replace H : (impl_TreeOk.l0 kj1 l0 y394 (y394.length : Int) 0) = some r := by first | (rw [hy394]; with_reducible exact H) | (have H2_ := (Option.bind_some _ _).symm.trans H; rw [hy394]; with_reducible exact H2_) | (have H2_ := (Option.bind_some _ _).symm.trans H; with_reducible exact H2_) | with_reducible exact H | (rw [hy394]; exact H) | exact H
    have Ny394 := am hy394
    clear hy394
    have H' := am H
    clear H
    have q10 : (1 : Int) ≤ ((l0.length : Int) : Int) := of_decide_eq_true ab4
    obtain ⟨i010, hi010, _, hsz10, _⟩ := info_parts info38
    have hroom10 : l0.length ≤ c0 := HC0.out
    have hC10 : Kd.C k38 _ A0 l0.length l0 := HR0.out
    have hcut10 := cut_from (P := Try.prog) 31 38 .i64 Try.underlying31 hi010 7 hsz10 A0 l0.length c0 1 (by omega) q10
    have hr10 := Kd.C_drop (m := (1 : Int).toNat) (c := c0) hC10 (by omega) hroom10
    obtain ⟨A10, hA10⟩ : ∃ A1, A1 = (if c0 = (1 : Int).toNat then A0 else (A0 : Option Addr).map (·.add ((1 : Int).toNat * 7))) := ⟨_, rfl⟩
    obtain ⟨c10, hc10⟩ : ∃ c1, c1 = c0 - (1 : Int).toNat := ⟨_, rfl⟩
    have hy10 : y394.length = l0.length - (1 : Int).toNat := (by rw [Ny394.out, List.length_drop] <;> omega)
    rw [show (l0).drop (1 : Int).toNat = y394 from Ny394.out.symm] at hr10
    replace hr10 : Kd.C k38 _ A10 y394.length y394 := (by rw [hA10]; exact hr10)
    rw [← hy10, ← hA10, ← hc10] at hcut10
    have HR397 := am hr10
    have HC397 := am (show y394.length ≤ c10 from by rw [hy10, hc10]; exact Nat.sub_le_sub_right hroom10 _)
    clear hr10 hC10 hroom10 hi010 hsz10 hc10
    have KY10 := am hy10
    have KA10 := am hA10
    clear hy10 hA10
    replace q10 := eq_true q10
    go_wp2
    go_loopg [19] kj1 (fun kq v19 w' => ∃ (x19_2 : Int), v19 = .int .i64 x19_2 ∧ Aside0 (impl_TreeOk.l0 kq l0 y394 (y394.length : Int) x19_2 = some r) ∧ Aside0 (kq ≤ kj1) ∧ Aside0 (Below w.heap.size w w'))
    case atStart => exact ⟨(0), ab6, H', ⟨Nat.le_refl _⟩, ⟨ab1⟩⟩
    case round =>
     clear H'
     (try clear c1); (try clear q1); (try clear p2); (try clear c3); (try clear p3); (try clear q3); (try clear hx3); (try clear qi3); (try clear c4); (try clear c5); (try clear c5b0); (try clear c5b1); (try clear c6); (try clear c8); (try clear c9); (try clear c9b0); (try clear c9b1); (try clear c10); (try clear q10); (try clear hx392_0); (try clear hx392_1); (try clear hx392_2); (try clear hx392_3); (try clear hx392_4); (try clear hx392_5); (try clear hx392_6); (try clear p2); (try clear p3); (try clear p392); (try clear q10); (try clear q3); (try clear q392)
     obtain ⟨x19_2, rfl, HA, HK2, HB⟩ := hrel
     cases gk with
     | zero => exact absurd HA.out (by simp [impl_TreeOk.l0])
     | succ k2 =>
      have H := HA.out
      clear HA
      simp only [impl_TreeOk.l0] at H
      replace H := ir_ H; rcases H with ⟨c11b0, H⟩ | ⟨c11b0, H⟩
      ·replace H := iq_ H; obtain ⟨c12b0, H⟩ := H
       replace H := iq_ H; obtain ⟨c13b0, H⟩ := H
       replace H := bi_ H; obtain ⟨t404, A14, H⟩ := H
       replace H := ib_ H; rcases H with ⟨rfl, H⟩ | ⟨rfl, H⟩
       ·replace H := bi_ H; obtain ⟨t405, A16, H⟩ := H
        replace H := ib_ H; rcases H with ⟨rfl, H⟩ | ⟨rfl, H⟩
        ·replace H := iq_ H; obtain ⟨c18b0, H⟩ := H
         replace H := iq_ H; obtain ⟨c19b0, H⟩ := H
         replace H := bi_ H; obtain ⟨t407, A20, H⟩ := H
         replace H := ib_ H; rcases H with ⟨rfl, H⟩ | ⟨rfl, H⟩
         ·have H' := am H
          clear H
          have p402 : 0 ≤ (x19_2 : Int) := of_decide_eq_true ab4
          have q402 : x19_2 < (y394.length : Int) := of_decide_eq_true ab4
          obtain ⟨ad402, A402_3, c402_3, A402_6, c402_6, e402, hx402_0, hx402_1, hx402_2, hx402_3, hx402_4, hx402_5, hx402_6, hl402_3, hi402_3, hl402_6, hi402_6⟩ := at_T38 HR397.out x19_2 p402 q402
          cases e402
          replace hx402_0 := pc_ HB hx402_0
          replace hx402_1 := pc_ HB hx402_1
          replace hx402_2 := pc_ HB hx402_2
          replace hx402_3 := pc_ HB hx402_3
          replace hx402_4 := pc_ HB hx402_4
          replace hx402_5 := pc_ HB hx402_5
          replace hx402_6 := pc_ HB hx402_6
          have HR402_3 := am hi402_3
          have HC402_3 := am hl402_3
          clear hi402_3 hl402_3
          have HR402_6 := am hi402_6
          have HC402_6 := am hl402_6
          clear hi402_6 hl402_6
          replace p402 := eq_true p402
          replace q402 := eq_true q402
          go_wp2_with (first | ((with_reducible refine gd_ 4 ?_); (try (refine gate_guard (by rfl) ?_; dsimp only)); refine bx_ 4 (cs := #[.int .i64 0, .int .i64 0, .string (⟨#[]⟩ : ByteArray), .slice none 0 0, .string (⟨#[]⟩ : ByteArray), .int .i64 0, .slice none 0 0]) 38 ?_; intro gb403 hg w22 hbox hb; have BK403 := am hbox; have GW403 := ge_ (w := w) hg; have GE403 := ge_ (w := w) hg; replace HB := am (below_step ab1 hb); clear hb hbox hg; obtain ⟨⟨_, _, _, _, _, _, _⟩, _, _, _, _, _, _, _⟩ := Op.cells7 BK403.out) | ((with_reducible refine gf_ 52 ?_); refine gc_ Try.func52 (impl_itemOk.calls k2 ((rd_T38 y394 x19_2).f0) ((rd_T38 y394 x19_2).f1) ((rd_T38 y394 x19_2).f2) _ _ ((rd_T38 y394 x19_2).f3) ((rd_T38 y394 x19_2).f4) ((rd_T38 y394 x19_2).f5) _ _ ((rd_T38 y394 x19_2).f6) true _ (Kd.C_below HR402_3.out (ab2 GE403)) HC402_3.out (Kd.C_below HR402_6.out (ab2 GE403)) HC402_6.out A14.out) ?_; rintro w24 hb; replace BK403 := bp_ BK403 hb; replace HB := am (below_step (ab2 GE403) hb); (try clear hb); (try clear hb2); (try clear hk); (try clear hi); obtain ⟨⟨_, _, _, _, _, _, _⟩, _, _, _, _, _, _, _⟩ := Op.cells7 BK403.out) | (go_at_call 66; (with_reducible refine (impl_inRange.calls ((rd_T38 y394 x19_2).f5) 0 (wrap64 ((l0.length : Int) - 1)) true _ A16.out).mono ?_); rintro e w' ⟨rfl, ⟨nd, rfl⟩⟩; have p406 : 0 ≤ (((rd_T38 y394 x19_2).f5) : Int) := of_decide_eq_true ab4; have q406 : ((rd_T38 y394 x19_2).f5) < (l0.length : Int) := of_decide_eq_true ab4; obtain ⟨ad406, A406_3, c406_3, A406_6, c406_6, e406, hx406_0, hx406_1, hx406_2, hx406_3, hx406_4, hx406_5, hx406_6, hl406_3, hi406_3, hl406_6, hi406_6⟩ := at_T38 HR0.out ((rd_T38 y394 x19_2).f5) p406 q406; cases e406; replace hx406_0 := pc_ HB hx406_0; replace hx406_1 := pc_ HB hx406_1; replace hx406_2 := pc_ HB hx406_2; replace hx406_3 := pc_ HB hx406_3; replace hx406_4 := pc_ HB hx406_4; replace hx406_5 := pc_ HB hx406_5; replace hx406_6 := pc_ HB hx406_6; have HR406_3 := am hi406_3; have HC406_3 := am hl406_3; clear hi406_3 hl406_3; have HR406_6 := am hi406_6; have HC406_6 := am hl406_6; clear hi406_6 hl406_6; replace p406 := eq_true p406; replace q406 := eq_true q406) | (go_at_call 69; (with_reducible refine (impl_hasKids.calls ((rd_T38 l0 ((rd_T38 y394 x19_2).f5)).f0) true _ A20.out).mono ?_); rintro e w' ⟨rfl, ⟨nd, rfl⟩⟩))
          go_roundg k2
          case measure => have := HJ1.out; have := HK2.out; omega
          case rel => exact ⟨(wrap64 (x19_2 + 1)), ab6, H', ⟨by have := HJ1.out; have := HK2.out; omega⟩, ⟨ab2 GE403⟩⟩
         ·obtain rfl := Option.some.inj H
          have p402 : 0 ≤ (x19_2 : Int) := of_decide_eq_true ab4
          have q402 : x19_2 < (y394.length : Int) := of_decide_eq_true ab4
          obtain ⟨ad402, A402_3, c402_3, A402_6, c402_6, e402, hx402_0, hx402_1, hx402_2, hx402_3, hx402_4, hx402_5, hx402_6, hl402_3, hi402_3, hl402_6, hi402_6⟩ := at_T38 HR397.out x19_2 p402 q402
          cases e402
          replace hx402_0 := pc_ HB hx402_0
          replace hx402_1 := pc_ HB hx402_1
          replace hx402_2 := pc_ HB hx402_2
          replace hx402_3 := pc_ HB hx402_3
          replace hx402_4 := pc_ HB hx402_4
          replace hx402_5 := pc_ HB hx402_5
          replace hx402_6 := pc_ HB hx402_6
          have HR402_3 := am hi402_3
          have HC402_3 := am hl402_3
          clear hi402_3 hl402_3
          have HR402_6 := am hi402_6
          have HC402_6 := am hl402_6
          clear hi402_6 hl402_6
          replace p402 := eq_true p402
          replace q402 := eq_true q402
          go_wp2_with (first | ((with_reducible refine gd_ 4 ?_); (try (refine gate_guard (by rfl) ?_; dsimp only)); refine bx_ 4 (cs := #[.int .i64 0, .int .i64 0, .string (⟨#[]⟩ : ByteArray), .slice none 0 0, .string (⟨#[]⟩ : ByteArray), .int .i64 0, .slice none 0 0]) 38 ?_; intro gb403 hg w26 hbox hb; have BK403 := am hbox; have GW403 := ge_ (w := w) hg; have GE403 := ge_ (w := w) hg; replace HB := am (below_step ab1 hb); clear hb hbox hg; obtain ⟨⟨_, _, _, _, _, _, _⟩, _, _, _, _, _, _, _⟩ := Op.cells7 BK403.out) | ((with_reducible refine gf_ 52 ?_); refine gc_ Try.func52 (impl_itemOk.calls k2 ((rd_T38 y394 x19_2).f0) ((rd_T38 y394 x19_2).f1) ((rd_T38 y394 x19_2).f2) _ _ ((rd_T38 y394 x19_2).f3) ((rd_T38 y394 x19_2).f4) ((rd_T38 y394 x19_2).f5) _ _ ((rd_T38 y394 x19_2).f6) true _ (Kd.C_below HR402_3.out (ab2 GE403)) HC402_3.out (Kd.C_below HR402_6.out (ab2 GE403)) HC402_6.out A14.out) ?_; rintro w28 hb; replace BK403 := bp_ BK403 hb; replace HB := am (below_step (ab2 GE403) hb); (try clear hb); (try clear hb2); (try clear hk); (try clear hi); obtain ⟨⟨_, _, _, _, _, _, _⟩, _, _, _, _, _, _, _⟩ := Op.cells7 BK403.out) | (go_at_call 66; (with_reducible refine (impl_inRange.calls ((rd_T38 y394 x19_2).f5) 0 (wrap64 ((l0.length : Int) - 1)) true _ A16.out).mono ?_); rintro e w' ⟨rfl, ⟨nd, rfl⟩⟩; have p406 : 0 ≤ (((rd_T38 y394 x19_2).f5) : Int) := of_decide_eq_true ab4; have q406 : ((rd_T38 y394 x19_2).f5) < (l0.length : Int) := of_decide_eq_true ab4; obtain ⟨ad406, A406_3, c406_3, A406_6, c406_6, e406, hx406_0, hx406_1, hx406_2, hx406_3, hx406_4, hx406_5, hx406_6, hl406_3, hi406_3, hl406_6, hi406_6⟩ := at_T38 HR0.out ((rd_T38 y394 x19_2).f5) p406 q406; cases e406; replace hx406_0 := pc_ HB hx406_0; replace hx406_1 := pc_ HB hx406_1; replace hx406_2 := pc_ HB hx406_2; replace hx406_3 := pc_ HB hx406_3; replace hx406_4 := pc_ HB hx406_4; replace hx406_5 := pc_ HB hx406_5; replace hx406_6 := pc_ HB hx406_6; have HR406_3 := am hi406_3; have HC406_3 := am hl406_3; clear hi406_3 hl406_3; have HR406_6 := am hi406_6; have HC406_6 := am hl406_6; clear hi406_6 hl406_6; replace p406 := eq_true p406; replace q406 := eq_true q406) | (go_at_call 69; (with_reducible refine (impl_hasKids.calls ((rd_T38 l0 ((rd_T38 y394 x19_2).f5)).f0) false _ A20.out).mono ?_); rintro e w' ⟨rfl, ⟨nd, rfl⟩⟩))
          go_ret
          exact ⟨ab7, ab2 GE403⟩
        ·obtain rfl := Option.some.inj H
         have p402 : 0 ≤ (x19_2 : Int) := of_decide_eq_true ab4
         have q402 : x19_2 < (y394.length : Int) := of_decide_eq_true ab4
         obtain ⟨ad402, A402_3, c402_3, A402_6, c402_6, e402, hx402_0, hx402_1, hx402_2, hx402_3, hx402_4, hx402_5, hx402_6, hl402_3, hi402_3, hl402_6, hi402_6⟩ := at_T38 HR397.out x19_2 p402 q402
         cases e402
         replace hx402_0 := pc_ HB hx402_0
         replace hx402_1 := pc_ HB hx402_1
         replace hx402_2 := pc_ HB hx402_2
         replace hx402_3 := pc_ HB hx402_3
         replace hx402_4 := pc_ HB hx402_4
         replace hx402_5 := pc_ HB hx402_5
         replace hx402_6 := pc_ HB hx402_6
         have HR402_3 := am hi402_3
         have HC402_3 := am hl402_3
         clear hi402_3 hl402_3
         have HR402_6 := am hi402_6
         have HC402_6 := am hl402_6
         clear hi402_6 hl402_6
         replace p402 := eq_true p402
         replace q402 := eq_true q402
         go_wp2_with (first | ((with_reducible refine gd_ 4 ?_); (try (refine gate_guard (by rfl) ?_; dsimp only)); refine bx_ 4 (cs := #[.int .i64 0, .int .i64 0, .string (⟨#[]⟩ : ByteArray), .slice none 0 0, .string (⟨#[]⟩ : ByteArray), .int .i64 0, .slice none 0 0]) 38 ?_; intro gb403 hg w30 hbox hb; have BK403 := am hbox; have GW403 := ge_ (w := w) hg; have GE403 := ge_ (w := w) hg; replace HB := am (below_step ab1 hb); clear hb hbox hg; obtain ⟨⟨_, _, _, _, _, _, _⟩, _, _, _, _, _, _, _⟩ := Op.cells7 BK403.out) | ((with_reducible refine gf_ 52 ?_); refine gc_ Try.func52 (impl_itemOk.calls k2 ((rd_T38 y394 x19_2).f0) ((rd_T38 y394 x19_2).f1) ((rd_T38 y394 x19_2).f2) _ _ ((rd_T38 y394 x19_2).f3) ((rd_T38 y394 x19_2).f4) ((rd_T38 y394 x19_2).f5) _ _ ((rd_T38 y394 x19_2).f6) true _ (Kd.C_below HR402_3.out (ab2 GE403)) HC402_3.out (Kd.C_below HR402_6.out (ab2 GE403)) HC402_6.out A14.out) ?_; rintro w32 hb; replace BK403 := bp_ BK403 hb; replace HB := am (below_step (ab2 GE403) hb); (try clear hb); (try clear hb2); (try clear hk); (try clear hi); obtain ⟨⟨_, _, _, _, _, _, _⟩, _, _, _, _, _, _, _⟩ := Op.cells7 BK403.out) | (go_at_call 66; (with_reducible refine (impl_inRange.calls ((rd_T38 y394 x19_2).f5) 0 (wrap64 ((l0.length : Int) - 1)) false _ A16.out).mono ?_); rintro e w' ⟨rfl, ⟨nd, rfl⟩⟩))
         go_ret
         exact ⟨ab7, ab2 GE403⟩
       ·obtain rfl := Option.some.inj H
        have p402 : 0 ≤ (x19_2 : Int) := of_decide_eq_true ab4
        have q402 : x19_2 < (y394.length : Int) := of_decide_eq_true ab4
        obtain ⟨ad402, A402_3, c402_3, A402_6, c402_6, e402, hx402_0, hx402_1, hx402_2, hx402_3, hx402_4, hx402_5, hx402_6, hl402_3, hi402_3, hl402_6, hi402_6⟩ := at_T38 HR397.out x19_2 p402 q402
        cases e402
        replace hx402_0 := pc_ HB hx402_0
        replace hx402_1 := pc_ HB hx402_1
        replace hx402_2 := pc_ HB hx402_2
        replace hx402_3 := pc_ HB hx402_3
        replace hx402_4 := pc_ HB hx402_4
        replace hx402_5 := pc_ HB hx402_5
        replace hx402_6 := pc_ HB hx402_6
        have HR402_3 := am hi402_3
        have HC402_3 := am hl402_3
        clear hi402_3 hl402_3
        have HR402_6 := am hi402_6
        have HC402_6 := am hl402_6
        clear hi402_6 hl402_6
        replace p402 := eq_true p402
        replace q402 := eq_true q402
        go_wp2_with (first | ((with_reducible refine gd_ 4 ?_); (try (refine gate_guard (by rfl) ?_; dsimp only)); refine bx_ 4 (cs := #[.int .i64 0, .int .i64 0, .string (⟨#[]⟩ : ByteArray), .slice none 0 0, .string (⟨#[]⟩ : ByteArray), .int .i64 0, .slice none 0 0]) 38 ?_; intro gb403 hg w34 hbox hb; have BK403 := am hbox; have GW403 := ge_ (w := w) hg; have GE403 := ge_ (w := w) hg; replace HB := am (below_step ab1 hb); clear hb hbox hg; obtain ⟨⟨_, _, _, _, _, _, _⟩, _, _, _, _, _, _, _⟩ := Op.cells7 BK403.out) | ((with_reducible refine gf_ 52 ?_); refine gc_ Try.func52 (impl_itemOk.calls k2 ((rd_T38 y394 x19_2).f0) ((rd_T38 y394 x19_2).f1) ((rd_T38 y394 x19_2).f2) _ _ ((rd_T38 y394 x19_2).f3) ((rd_T38 y394 x19_2).f4) ((rd_T38 y394 x19_2).f5) _ _ ((rd_T38 y394 x19_2).f6) false _ (Kd.C_below HR402_3.out (ab2 GE403)) HC402_3.out (Kd.C_below HR402_6.out (ab2 GE403)) HC402_6.out A14.out) ?_; rintro w36 hb; replace BK403 := bp_ BK403 hb; replace HB := am (below_step (ab2 GE403) hb); (try clear hb); (try clear hb2); (try clear hk); (try clear hi)))
        go_ret
        exact ⟨ab7, ab2 GE403⟩
      ·replace H := bi_ H; obtain ⟨t398, A37, H⟩ := H
       replace H := ib_ H; rcases H with ⟨rfl, H⟩ | ⟨rfl, H⟩
       ·replace H := bi_ H; obtain ⟨t399, A39, H⟩ := H
        obtain rfl := Option.some.inj H
        go_wp2_with (first | ((with_reducible refine gf_ 70 ?_); refine gc_ Try.func70 (impl_kidsOk.calls k2 _ _ l0 true _ (sc_ HR0) HC0.out A37.out) ?_; rintro w40 hb; replace HB := am (below_step ab1 hb); (try clear hb); (try clear hb2); (try clear hk); (try clear hi)) | (go_at_call 71; (with_reducible refine (impl_order.calls k2 _ _ l0 t399 _ (sc_ HR0) HC0.out A39.out).mono ?_); rintro e w41 ⟨v400, rfl, ho0, hb⟩; have HO401 := am (Kd.R_lower ho0 (below_size ab1)); replace HB := am (below_step ab1 hb); (try clear hb); (try clear hb2); (try clear hk); (try clear hi); (try clear ho0); obtain ⟨Ao42, co42, eo42⟩ := Kd.R_slice HO401.out; subst eo42))
        go_ret
        exact ⟨ab7, ab1⟩
       ·obtain rfl := Option.some.inj H
        go_wp2_with (first | ((with_reducible refine gf_ 70 ?_); refine gc_ Try.func70 (impl_kidsOk.calls k2 _ _ l0 false _ (sc_ HR0) HC0.out A37.out) ?_; rintro w43 hb; replace HB := am (below_step ab1 hb); (try clear hb); (try clear hb2); (try clear hk); (try clear hi)))
        go_ret
        exact ⟨ab7, ab1⟩
theorem z22_0 {q0 p : Prop} (g0 : Aside0 q0) (h : Aside0 q0 → p := by intro g0_; repeat (first | (with_reducible first | exact g0_.out | apply IsS33.alloc | apply IsS33.drewN | apply IsS33.drew | apply IsS33.set_3 | apply IsS33.set_4) | exact g0_.out)) : p := h g0
theorem z22_1 {p : Prop} (h : p := by repeat (first | (with_reducible first | exact HK.out | apply KeepBut.set_ | apply keep_drewN | apply keep_drew | apply keep_alloc) | exact HK.out)) : p := h
theorem z22_2 {p : Prop} (h : p := by repeat (first | (with_reducible first | exact HB.out | apply below_alloc | apply pw_below_drewN | apply below_drew1) | exact HB.out)) : p := h
theorem pl_box {w0 w : World} {g : Nat} {A0_0 : Option Addr} {c0_0 : Nat} {s0_0 : List (S38)} {A0_1 : Option Addr} {c0_1 : Nat} {s0_1 : List Int} {A0_2 : Option Addr} {c0_2 : Nat} {s0_2 : List Int} {s0_3 : Int} {s0_4 : Int} (hg : g = w0.heap.size) (hbox : w.heap[g]? = some (.cells #[.slice A0_0 s0_0.length c0_0, .slice A0_1 s0_1.length c0_1, .slice A0_2 s0_2.length c0_2, .int .i64 s0_3, .int .i64 s0_4] 33 (0, 0))) (_ : Below w0.heap.size w0 w) (hr0_0 : Kd.C k38 w0 A0_0 s0_0.length s0_0) (hc0_0 : s0_0.length ≤ c0_0) (hr0_1 : Kd.C (Kd.int .i64) w0 A0_1 s0_1.length s0_1) (hc0_1 : s0_1.length ≤ c0_1) (hr0_2 : Kd.C (Kd.int .i64) w0 A0_2 s0_2.length s0_2) (hc0_2 : s0_2.length ≤ c0_2) : IsS33 w0 w g s0_0 s0_1 s0_2 s0_3 s0_4 :=
 ⟨A0_0, c0_0, A0_1, c0_1, A0_2, c0_2, hbox, ⟨trivial, hc0_0, hc0_1, hc0_2⟩, hr0_0, hr0_1, hr0_2⟩
def impl_PageOk.ixf (k : Nat) (s0_0 : List (S38)) (s0_1 : List Int) (s0_2 : List Int) (s0_3 : Int) (s0_4 : Int) (a1 : Int) : Option (Int × Int × Int) := (slices_Index_int_int.f k s0_1 a1).bind fun t => some (t, s0_3, s0_4)
def impl_PageOk.trf (k : Nat) (s0_0 : List (S38)) (s0_1 : List Int) (s0_2 : List Int) (s0_3 : Int) (s0_4 : Int) : Option (Bool × Int × Int) := (impl_TreeOk.f k s0_0).bind fun t => some (t, s0_3, s0_4)
theorem impl_PageOk.ix (k : Nat) (g : Nat) (s0_0 : List (S38)) (s0_1 : List Int) (s0_2 : List Int) (s0_3 : Int) (s0_4 : Int) (a1 : Int) (r1 r2 r3 : Int) (w0 w : World) (A : Option Addr) (c : Nat) (hI : IsS33 w0 w g s0_0 s0_1 s0_2 s0_3 s0_4) (hB : Below w0.heap.size w0 w) (hr : Kd.C (Kd.int .i64) w0 A s0_1.length s0_1) (hc : s0_1.length ≤ c) (h : impl_PageOk.ixf k s0_0 s0_1 s0_2 s0_3 s0_4 a1 = some (r1, r2, r3)) :
  Calls Try.prog 47 #[.slice A s0_1.length c, .int .i64 a1] w fun e w' => e = .returned (.int .i64 r1) ∧ IsS33 w0 w' g s0_0 s0_1 s0_2 r2 r3 ∧ Below w0.heap.size w0 w' ∧ KeepBut w w' g none := by
 obtain ⟨t, ht, hq⟩ := Option.bind_eq_some_iff.mp h
 obtain ⟨rfl, rfl, rfl⟩ : t = r1 ∧ s0_3 = r2 ∧ s0_4 = r3 := by simpa using hq
 refine (slices_Index_int_int.calls k A c s0_1 a1 t w (Kd.C_below hr hB) hc ht).mono ?_
 rintro e w' ⟨rfl, ⟨n, rfl⟩⟩
 exact ⟨rfl, hI.drewN n, pw_below_drewN hB n, keep_drewN (KeepBut.refl w g none) n⟩
theorem impl_PageOk.tr (k : Nat) (g : Nat) (s0_0 : List (S38)) (s0_1 : List Int) (s0_2 : List Int) (s0_3 : Int) (s0_4 : Int) (r1 : Bool) (r2 r3 : Int) (w0 w : World) (A : Option Addr) (c : Nat) (hI : IsS33 w0 w g s0_0 s0_1 s0_2 s0_3 s0_4) (hB : Below w0.heap.size w0 w) (hr : Kd.C k38 w0 A s0_0.length s0_0) (hc : s0_0.length ≤ c) (h : impl_PageOk.trf k s0_0 s0_1 s0_2 s0_3 s0_4 = some (r1, r2, r3)) :
  Calls Try.prog 50 #[.slice A s0_0.length c] w fun e w' => e = .returned (.bool r1) ∧ IsS33 w0 w' g s0_0 s0_1 s0_2 r2 r3 ∧ Below w0.heap.size w0 w' ∧ KeepBut w w' g none := by
 obtain ⟨t, ht, hq⟩ := Option.bind_eq_some_iff.mp h
 obtain ⟨rfl, rfl, rfl⟩ : t = r1 ∧ s0_3 = r2 ∧ s0_4 = r3 := by simpa using hq
 refine (impl_TreeOk.calls k A c s0_0 t w (Kd.C_below hr hB) hc ht).mono ?_
 rintro e w' ⟨rfl, hb⟩
 exact ⟨rfl, hI.below hb, below_step hB hb, KeepBut.of_below hb g none⟩
theorem impl_Page_isTag.stays {s0_0 : List (S38)} {s0_1 s0_2 : List Int} {s0_3 s0_4 a1 : Int} {r1 : Bool} {r2 r3 : Int} (h : impl_Page_isTag.f s0_0 s0_1 s0_2 s0_3 s0_4 a1 = some (r1, r2, r3)) : s0_3 = r2 ∧ s0_4 = r3 := by
 unfold impl_Page_isTag.f at h
 obtain ⟨t, _, h⟩ := Option.bind_eq_some_iff.mp h
 repeat' split at h
 all_goals simp only [Option.some.injEq, Prod.mk.injEq, reduceCtorEq] at h
 all_goals exact ⟨h.2.1, h.2.2⟩
theorem impl_Page_isFormat.stays {s0_0 : List (S38)} {s0_1 s0_2 : List Int} {s0_3 s0_4 a1 : Int} {r1 : Bool} {r2 r3 : Int} (h : impl_Page_isFormat.f s0_0 s0_1 s0_2 s0_3 s0_4 a1 = some (r1, r2, r3)) : s0_3 = r2 ∧ s0_4 = r3 := by
 unfold impl_Page_isFormat.f at h
 obtain ⟨⟨t1, t2, t3⟩, ht, h⟩ := Option.bind_eq_some_iff.mp h
 obtain ⟨rfl, rfl⟩ := impl_Page_isTag.stays ht
 repeat' split at h
 ·obtain ⟨t, _, h⟩ := Option.bind_eq_some_iff.mp h
  simp only [Option.some.injEq, Prod.mk.injEq] at h
  exact ⟨h.2.1, h.2.2⟩
 all_goals simp only [Option.some.injEq, Prod.mk.injEq, reduceCtorEq] at h
 all_goals exact ⟨h.2.1, h.2.2⟩
mutual
def impl_PageOk.l0 : Nat → List Int → Int → Int → List (S38) → List Int → List Int → Int → Int → Option (Bool × Int × Int)
 | 0, _, _, _, _, _, _, _, _ => none
 | k + 1, x8, x9, x10, x1000, x1001, x1002, x1003, x1004 => if x10 < x9 then (if 0 ≤ x10 then (if x10 < (x8.length : Int) then ((impl_Page_isTag.f x1000 x1001 x1002 x1003 x1004 (rd x8 x10)).bind fun bt342 => (if bt342.1 = true then ((impl_PageOk.ixf k x1000 x1001 x1002 bt342.2.1 bt342.2.2 (rd x8 x10)).bind fun bt345 => (if bt345.1 = x10 then (impl_PageOk.l0 k x8 x9 (wrap64 (x10 + 1)) x1000 x1001 x1002 bt345.2.1 bt345.2.2) else (some (false, bt345.2.1, bt345.2.2)))) else (some (false, bt342.2.1, bt342.2.2)))) else (none)) else (none)) else (impl_PageOk.l1 k x1002 (x1002.length : Int) 0 x1000 x1001 x1002 x1003 x1004)
def impl_PageOk.l1 : Nat → List Int → Int → Int → List (S38) → List Int → List Int → Int → Int → Option (Bool × Int × Int)
 | 0, _, _, _, _, _, _, _, _ => none
 | k + 1, x28, x29, x30, x1000, x1001, x1002, x1003, x1004 => if x30 < x29 then (if 0 ≤ x30 then (if x30 < (x28.length : Int) then (if (rd x28 x30) = (-1) then (impl_PageOk.l1 k x28 x29 (wrap64 (x30 + 1)) x1000 x1001 x1002 x1003 x1004) else ((impl_Page_isFormat.f x1000 x1001 x1002 x1003 x1004 (rd x28 x30)).bind fun bt349 => (if bt349.1 = true then (impl_PageOk.l1 k x28 x29 (wrap64 (x30 + 1)) x1000 x1001 x1002 bt349.2.1 bt349.2.2) else (some (false, bt349.2.1, bt349.2.2))))) else (none)) else (none)) else (if (x1001.length : Int) ≤ 40 then (if (x1002.length : Int) ≤ 120 then ((impl_Page_isNamed.f x1000 x1001 x1002 x1003 x1004 x1003 (⟨#[104, 101, 97, 100]⟩ : ByteArray)).bind fun bt352 => (if bt352.1 = true then ((impl_Page_isNamed.f x1000 x1001 x1002 bt352.2.1 bt352.2.2 bt352.2.2 (⟨#[98, 111, 100, 121]⟩ : ByteArray)).bind fun bt355 => (if bt355.1 = true then ((impl_PageOk.trf k x1000 x1001 x1002 bt355.2.1 bt355.2.2).bind fun bt358 => (some (bt358.1, bt358.2.1, bt358.2.2))) else (some (false, bt355.2.1, bt355.2.2)))) else (some (false, bt352.2.1, bt352.2.2)))) else (some (false, x1003, x1004))) else (some (false, x1003, x1004)))
end
def impl_PageOk.gf (k : Nat) (s0_0 : List (S38)) (s0_1 : List Int) (s0_2 : List Int) (s0_3 : Int) (s0_4 : Int) : Option (Bool × Int × Int) := impl_PageOk.l0 k s0_1 (s0_1.length : Int) 0 s0_0 s0_1 s0_2 s0_3 s0_4
theorem impl_PageOk.gcalls (k : Nat) (A0_0 : Option Addr) (c0_0 : Nat) (s0_0 : List (S38)) (A0_1 : Option Addr) (c0_1 : Nat) (s0_1 : List Int) (A0_2 : Option Addr) (c0_2 : Nat) (s0_2 : List Int) (s0_3 : Int) (s0_4 : Int) (r1 : Bool) (r2 : Int) (r3 : Int) (w0 : World) (hr0_0 : Kd.C k38 w0 A0_0 s0_0.length s0_0) (hc0_0 : s0_0.length ≤ c0_0) (hr0_1 : Kd.C (Kd.int .i64) w0 A0_1 s0_1.length s0_1) (hc0_1 : s0_1.length ≤ c0_1) (hr0_2 : Kd.C (Kd.int .i64) w0 A0_2 s0_2.length s0_2) (hc0_2 : s0_2.length ≤ c0_2) (M_ : Int) (hm_ : w0.cell? ⟨0, 0, none⟩ = some (.int .i64 M_)) (h : impl_PageOk.gf k s0_0 s0_1 s0_2 s0_3 s0_4 = some (r1, r2, r3)) :
  Calls Try.prog 26 #[.agg #[.slice A0_0 s0_0.length c0_0, .slice A0_1 s0_1.length c0_1, .slice A0_2 s0_2.length c0_2, .int .i64 s0_3, .int .i64 s0_4]] w0 fun e w' => e = .returned (.bool r1) ∧ Below w0.heap.size w0 w' := by
 have HR := am (And.intro hr0_0 (And.intro hc0_0 (And.intro hr0_1 (And.intro hc0_1 (And.intro hr0_2 hc0_2)))))
 have HM := am hm_
 clear hr0_0 hc0_0 hr0_1 hc0_1 hr0_2 hc0_2 hm_
 have H : (impl_PageOk.l0 k s0_1 (s0_1.length : Int) 0 s0_0 s0_1 s0_2 s0_3 s0_4) = some (r1, r2, r3) := h
 clear h
 have H' := am H
 clear H
 go_enter Try.func26, Try.ntmps26
 go_wp2_with (first | ((with_reducible refine gd_ 1 ?_); refine bx_ 1 (cs := #[.slice A0_0 s0_0.length c0_0, .slice A0_1 s0_1.length c0_1, .slice A0_2 s0_2.length c0_2, .int .i64 s0_3, .int .i64 s0_4]) 33 ?_; intro g hg w hbox hb; have HI0 := am (pl_box hg hbox hb HR.out.1 HR.out.2.1 HR.out.2.2.1 HR.out.2.2.2.1 HR.out.2.2.2.2.1 HR.out.2.2.2.2.2); have HB := am hb; have HK := am (KeepBut.refl w g none); have HM_ := am HM.out; have HL := am hb.size; have HW0 := am hb.size; obtain ⟨⟨_, _, _, _, _⟩, _, _, _, _, _⟩ := Op.cells5 hbox; clear hb hbox hg; skip))
 go_loopg [10] k (fun kq v10 w' => ∃ (x10_1 : Int) (x1003_1 : Int) (x1004_1 : Int), v10 = .int .i64 x10_1 ∧ Aside0 (impl_PageOk.l0 kq s0_1 (s0_1.length : Int) x10_1 s0_0 s0_1 s0_2 x1003_1 x1004_1 = some (r1, r2, r3)) ∧ Aside0 (kq ≤ k) ∧ Aside0 (IsS33 w0 w' g s0_0 s0_1 s0_2 x1003_1 x1004_1) ∧ Aside0 (KeepBut w w' g none) ∧ Aside0 (Below w0.heap.size w0 w'))
 case atStart => exact ⟨(0), (s0_3), (s0_4), ab6, H', ⟨Nat.le_refl _⟩, ⟨z22_0 HI0⟩, ⟨z22_1⟩, ⟨ab1⟩⟩
 case round =>
  clear H'
  (try clear p2); (try clear hcz2_0); (try clear hcz2_1); (try clear hcz2_2); (try clear hcz2_3); (try clear hcz2_4); (try clear hfz2_3); (try clear hfz2_4)
  obtain ⟨x10_1, x1003_1, x1004_1, rfl, HA, HK1, HI0, HK, HB⟩ := hrel
  cases gk with
  | zero => exact absurd HA.out (by simp [impl_PageOk.l0])
  | succ k1 =>
   have H := HA.out
   clear HA
   simp only [impl_PageOk.l0] at H
   replace H := ir_ H; rcases H with ⟨c3b0, H⟩ | ⟨c3b0, H⟩
   ·replace H := iq_ H; obtain ⟨c4b0, H⟩ := H
    replace H := iq_ H; obtain ⟨c5b0, H⟩ := H
    replace H := Option.bind_eq_some_iff.mp H
    obtain ⟨⟨t342, t343, t344⟩, A60, H⟩ := H
    try dsimp only at H
    have A6 := am A60
    clear A60
    replace H := ib_ H; rcases H with ⟨rfl, H⟩ | ⟨rfl, H⟩
    ·replace H := Option.bind_eq_some_iff.mp H
     obtain ⟨⟨t345, t346, t347⟩, A80, H⟩ := H
     try dsimp only at H
     have A8 := am A80
     clear A80
     replace H := ie_ H; rcases H with ⟨c9b0, c9b1, H⟩ | ⟨c9, c9b0, c9b1, H⟩
     ·have H' := am H
      clear H
      obtain ⟨ASz10_0, cSz10_0, ASz10_1, cSz10_1, ASz10_2, cSz10_2, HGz10, hgz10, HSz10_0, HSz10_1, HSz10_2⟩ := HI0.out
      obtain ⟨⟨_, _, _, _, _⟩, _, _, _, _, _⟩ := Op.cells5 HGz10
      clear HGz10 hgz10
      have p341 : 0 ≤ (x10_1 : Int) := of_decide_eq_true ab4
      have q341 : x10_1 < (s0_1.length : Int) := of_decide_eq_true ab4
      obtain ⟨ad341, e341, hx341_0⟩ := Kd.at_int HR.out.2.2.1 x10_1 p341 q341
      cases e341
      replace hx341_0 := pc_ HB hx341_0
      replace p341 := eq_true p341
      replace q341 := eq_true q341
      go_wp2_with (first | ((with_reducible refine gf_ 46 ?_); refine gc_ Try.func46 (impl_Page_isTag.calls g s0_0 s0_1 s0_2 x1003_1 x1004_1 (rd s0_1 x10_1) true t343 t344 w0 _ ?side1 ?side2 A6.out) ?_; (case side1 => exact (z22_0 HI0)); (case side2 => exact (z22_2)); rintro w11 ⟨hi, hb, hk⟩; replace HK := am (KeepBut.trans (z22_1) hk (.inl rfl)); replace HB := am hb; replace HI0 := am hi; (try clear hb); (try clear hb2); (try clear hk); (try clear hi); obtain ⟨ASz12_0, cSz12_0, ASz12_1, cSz12_1, ASz12_2, cSz12_2, HGz12, hgz12, HSz12_0, HSz12_1, HSz12_2⟩ := HI0.out; obtain ⟨⟨_, _, _, _, _⟩, _, _, _, _, _⟩ := Op.cells5 HGz12; clear HGz12) | (go_at_call 47; (with_reducible refine (impl_PageOk.ix k1 g s0_0 s0_1 s0_2 t343 t344 (rd s0_1 x10_1) t345 t346 t347 w0 _ ASz12_1 cSz12_1 ?side1 ?side2 HSz12_1 hgz12.2.2.1 A8.out).mono ?_); (case side1 => exact (z22_0 HI0)); (case side2 => exact (z22_2)); rintro e w13 ⟨rfl, hi, hb, hk⟩; replace HK := am (KeepBut.trans (z22_1) hk (.inl rfl)); replace HB := am hb; replace HI0 := am hi; (try clear hb); (try clear hb2); (try clear hk); (try clear hi)))
      go_roundg k1
      case measure => have := HK1.out; omega
      case rel => exact ⟨(wrap64 (x10_1 + 1)), (t346), (t347), ab6, H', ⟨by have := HK1.out; omega⟩, ⟨z22_0 HI0⟩, ⟨z22_1⟩, ⟨ab1⟩⟩
     ·simp only [Option.some.injEq, Prod.mk.injEq] at H
      obtain ⟨rfl, rfl, rfl⟩ := H
      obtain ⟨ASz14_0, cSz14_0, ASz14_1, cSz14_1, ASz14_2, cSz14_2, HGz14, hgz14, HSz14_0, HSz14_1, HSz14_2⟩ := HI0.out
      obtain ⟨⟨_, _, _, _, _⟩, _, _, _, _, _⟩ := Op.cells5 HGz14
      clear HGz14 hgz14
      have p341 : 0 ≤ (x10_1 : Int) := of_decide_eq_true ab4
      have q341 : x10_1 < (s0_1.length : Int) := of_decide_eq_true ab4
      obtain ⟨ad341, e341, hx341_0⟩ := Kd.at_int HR.out.2.2.1 x10_1 p341 q341
      cases e341
      replace hx341_0 := pc_ HB hx341_0
      replace p341 := eq_true p341
      replace q341 := eq_true q341
      go_wp2_with (first | ((with_reducible refine gf_ 46 ?_); refine gc_ Try.func46 (impl_Page_isTag.calls g s0_0 s0_1 s0_2 x1003_1 x1004_1 (rd s0_1 x10_1) true t343 t344 w0 _ ?side1 ?side2 A6.out) ?_; (case side1 => exact (z22_0 HI0)); (case side2 => exact (z22_2)); rintro w15 ⟨hi, hb, hk⟩; replace HK := am (KeepBut.trans (z22_1) hk (.inl rfl)); replace HB := am hb; replace HI0 := am hi; (try clear hb); (try clear hb2); (try clear hk); (try clear hi); obtain ⟨ASz16_0, cSz16_0, ASz16_1, cSz16_1, ASz16_2, cSz16_2, HGz16, hgz16, HSz16_0, HSz16_1, HSz16_2⟩ := HI0.out; obtain ⟨⟨_, _, _, _, _⟩, _, _, _, _, _⟩ := Op.cells5 HGz16; clear HGz16) | (go_at_call 47; (with_reducible refine (impl_PageOk.ix k1 g s0_0 s0_1 s0_2 t343 t344 (rd s0_1 x10_1) t345 t346 t347 w0 _ ASz16_1 cSz16_1 ?side1 ?side2 HSz16_1 hgz16.2.2.1 A8.out).mono ?_); (case side1 => exact (z22_0 HI0)); (case side2 => exact (z22_2)); rintro e w17 ⟨rfl, hi, hb, hk⟩; replace HK := am (KeepBut.trans (z22_1) hk (.inl rfl)); replace HB := am hb; replace HI0 := am hi; (try clear hb); (try clear hb2); (try clear hk); (try clear hi)))
      go_ret
      exact ⟨ab7, ab1⟩
    ·simp only [Option.some.injEq, Prod.mk.injEq] at H
     obtain ⟨rfl, rfl, rfl⟩ := H
     obtain ⟨ASz18_0, cSz18_0, ASz18_1, cSz18_1, ASz18_2, cSz18_2, HGz18, hgz18, HSz18_0, HSz18_1, HSz18_2⟩ := HI0.out
     obtain ⟨⟨_, _, _, _, _⟩, _, _, _, _, _⟩ := Op.cells5 HGz18
     clear HGz18 hgz18
     have p341 : 0 ≤ (x10_1 : Int) := of_decide_eq_true ab4
     have q341 : x10_1 < (s0_1.length : Int) := of_decide_eq_true ab4
     obtain ⟨ad341, e341, hx341_0⟩ := Kd.at_int HR.out.2.2.1 x10_1 p341 q341
     cases e341
     replace hx341_0 := pc_ HB hx341_0
     replace p341 := eq_true p341
     replace q341 := eq_true q341
     go_wp2_with (first | ((with_reducible refine gf_ 46 ?_); refine gc_ Try.func46 (impl_Page_isTag.calls g s0_0 s0_1 s0_2 x1003_1 x1004_1 (rd s0_1 x10_1) false t343 t344 w0 _ ?side1 ?side2 A6.out) ?_; (case side1 => exact (z22_0 HI0)); (case side2 => exact (z22_2)); rintro w19 ⟨hi, hb, hk⟩; replace HK := am (KeepBut.trans (z22_1) hk (.inl rfl)); replace HB := am hb; replace HI0 := am hi; (try clear hb); (try clear hb2); (try clear hk); (try clear hi)))
     go_ret
     exact ⟨ab7, ab1⟩
   ·have H' := am H
    clear H
    obtain ⟨ASz20_0, cSz20_0, ASz20_1, cSz20_1, ASz20_2, cSz20_2, HGz20, hgz20, HSz20_0, HSz20_1, HSz20_2⟩ := HI0.out
    obtain ⟨⟨_, _, _, _, _⟩, _, _, _, _, _⟩ := Op.cells5 HGz20
    clear HGz20 hgz20
    go_wp2
    go_loopg [30] k1 (fun kq v30 w' => ∃ (x30_2 : Int), v30 = .int .i64 x30_2 ∧ Aside0 (impl_PageOk.l1 kq s0_2 (s0_2.length : Int) x30_2 s0_0 s0_1 s0_2 x1003_1 x1004_1 = some (r1, r2, r3)) ∧ Aside0 (kq ≤ k1) ∧ Aside0 (IsS33 w0 w' g s0_0 s0_1 s0_2 x1003_1 x1004_1) ∧ Aside0 (KeepBut w w' g none) ∧ Aside0 (Below w0.heap.size w0 w'))
    case atStart => exact ⟨(0), ab6, H', ⟨Nat.le_refl _⟩, ⟨z22_0 HI0⟩, ⟨z22_1⟩, ⟨ab1⟩⟩
    case round =>
     clear H'
     (try clear p2); (try clear c3); (try clear c3b0); (try clear p3); (try clear q3); (try clear hx3); (try clear c4); (try clear c4b0); (try clear c5); (try clear c5b0); (try clear p6); (try clear c7); (try clear c9); (try clear c9b0); (try clear c9b1); (try clear hcz10_0); (try clear hcz10_1); (try clear hcz10_2); (try clear hcz10_3); (try clear hcz10_4); (try clear hcz12_0); (try clear hcz12_1); (try clear hcz12_2); (try clear hcz12_3); (try clear hcz12_4); (try clear hcz14_0); (try clear hcz14_1); (try clear hcz14_2); (try clear hcz14_3); (try clear hcz14_4); (try clear hcz16_0); (try clear hcz16_1); (try clear hcz16_2); (try clear hcz16_3); (try clear hcz16_4); (try clear hcz18_0); (try clear hcz18_1); (try clear hcz18_2); (try clear hcz18_3); (try clear hcz18_4); (try clear hcz20_0); (try clear hcz20_1); (try clear hcz20_2); (try clear hcz20_3); (try clear hcz20_4); (try clear hcz2_0); (try clear hcz2_1); (try clear hcz2_2); (try clear hcz2_3); (try clear hcz2_4); (try clear hfz10_3); (try clear hfz10_4); (try clear hfz12_3); (try clear hfz12_4); (try clear hfz14_3); (try clear hfz14_4); (try clear hfz16_3); (try clear hfz16_4); (try clear hfz18_3); (try clear hfz18_4); (try clear hfz20_3); (try clear hfz20_4); (try clear hfz2_3); (try clear hfz2_4); (try clear hx341_0); (try clear p2); (try clear p341); (try clear q341)
     obtain ⟨x30_2, rfl, HA, HK2, HI0, HK, HB⟩ := hrel
     cases gk with
     | zero => exact absurd HA.out (by simp [impl_PageOk.l1])
     | succ k2 =>
      have H := HA.out
      clear HA
      simp only [impl_PageOk.l1] at H
      replace H := ir_ H; rcases H with ⟨c21b0, H⟩ | ⟨c21b0, H⟩
      ·replace H := iq_ H; obtain ⟨c22b0, H⟩ := H
       replace H := iq_ H; obtain ⟨c23b0, H⟩ := H
       replace H := ie_ H; rcases H with ⟨c24b0, c24b1, H⟩ | ⟨c24, c24b0, c24b1, H⟩
       ·have H' := am H
        clear H
        obtain ⟨ASz25_0, cSz25_0, ASz25_1, cSz25_1, ASz25_2, cSz25_2, HGz25, hgz25, HSz25_0, HSz25_1, HSz25_2⟩ := HI0.out
        obtain ⟨⟨_, _, _, _, _⟩, _, _, _, _, _⟩ := Op.cells5 HGz25
        clear HGz25 hgz25
        have p348 : 0 ≤ (x30_2 : Int) := of_decide_eq_true ab4
        have q348 : x30_2 < (s0_2.length : Int) := of_decide_eq_true ab4
        obtain ⟨ad348, e348, hx348_0⟩ := Kd.at_int HSz20_2 x30_2 p348 q348
        cases e348
        replace hx348_0 := pc_ HB hx348_0
        replace p348 := eq_true p348
        replace q348 := eq_true q348
        go_wp2
        go_roundg k2
        case measure => have := HK1.out; have := HK2.out; omega
        case rel => exact ⟨(wrap64 (x30_2 + 1)), ab6, H', ⟨by have := HK1.out; have := HK2.out; omega⟩, ⟨z22_0 HI0⟩, ⟨z22_1⟩, ⟨ab1⟩⟩
       ·replace H := Option.bind_eq_some_iff.mp H
        obtain ⟨⟨t349, t350, t351⟩, A260, H⟩ := H
        obtain ⟨rfl, rfl⟩ := impl_Page_isFormat.stays A260
        try dsimp only at H
        have A26 := am A260
        clear A260
        replace H := ib_ H; rcases H with ⟨rfl, H⟩ | ⟨rfl, H⟩
        ·have H' := am H
         clear H
         obtain ⟨ASz28_0, cSz28_0, ASz28_1, cSz28_1, ASz28_2, cSz28_2, HGz28, hgz28, HSz28_0, HSz28_1, HSz28_2⟩ := HI0.out
         obtain ⟨⟨_, _, _, _, _⟩, _, _, _, _, _⟩ := Op.cells5 HGz28
         clear HGz28 hgz28
         have p348 : 0 ≤ (x30_2 : Int) := of_decide_eq_true ab4
         have q348 : x30_2 < (s0_2.length : Int) := of_decide_eq_true ab4
         obtain ⟨ad348, e348, hx348_0⟩ := Kd.at_int HSz20_2 x30_2 p348 q348
         cases e348
         replace hx348_0 := pc_ HB hx348_0
         replace p348 := eq_true p348
         replace q348 := eq_true q348
         go_wp2_with (first | (go_at_call 48; (with_reducible refine (impl_Page_isFormat.calls g s0_0 s0_1 s0_2 x1003_1 x1004_1 (rd s0_2 x30_2) true x1003_1 x1004_1 w0 _ ?side1 ?side2 M_ HM_.out A26.out).mono ?_); (case side1 => exact (z22_0 HI0)); (case side2 => exact (z22_2)); rintro e w29 ⟨rfl, hi, hb, hk⟩; replace HK := am (KeepBut.trans (z22_1) hk (.inl rfl)); replace HB := am hb; replace HI0 := am hi; (try clear hb); (try clear hb2); (try clear hk); (try clear hi)))
         go_roundg k2
         case measure => have := HK1.out; have := HK2.out; omega
         case rel => exact ⟨(wrap64 (x30_2 + 1)), ab6, H', ⟨by have := HK1.out; have := HK2.out; omega⟩, ⟨z22_0 HI0⟩, ⟨z22_1⟩, ⟨ab1⟩⟩
        ·simp only [Option.some.injEq, Prod.mk.injEq] at H
         obtain ⟨rfl, rfl, rfl⟩ := H
         obtain ⟨ASz30_0, cSz30_0, ASz30_1, cSz30_1, ASz30_2, cSz30_2, HGz30, hgz30, HSz30_0, HSz30_1, HSz30_2⟩ := HI0.out
         obtain ⟨⟨_, _, _, _, _⟩, _, _, _, _, _⟩ := Op.cells5 HGz30
         clear HGz30 hgz30
         have p348 : 0 ≤ (x30_2 : Int) := of_decide_eq_true ab4
         have q348 : x30_2 < (s0_2.length : Int) := of_decide_eq_true ab4
         obtain ⟨ad348, e348, hx348_0⟩ := Kd.at_int HSz20_2 x30_2 p348 q348
         cases e348
         replace hx348_0 := pc_ HB hx348_0
         replace p348 := eq_true p348
         replace q348 := eq_true q348
         go_wp2_with (first | (go_at_call 48; (with_reducible refine (impl_Page_isFormat.calls g s0_0 s0_1 s0_2 x1003_1 x1004_1 (rd s0_2 x30_2) false x1003_1 x1004_1 w0 _ ?side1 ?side2 M_ HM_.out A26.out).mono ?_); (case side1 => exact (z22_0 HI0)); (case side2 => exact (z22_2)); rintro e w31 ⟨rfl, hi, hb, hk⟩; replace HK := am (KeepBut.trans (z22_1) hk (.inl rfl)); replace HB := am hb; replace HI0 := am hi; (try clear hb); (try clear hb2); (try clear hk); (try clear hi)))
         go_ret
         exact ⟨ab7, ab1⟩
      ·by_cases c32 : (s0_1.length : Int) ≤ 40
       ·rw [if_pos c32] at H
        have c32b0 := decide_eq_true c32
        have c32b1 : decide (s0_1.length ≤ 40) = true := decide_eq_true (by omega)
        clear c32
        by_cases c33 : (s0_2.length : Int) ≤ 120
        ·rw [if_pos c33] at H
         have c33b0 := decide_eq_true c33
         have c33b1 : decide (s0_2.length ≤ 120) = true := decide_eq_true (by omega)
         clear c33
         replace H := Option.bind_eq_some_iff.mp H
         obtain ⟨⟨t352, t353, t354⟩, A340, H⟩ := H
         try dsimp only at H
         have A34 := am A340
         clear A340
         replace H := ib_ H; rcases H with ⟨rfl, H⟩ | ⟨rfl, H⟩
         ·replace H := Option.bind_eq_some_iff.mp H
          obtain ⟨⟨t355, t356, t357⟩, A360, H⟩ := H
          try dsimp only at H
          have A36 := am A360
          clear A360
          replace H := ib_ H; rcases H with ⟨rfl, H⟩ | ⟨rfl, H⟩
          ·replace H := Option.bind_eq_some_iff.mp H
           obtain ⟨⟨t358, t359, t360⟩, A380, H⟩ := H
           try dsimp only at H
           have A38 := am A380
           clear A380
           simp only [Option.some.injEq, Prod.mk.injEq] at H
           obtain ⟨rfl, rfl, rfl⟩ := H
           obtain ⟨ASz39_0, cSz39_0, ASz39_1, cSz39_1, ASz39_2, cSz39_2, HGz39, hgz39, HSz39_0, HSz39_1, HSz39_2⟩ := HI0.out
           obtain ⟨⟨_, _, _, _, _⟩, _, _, _, _, _⟩ := Op.cells5 HGz39
           clear HGz39 hgz39
           go_wp2_with (first | (go_at_call 49; (with_reducible refine (impl_Page_isNamed.calls g s0_0 s0_1 s0_2 x1003_1 x1004_1 x1003_1 (⟨#[104, 101, 97, 100]⟩ : ByteArray) true t353 t354 w0 _ ?side1 ?side2 A34.out).mono ?_); (case side1 => exact (z22_0 HI0)); (case side2 => exact (z22_2)); rintro e w40 ⟨rfl, hi, hb, hk⟩; replace HK := am (KeepBut.trans (z22_1) hk (.inl rfl)); replace HB := am hb; replace HI0 := am hi; (try clear hb); (try clear hb2); (try clear hk); (try clear hi); obtain ⟨ASz41_0, cSz41_0, ASz41_1, cSz41_1, ASz41_2, cSz41_2, HGz41, hgz41, HSz41_0, HSz41_1, HSz41_2⟩ := HI0.out; obtain ⟨⟨_, _, _, _, _⟩, _, _, _, _, _⟩ := Op.cells5 HGz41; clear HGz41 hgz41) | (go_at_call 49; (with_reducible refine (impl_Page_isNamed.calls g s0_0 s0_1 s0_2 t353 t354 t354 (⟨#[98, 111, 100, 121]⟩ : ByteArray) true t356 t357 w0 _ ?side1 ?side2 A36.out).mono ?_); (case side1 => exact (z22_0 HI0)); (case side2 => exact (z22_2)); rintro e w42 ⟨rfl, hi, hb, hk⟩; replace HK := am (KeepBut.trans (z22_1) hk (.inl rfl)); replace HB := am hb; replace HI0 := am hi; (try clear hb); (try clear hb2); (try clear hk); (try clear hi); obtain ⟨ASz43_0, cSz43_0, ASz43_1, cSz43_1, ASz43_2, cSz43_2, HGz43, hgz43, HSz43_0, HSz43_1, HSz43_2⟩ := HI0.out; obtain ⟨⟨_, _, _, _, _⟩, _, _, _, _, _⟩ := Op.cells5 HGz43; clear HGz43) | (go_at_call 50; (with_reducible refine (impl_PageOk.tr k2 g s0_0 s0_1 s0_2 t356 t357 t358 t359 t360 w0 _ ASz43_0 cSz43_0 ?side1 ?side2 HSz43_0 hgz43.2.1 A38.out).mono ?_); (case side1 => exact (z22_0 HI0)); (case side2 => exact (z22_2)); rintro e w44 ⟨rfl, hi, hb, hk⟩; replace HK := am (KeepBut.trans (z22_1) hk (.inl rfl)); replace HB := am hb; replace HI0 := am hi; (try clear hb); (try clear hb2); (try clear hk); (try clear hi)))
           go_ret
           exact ⟨ab7, ab1⟩
          ·simp only [Option.some.injEq, Prod.mk.injEq] at H
           obtain ⟨rfl, rfl, rfl⟩ := H
           obtain ⟨ASz45_0, cSz45_0, ASz45_1, cSz45_1, ASz45_2, cSz45_2, HGz45, hgz45, HSz45_0, HSz45_1, HSz45_2⟩ := HI0.out
           obtain ⟨⟨_, _, _, _, _⟩, _, _, _, _, _⟩ := Op.cells5 HGz45
           clear HGz45 hgz45
           go_wp2_with (first | (go_at_call 49; (with_reducible refine (impl_Page_isNamed.calls g s0_0 s0_1 s0_2 x1003_1 x1004_1 x1003_1 (⟨#[104, 101, 97, 100]⟩ : ByteArray) true t353 t354 w0 _ ?side1 ?side2 A34.out).mono ?_); (case side1 => exact (z22_0 HI0)); (case side2 => exact (z22_2)); rintro e w46 ⟨rfl, hi, hb, hk⟩; replace HK := am (KeepBut.trans (z22_1) hk (.inl rfl)); replace HB := am hb; replace HI0 := am hi; (try clear hb); (try clear hb2); (try clear hk); (try clear hi); obtain ⟨ASz47_0, cSz47_0, ASz47_1, cSz47_1, ASz47_2, cSz47_2, HGz47, hgz47, HSz47_0, HSz47_1, HSz47_2⟩ := HI0.out; obtain ⟨⟨_, _, _, _, _⟩, _, _, _, _, _⟩ := Op.cells5 HGz47; clear HGz47 hgz47) | (go_at_call 49; (with_reducible refine (impl_Page_isNamed.calls g s0_0 s0_1 s0_2 t353 t354 t354 (⟨#[98, 111, 100, 121]⟩ : ByteArray) false t356 t357 w0 _ ?side1 ?side2 A36.out).mono ?_); (case side1 => exact (z22_0 HI0)); (case side2 => exact (z22_2)); rintro e w48 ⟨rfl, hi, hb, hk⟩; replace HK := am (KeepBut.trans (z22_1) hk (.inl rfl)); replace HB := am hb; replace HI0 := am hi; (try clear hb); (try clear hb2); (try clear hk); (try clear hi)))
           go_ret
           exact ⟨ab7, ab1⟩
         ·simp only [Option.some.injEq, Prod.mk.injEq] at H
          obtain ⟨rfl, rfl, rfl⟩ := H
          obtain ⟨ASz49_0, cSz49_0, ASz49_1, cSz49_1, ASz49_2, cSz49_2, HGz49, hgz49, HSz49_0, HSz49_1, HSz49_2⟩ := HI0.out
          obtain ⟨⟨_, _, _, _, _⟩, _, _, _, _, _⟩ := Op.cells5 HGz49
          clear HGz49 hgz49
          go_wp2_with (first | (go_at_call 49; (with_reducible refine (impl_Page_isNamed.calls g s0_0 s0_1 s0_2 x1003_1 x1004_1 x1003_1 (⟨#[104, 101, 97, 100]⟩ : ByteArray) false t353 t354 w0 _ ?side1 ?side2 A34.out).mono ?_); (case side1 => exact (z22_0 HI0)); (case side2 => exact (z22_2)); rintro e w50 ⟨rfl, hi, hb, hk⟩; replace HK := am (KeepBut.trans (z22_1) hk (.inl rfl)); replace HB := am hb; replace HI0 := am hi; (try clear hb); (try clear hb2); (try clear hk); (try clear hi)))
          go_ret
          exact ⟨ab7, ab1⟩
        ·rw [if_neg c33] at H
         have c33b0 := decide_eq_false c33
         have c33b1 : decide (s0_2.length ≤ 120) = false := decide_eq_false (by omega)
         clear c33
         simp only [Option.some.injEq, Prod.mk.injEq] at H
         obtain ⟨rfl, rfl, rfl⟩ := H
         obtain ⟨ASz51_0, cSz51_0, ASz51_1, cSz51_1, ASz51_2, cSz51_2, HGz51, hgz51, HSz51_0, HSz51_1, HSz51_2⟩ := HI0.out
         obtain ⟨⟨_, _, _, _, _⟩, _, _, _, _, _⟩ := Op.cells5 HGz51
         clear HGz51 hgz51
         go_wp2
         go_ret
         exact ⟨ab7, ab1⟩
       ·rw [if_neg c32] at H
        have c32b0 := decide_eq_false c32
        have c32b1 : decide (s0_1.length ≤ 40) = false := decide_eq_false (by omega)
        clear c32
        simp only [Option.some.injEq, Prod.mk.injEq] at H
        obtain ⟨rfl, rfl, rfl⟩ := H
        obtain ⟨ASz52_0, cSz52_0, ASz52_1, cSz52_1, ASz52_2, cSz52_2, HGz52, hgz52, HSz52_0, HSz52_1, HSz52_2⟩ := HI0.out
        obtain ⟨⟨_, _, _, _, _⟩, _, _, _, _, _⟩ := Op.cells5 HGz52
        clear HGz52 hgz52
        go_wp2
        go_ret
        exact ⟨ab7, ab1⟩
def impl_PageOk.f (k : Nat) (s0_0 : List (S38)) (s0_1 : List Int) (s0_2 : List Int) (s0_3 : Int) (s0_4 : Int) : Option Bool := (impl_PageOk.gf k s0_0 s0_1 s0_2 s0_3 s0_4).bind fun t => some t.1
theorem impl_PageOk.calls (k : Nat) (A0_0 : Option Addr) (c0_0 : Nat) (s0_0 : List (S38)) (A0_1 : Option Addr) (c0_1 : Nat) (s0_1 : List Int) (A0_2 : Option Addr) (c0_2 : Nat) (s0_2 : List Int) (s0_3 : Int) (s0_4 : Int) (r : Bool) (w0 : World) (hr0_0 : Kd.C k38 w0 A0_0 s0_0.length s0_0) (hc0_0 : s0_0.length ≤ c0_0) (hr0_1 : Kd.C (Kd.int .i64) w0 A0_1 s0_1.length s0_1) (hc0_1 : s0_1.length ≤ c0_1) (hr0_2 : Kd.C (Kd.int .i64) w0 A0_2 s0_2.length s0_2) (hc0_2 : s0_2.length ≤ c0_2) (M_ : Int) (hm_ : w0.cell? ⟨0, 0, none⟩ = some (.int .i64 M_)) (h : impl_PageOk.f k s0_0 s0_1 s0_2 s0_3 s0_4 = some r) :
  Calls Try.prog 26 #[.agg #[.slice A0_0 s0_0.length c0_0, .slice A0_1 s0_1.length c0_1, .slice A0_2 s0_2.length c0_2, .int .i64 s0_3, .int .i64 s0_4]] w0 fun e w' => e = .returned (.bool r) ∧ Below w0.heap.size w0 w' := by
 obtain ⟨⟨t1, t2, t3⟩, ht, hq⟩ := Option.bind_eq_some_iff.mp h
 obtain rfl : t1 = r := by simpa using hq
 exact impl_PageOk.gcalls k A0_0 c0_0 s0_0 A0_1 c0_1 s0_1 A0_2 c0_2 s0_2 s0_3 s0_4 t1 t2 t3 w0 hr0_0 hc0_0 hr0_1 hc0_1 hr0_2 hc0_2 M_ hm_ ht
def impl_PutIn.f (k : Nat) (s0 : List S38) (s1 s2 : List Int) (h b : Int) (a0 a1 : Int) (a2 : ByteArray) (l3 : List S69) (a4 : ByteArray) (a5 : Int) : Option (List S38 × List Int × List Int × Int × Int) :=
 (impl_copyPage.f s0 s1 s2 h b).bind fun z => (impl_PageOk.f k s0 s1 s2 h b).bind fun t => if t = true then (impl_Page_putIn.f k z.1 z.2.1 z.2.2.1 z.2.2.2.1 z.2.2.2.2 a0 a1 a2 l3 a4 a5).bind fun q => some (q, z.2.1, z.2.2.1, z.2.2.2.1, z.2.2.2.2) else some z
theorem impl_PutIn.calls (k : Nat) (A0 : Option Addr) (c0 : Nat) (s0 : List S38) (A1 : Option Addr) (c1 : Nat) (s1 : List Int) (A2 : Option Addr) (c2 : Nat) (s2 : List Int) (h b : Int) (a0 a1 : Int) (a2 : ByteArray) (A3 : Option Addr) (c3 : Nat) (l3 : List S69) (a4 : ByteArray) (a5 : Int) (A6 : Option Addr) (n6 c6 : Nat) (r1 : List S38) (r2 r3 : List Int) (r4 r5 : Int) (w : World) (hp0 : Kd.C k38 w A0 s0.length s0) (hd0 : s0.length ≤ c0) (hp1 : Kd.C (Kd.int .i64) w A1 s1.length s1) (hd1 : s1.length ≤ c1) (hp2 : Kd.C (Kd.int .i64) w A2 s2.length s2) (hd2 : s2.length ≤ c2) (hr3 : Kd.C k69 w A3 l3.length l3) (hc3 : l3.length ≤ c3) (M_ : Int) (hm_ : w.cell? ⟨0, 0, none⟩ = some (.int .i64 M_)) (H : impl_PutIn.f k s0 s1 s2 h b a0 a1 a2 l3 a4 a5 = some (r1, r2, r3, r4, r5)) :
  Calls Try.prog 9 #[.agg #[.slice A0 s0.length c0, .slice A1 s1.length c1, .slice A2 s2.length c2, .int .i64 h, .int .i64 b], .agg #[.int .i64 a0, .int .i64 a1, .string a2, .slice A3 l3.length c3, .string a4, .int .i64 a5, .slice A6 n6 c6]] w fun e w' => ∃ v0_ v1_ v2_ : Value, e = .returned (.agg #[v0_, v1_, v2_, .int .i64 r4, .int .i64 r5]) ∧ Kd.S k38 38 w' w.heap.size (fun k_ => some k_ ≠ (v1_ : Value).ownBlock ∧ some k_ ≠ (v2_ : Value).ownBlock) v0_ r1 ∧ Kd.R (Kd.int .i64) 3 w' w.heap.size (fun k_ => some k_ ≠ (v2_ : Value).ownBlock) v1_ r2 ∧ Kd.R (Kd.int .i64) 3 w' w.heap.size (fun k_ => some k_ ≠ (v1_ : Value).ownBlock) v2_ r3 ∧ Below w.heap.size w w' := by
 unfold impl_PutIn.f at H
 obtain ⟨⟨z0, z1, z2, z3, z4⟩, hz, H⟩ := Option.bind_eq_some_iff.mp H
 obtain ⟨t, ht, H⟩ := Option.bind_eq_some_iff.mp H
 dsimp only at H
 have hu33 := Try.underlying33
 have Hhp0 := am hp0
 have Hhd0 := am hd0
 have Hhp1 := am hp1
 have Hhd1 := am hd1
 have Hhp2 := am hp2
 have Hhd2 := am hd2
 have Hhr3 := am hr3
 have Hhc3 := am hc3
 have Hhm_ := am hm_
 have HX := am (Below.refl w.heap.size w)
 have AZ := am hz
 have AT := am ht
 clear hz ht hp0 hd0 hp1 hd1 hp2 hd2 hm_ hr3 hc3
 cases t with
 | false =>
  simp only [Bool.false_eq_true, if_false, Option.some.injEq, Prod.mk.injEq] at H
  obtain ⟨rfl, rfl, rfl, rfl, rfl⟩ := H
  go_enter Try.func9, Try.ntmps9
  go_wp2_with (first | ((with_reducible refine gd_ 2 ?_); refine bx_ 2 (cs := #[.slice A0 s0.length c0, .slice A1 s1.length c1, .slice A2 s2.length c2, .int .i64 h, .int .i64 b]) 33 ?_; intro gbp hg wp hbox hb; have GEp := gE HX hg; replace HX := xb HX hb; have BKp := am hbox; clear hb hbox hg) | ((with_reducible refine gd_ 3 ?_); refine bx_ 3 (cs := #[.int .i64 a0, .int .i64 a1, .string a2, .slice A3 l3.length c3, .string a4, .int .i64 a5, .slice A6 n6 c6]) 38 ?_; intro gbi hg wi hbox hb; have GEi := gE HX hg; have NEp_i := nE BKp hg; replace BKp := bb BKp hb; replace HX := xb HX hb; have BKi := am hbox; clear hb hbox hg) | ((with_reducible refine gd_ 4 ?_); refine bx_ 4 (cs := #[.slice none 0 0, .slice none 0 0, .slice none 0 0, .int .i64 0, .int .i64 0]) 33 ?_; intro gbr hg wr hbox hb; have GEr := gE HX hg; have NEp_r := nE BKp hg; have NEi_r := nE BKi hg; replace BKp := bb BKp hb; replace BKi := bb BKi hb; replace HX := xb HX hb; have BKr := am hbox; clear hb hbox hg; obtain ⟨hca_p0, hca_p1, hca_p2, hca_p3, hca_p4⟩ := cl5 BKp) | (go_at_call 25; (refine (impl_copyPage.calls A0 c0 s0 A1 c1 s1 A2 c2 s2 h b z0 z1 z2 z3 z4 _ (Kd.C_below Hhp0.out HX.out) Hhd0.out (Kd.C_below Hhp1.out HX.out) Hhd1.out (Kd.C_below Hhp2.out HX.out) Hhd2.out AZ.out).mono ?_); rintro e wc ⟨v0, v1, v2, rfl, ho0, ho1, ho2, hb⟩; have HO := am ((OwnP.of_copy ho0 ho1 ho2).lower (below_size HX.out)); have LTp := am (blk_lt BKp.out); have LTi := am (blk_lt BKi.out); have LTr := am (blk_lt BKr.out); replace BKp := bb BKp hb; replace BKi := bb BKi hb; replace BKr := bb BKr hb; replace HX := xb HX hb; obtain ⟨Z0, d0, Z1, d1, Z2, d2, rfl, rfl, rfl, _, _, _⟩ := HO.out.slices; clear ho0 ho1 ho2 hb) | ((with_reducible refine gd_ 5 ?_); refine bx_ 5 (cs := #[.slice none 0 0, .slice none 0 0, .slice none 0 0, .int .i64 0, .int .i64 0]) 33 ?_; intro gbo hg wo hbox hb; have GEo := gE HX hg; have GO := am (show wc.heap.size ≤ gbo by rw [hg]; exact Nat.le_refl _); replace HO := ob HO hb; have NEp_o := nE BKp hg; have NEi_o := nE BKi hg; have NEr_o := nE BKr hg; replace BKp := bb BKp hb; replace BKi := bb BKi hb; replace BKr := bb BKr hb; replace HX := xb HX hb; have BKo := am hbox; clear hb hbox hg; obtain ⟨hco_o0, hco_o1, hco_o2, hco_o3, hco_o4⟩ := cl5 BKo; obtain ⟨hfo_o0, hfo_o1, hfo_o2, hfo_o3, hfo_o4⟩ := fz5 BKo) | ((with_reducible refine gate_store (t := 33) (p := 5) rfl ?_); refine store_event (t := 33) (p := 5) (v := ?vos) (w1 := (st5 wo gbo (.slice Z0 z0.length d0) (.slice Z1 z1.length d1) (.slice Z2 z2.length d2) (.int .i64 z3) (.int .i64 z4))) ?hg ?ho ?hn ?hr ?_; (case ho => rfl); (case hg => rfl); (case hn => rfl); (case hr => first | (go_simp; done) | (go_simp; rfl)); intro ws hw; replace BKp := kS5 hw BKp NEp_o.out; replace BKi := kS5 hw BKi NEi_o.out; replace BKr := kS5 hw BKr NEr_o.out; replace BKo := sS5 hw BKo; replace HX := bS5 hw HX GEo.out; replace HO := pS5 hw HO (fun k hk e_ => by have := GO.out; have := hk.2; omega); clear hw hco_o0 hco_o1 hco_o2 hco_o3 hco_o4 hfo_o0 hfo_o1 hfo_o2 hfo_o3 hfo_o4 hca_p0 hca_p1 hca_p2 hca_p3 hca_p4; obtain ⟨hcb_p0, hcb_p1, hcb_p2, hcb_p3, hcb_p4⟩ := cl5 BKp) | (go_at_call 26; (refine (impl_PageOk.calls k A0 c0 s0 A1 c1 s1 A2 c2 s2 h b false _ (Kd.C_below Hhp0.out HX.out) Hhd0.out (Kd.C_below Hhp1.out HX.out) Hhd1.out (Kd.C_below Hhp2.out HX.out) Hhd2.out M_ (pw_cell_below HX.out Hhm_.out) AT.out).mono ?_); rintro e wk ⟨rfl, hb⟩; replace BKp := bb BKp hb; replace BKi := bb BKi hb; replace BKr := bb BKr hb; replace BKo := bb BKo hb; replace HX := xb HX hb; replace HO := am (HO.out.below hb); clear hb hcb_p0 hcb_p1 hcb_p2 hcb_p3 hcb_p4; obtain ⟨hcd_o0, hcd_o1, hcd_o2, hcd_o3, hcd_o4⟩ := cl5 BKo; obtain ⟨hcd_r0, hcd_r1, hcd_r2, hcd_r3, hcd_r4⟩ := cl5 BKr; obtain ⟨hfd_r0, hfd_r1, hfd_r2, hfd_r3, hfd_r4⟩ := fz5 BKr; have HNR : Aside0 (∀ k, (fun k => wr.heap.size ≤ k ∧ k < wc.heap.size) k → k ≠ gbr) := ⟨fun k hk e_ => by have h1_ := LTr.out; have h2_ : wr.heap.size ≤ k := hk.1; omega⟩) | ((with_reducible refine gate_store (t := 33) (p := 4) rfl ?_); refine store_event (t := 33) (p := 4) (v := ?vor) (w1 := (st5 wk gbr (.slice Z0 z0.length d0) (.slice Z1 z1.length d1) (.slice Z2 z2.length d2) (.int .i64 z3) (.int .i64 z4))) ?hg ?ho ?hn ?hr ?_; (case ho => rfl); (case hg => rfl); (case hn => rfl); (case hr => first | (go_simp; done) | (go_simp; rfl)); intro wf hw; replace BKr := sS5 hw BKr; replace HX := bS5 hw HX GEr.out; have HF := pS5 hw HO (fun k hk e_ => HNR.out k hk e_); clear hw))
  refine bodyPost_ret (results_cell_row rfl _ _ gbr 33 #[.slice Z0 z0.length d0, .slice Z1 z1.length d1, .slice Z2 z2.length d2, .int .i64 z3, .int .i64 z4] (0, 0) _ rfl BKr.out Try.underlying33 rfl (by kernel_rfl)) rfl ?_
  exact ⟨_, _, _, rfl, HF.out.to_copy.1, HF.out.to_copy.2.1, HF.out.to_copy.2.2, HX.out⟩
 | true =>
  simp only [if_true] at H
  obtain ⟨q, hq, H⟩ := Option.bind_eq_some_iff.mp H
  simp only [Option.some.injEq, Prod.mk.injEq] at H
  obtain ⟨rfl, rfl, rfl, rfl, rfl⟩ := H
  have AQ := am hq
  clear hq
  go_enter Try.func9, Try.ntmps9
  go_wp2_with (first | ((with_reducible refine gd_ 2 ?_); refine bx_ 2 (cs := #[.slice A0 s0.length c0, .slice A1 s1.length c1, .slice A2 s2.length c2, .int .i64 h, .int .i64 b]) 33 ?_; intro gbp hg wp hbox hb; have GEp := gE HX hg; replace HX := xb HX hb; have BKp := am hbox; clear hb hbox hg) | ((with_reducible refine gd_ 3 ?_); refine bx_ 3 (cs := #[.int .i64 a0, .int .i64 a1, .string a2, .slice A3 l3.length c3, .string a4, .int .i64 a5, .slice A6 n6 c6]) 38 ?_; intro gbi hg wi hbox hb; have GEi := gE HX hg; have NEp_i := nE BKp hg; replace BKp := bb BKp hb; replace HX := xb HX hb; have BKi := am hbox; clear hb hbox hg) | ((with_reducible refine gd_ 4 ?_); refine bx_ 4 (cs := #[.slice none 0 0, .slice none 0 0, .slice none 0 0, .int .i64 0, .int .i64 0]) 33 ?_; intro gbr hg wr hbox hb; have GEr := gE HX hg; have NEp_r := nE BKp hg; have NEi_r := nE BKi hg; replace BKp := bb BKp hb; replace BKi := bb BKi hb; replace HX := xb HX hb; have BKr := am hbox; clear hb hbox hg; obtain ⟨hca_p0, hca_p1, hca_p2, hca_p3, hca_p4⟩ := cl5 BKp) | (go_at_call 25; (refine (impl_copyPage.calls A0 c0 s0 A1 c1 s1 A2 c2 s2 h b z0 z1 z2 z3 z4 _ (Kd.C_below Hhp0.out HX.out) Hhd0.out (Kd.C_below Hhp1.out HX.out) Hhd1.out (Kd.C_below Hhp2.out HX.out) Hhd2.out AZ.out).mono ?_); rintro e wc ⟨v0, v1, v2, rfl, ho0, ho1, ho2, hb⟩; have HO := am ((OwnP.of_copy ho0 ho1 ho2).lower (below_size HX.out)); have LTp := am (blk_lt BKp.out); have LTi := am (blk_lt BKi.out); have LTr := am (blk_lt BKr.out); replace BKp := bb BKp hb; replace BKi := bb BKi hb; replace BKr := bb BKr hb; replace HX := xb HX hb; obtain ⟨Z0, d0, Z1, d1, Z2, d2, rfl, rfl, rfl, _, _, _⟩ := HO.out.slices; clear ho0 ho1 ho2 hb) | ((with_reducible refine gd_ 5 ?_); refine bx_ 5 (cs := #[.slice none 0 0, .slice none 0 0, .slice none 0 0, .int .i64 0, .int .i64 0]) 33 ?_; intro gbo hg wo hbox hb; have GEo := gE HX hg; have GO := am (show wc.heap.size ≤ gbo by rw [hg]; exact Nat.le_refl _); replace HO := ob HO hb; have NEp_o := nE BKp hg; have NEi_o := nE BKi hg; have NEr_o := nE BKr hg; replace BKp := bb BKp hb; replace BKi := bb BKi hb; replace BKr := bb BKr hb; replace HX := xb HX hb; have BKo := am hbox; clear hb hbox hg; obtain ⟨hco_o0, hco_o1, hco_o2, hco_o3, hco_o4⟩ := cl5 BKo; obtain ⟨hfo_o0, hfo_o1, hfo_o2, hfo_o3, hfo_o4⟩ := fz5 BKo) | ((with_reducible refine gate_store (t := 33) (p := 5) rfl ?_); refine store_event (t := 33) (p := 5) (v := ?vos) (w1 := (st5 wo gbo (.slice Z0 z0.length d0) (.slice Z1 z1.length d1) (.slice Z2 z2.length d2) (.int .i64 z3) (.int .i64 z4))) ?hg ?ho ?hn ?hr ?_; (case ho => rfl); (case hg => rfl); (case hn => rfl); (case hr => first | (go_simp; done) | (go_simp; rfl)); intro ws hw; replace BKp := kS5 hw BKp NEp_o.out; replace BKi := kS5 hw BKi NEi_o.out; replace BKr := kS5 hw BKr NEr_o.out; replace BKo := sS5 hw BKo; replace HX := bS5 hw HX GEo.out; replace HO := pS5 hw HO (fun k hk e_ => by have := GO.out; have := hk.2; omega); clear hw hco_o0 hco_o1 hco_o2 hco_o3 hco_o4 hfo_o0 hfo_o1 hfo_o2 hfo_o3 hfo_o4 hca_p0 hca_p1 hca_p2 hca_p3 hca_p4; obtain ⟨hcb_p0, hcb_p1, hcb_p2, hcb_p3, hcb_p4⟩ := cl5 BKp) | (go_at_call 26; (refine (impl_PageOk.calls k A0 c0 s0 A1 c1 s1 A2 c2 s2 h b true _ (Kd.C_below Hhp0.out HX.out) Hhd0.out (Kd.C_below Hhp1.out HX.out) Hhd1.out (Kd.C_below Hhp2.out HX.out) Hhd2.out M_ (pw_cell_below HX.out Hhm_.out) AT.out).mono ?_); rintro e wk ⟨rfl, hb⟩; replace BKp := bb BKp hb; replace BKi := bb BKi hb; replace BKr := bb BKr hb; replace BKo := bb BKo hb; replace HX := xb HX hb; replace HO := am (HO.out.below hb); clear hb hcb_p0 hcb_p1 hcb_p2 hcb_p3 hcb_p4; obtain ⟨hcd_i0, hcd_i1, hcd_i2, hcd_i3, hcd_i4, hcd_i5, hcd_i6⟩ := cl7 BKi; have HPS : Aside0 (PgS w.heap.size wk (fun k => wr.heap.size ≤ k ∧ k < wc.heap.size) gbo z0 z1 z2 z3 z4) := ⟨⟨_, _, _, BKo.out, GEo.out, fun k hk e_ => by have := GO.out; have := hk.2; omega, HO.out⟩⟩; have LWK := am (show gbr < wk.heap.size from blk_lt BKr.out)) | (go_at_call 27; (refine (impl_Page_putIn.calls k _ gbo z0 z1 z2 z3 z4 a0 a1 a2 A3 c3 l3 a4 a5 A6 n6 c6 q w _ HPS.out HX.out (Kd.C_below Hhr3.out HX.out) Hhc3.out AQ.out).mono ?_); rintro e wm ⟨rfl, hps, hb, hk⟩; replace BKr := am (blk_kept BKr.out hk (fun hk_ => hk_.elim (fun q_ => by have := LTr.out; have : wr.heap.size ≤ gbr := q_.1; omega) NEr_o.out)); have LK := am (below_size HX.out); have L3 := am (blk_lt BKr.out); have LRK := am hb.size; replace HX := am hb; obtain ⟨y0, y1, y2, hgo, _, _, hho⟩ := hps; replace HO := am hho; replace BKo := am hgo; obtain ⟨Y0, e0, Y1, e1, Y2, e2, rfl, rfl, rfl, _, _, _⟩ := HO.out.slices; clear hgo hho hb hk; have HNR : Aside0 (∀ k, (fun k => (wr.heap.size ≤ k ∧ k < wc.heap.size) ∨ wk.heap.size ≤ k) k → k ≠ gbr) := ⟨fun k hk e_ => by have h1_ := LTr.out; have h2_ := LWK.out; rcases hk with hk | hk; (have := hk.1; omega); omega⟩; obtain ⟨hce_o0, hce_o1, hce_o2, hce_o3, hce_o4⟩ := cl5 BKo; obtain ⟨hce_r0, hce_r1, hce_r2, hce_r3, hce_r4⟩ := cl5 BKr; obtain ⟨hfe_r0, hfe_r1, hfe_r2, hfe_r3, hfe_r4⟩ := fz5 BKr) | ((with_reducible refine gate_store (t := 33) (p := 4) rfl ?_); refine store_event (t := 33) (p := 4) (v := ?vor) (w1 := (st5 wm gbr (.slice Y0 q.length e0) (.slice Y1 z1.length e1) (.slice Y2 z2.length e2) (.int .i64 z3) (.int .i64 z4))) ?hg ?ho ?hn ?hr ?_; (case ho => rfl); (case hg => rfl); (case hn => rfl); (case hr => first | (go_simp; done) | (go_simp; rfl)); intro wf hw; replace BKr := sS5 hw BKr; replace HX := bS5 hw HX GEr.out; have HF := pS5 hw HO (fun k hk e_ => HNR.out k hk e_); clear hw))
  refine bodyPost_ret (results_cell_row rfl _ _ gbr 33 #[.slice Y0 q.length e0, .slice Y1 z1.length e1, .slice Y2 z2.length e2, .int .i64 z3, .int .i64 z4] (0, 0) _ rfl BKr.out Try.underlying33 rfl (by kernel_rfl)) rfl ?_
  exact ⟨_, _, _, rfl, HF.out.to_copy.1, HF.out.to_copy.2.1, HF.out.to_copy.2.2, HX.out⟩
end Go.Proofs.Ytekkalnafngfeaa.P
