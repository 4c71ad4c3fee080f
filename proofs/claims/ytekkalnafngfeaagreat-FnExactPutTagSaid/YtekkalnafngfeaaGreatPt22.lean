-- WRITTEN BY this session's own programs
import Derived.Test.YtekkalnafngfeaaGreatPt27
import Derived.Test.YtekkalnafngfeaaGreatPt17
namespace Go.Proofs.YtekkalnafngfeaaGreat.P
open Go.RowKit Go.Proofs.YtekkalnafngfeaaGreatW.PrintWords Go.Proofs.YtekkalnafngfeaaGreatW.PrintLast Go.Proofs.YtekkalnafngfeaaGreatW.PrintMore
set_option linter.unusedVariables false
set_option linter.unusedSimpArgs false
set_option maxHeartbeats 8000000
set_option maxRecDepth 100000
set_option maxHeartbeats 4000000
attribute [local go_sem] max2_int min2_int max_two min_two max_three min_three max_four min_four
theorem z18_0 {q0 p : Prop} (g0 : Aside0 q0) (h : Aside0 q0 → p := by intro g0_; repeat (first | (with_reducible first | exact g0_.out | apply IsS31.alloc | apply IsS31.drewN | apply IsS31.drew | apply IsS31.set_3 | apply IsS31.set_4) | exact g0_.out)) : p := h g0
theorem z18_1 {p : Prop} (h : p := by repeat (first | (with_reducible first | exact HB.out | apply below_alloc | apply pw_below_drewN | apply below_drew1) | exact HB.out)) : p := h
theorem z18_2 {p : Prop} (h : p := by repeat (first | (with_reducible first | exact HK.out | apply KeepBut.set_ | apply keep_drewN | apply keep_drew | apply keep_alloc) | exact HK.out)) : p := h
def impl_isOneOf.f (a0 : ByteArray) (a1 : ByteArray) : Option (Bool) := if a0.toList = ([] : List UInt8) then (some false) else ((strings_Contains.f a0 (⟨#[32]⟩ : ByteArray)).bind fun t367 => (if t367 = true then (some false) else (if 1 + a1.size ≤ 9223372036854775807 then (if ((⟨#[32]⟩ : ByteArray) ++ a1).size + 1 ≤ 9223372036854775807 then (if 1 + a0.size ≤ 9223372036854775807 then (if ((⟨#[32]⟩ : ByteArray) ++ a0).size + 1 ≤ 9223372036854775807 then ((strings_Contains.f (((⟨#[32]⟩ : ByteArray) ++ a1) ++ (⟨#[32]⟩ : ByteArray)) (((⟨#[32]⟩ : ByteArray) ++ a0) ++ (⟨#[32]⟩ : ByteArray))).bind fun t368 => (some t368)) else (none)) else (none)) else (none)) else (none))))
theorem impl_isOneOf.calls (a0 : ByteArray) (a1 : ByteArray) (r : Bool) (w : World) (M_ : Int) (hm_ : w.cell? ⟨0, 0, none⟩ = some (.int .i64 M_)) (h : impl_isOneOf.f a0 a1 = some r) :
  Calls Tryz.prog 106 #[.string a0, .string a1] w fun e w' => e = .returned (.bool r) ∧ Drawn0 w w' := by
 have HM_ := am hm_
 clear hm_
 have H : (if a0.toList = ([] : List UInt8) then (some false) else ((strings_Contains.f a0 (⟨#[32]⟩ : ByteArray)).bind fun t367 => (if t367 = true then (some false) else (if 1 + a1.size ≤ 9223372036854775807 then (if ((⟨#[32]⟩ : ByteArray) ++ a1).size + 1 ≤ 9223372036854775807 then (if 1 + a0.size ≤ 9223372036854775807 then (if ((⟨#[32]⟩ : ByteArray) ++ a0).size + 1 ≤ 9223372036854775807 then ((strings_Contains.f (((⟨#[32]⟩ : ByteArray) ++ a1) ++ (⟨#[32]⟩ : ByteArray)) (((⟨#[32]⟩ : ByteArray) ++ a0) ++ (⟨#[32]⟩ : ByteArray))).bind fun t368 => (some t368)) else (none)) else (none)) else (none)) else (none))))) = some r := h
 clear h
 replace H := ie_ H; rcases H with ⟨c3b0, c3b1, H⟩ | ⟨c3, c3b0, c3b1, H⟩
 ·obtain rfl := Option.some.inj H
  go_enter Tryz.func106, Tryz.ntmps106
  go_wp2
  go_ret
  exact ⟨ab6, by repeat (first | exact Drawn0.refl _ | apply Drawn0.step)⟩
 ·replace H := bi_ H; obtain ⟨t367, A4, H⟩ := H
  replace H := ib_ H; rcases H with ⟨rfl, H⟩ | ⟨rfl, H⟩
  ·obtain rfl := Option.some.inj H
   go_enter Tryz.func106, Tryz.ntmps106
   go_wp2_with (first | (go_at_call 116; (with_reducible refine (strings_Contains.calls a0 (⟨#[32]⟩ : ByteArray) true _ M_ HM_.out A4.out).mono ?_); rintro e w' ⟨rfl, ⟨nd, rfl⟩⟩))
   go_ret
   exact ⟨ab6, by repeat (first | exact Drawn0.refl _ | apply Drawn0.step)⟩
  ·by_cases c6 : 1 + a1.size ≤ 9223372036854775807
   case neg => rw [if_neg c6] at H; exact absurd H (by simp)
   rw [if_pos c6] at H
   have c6b0 := eq_true c6
   have c6b1 := decide_eq_true c6
   try have c6b2 : (9223372036854775807 < 1 + a1.size) = False := eq_false (Nat.not_lt.2 c6)
   by_cases c7 : ((⟨#[32]⟩ : ByteArray) ++ a1).size + 1 ≤ 9223372036854775807
   case neg => rw [if_neg c7] at H; exact absurd H (by simp)
   rw [if_pos c7] at H
   have c7b0 := eq_true c7
   have c7b1 := decide_eq_true c7
   try (have c7b5 := c7; simp only [ByteArray.size_append, show (⟨#[32]⟩ : ByteArray).size = 1 from rfl] at c7b5; have c7b6 := eq_false (Nat.not_lt.2 c7b5))
   try have c7b2 : (9223372036854775807 < ((⟨#[32]⟩ : ByteArray) ++ a1).size + 1) = False := eq_false (Nat.not_lt.2 c7)
   by_cases c8 : 1 + a0.size ≤ 9223372036854775807
   case neg => rw [if_neg c8] at H; exact absurd H (by simp)
   rw [if_pos c8] at H
   have c8b0 := eq_true c8
   have c8b1 := decide_eq_true c8
   try have c8b2 : (9223372036854775807 < 1 + a0.size) = False := eq_false (Nat.not_lt.2 c8)
   by_cases c9 : ((⟨#[32]⟩ : ByteArray) ++ a0).size + 1 ≤ 9223372036854775807
   case neg => rw [if_neg c9] at H; exact absurd H (by simp)
   rw [if_pos c9] at H
   have c9b0 := eq_true c9
   have c9b1 := decide_eq_true c9
   try (have c9b5 := c9; simp only [ByteArray.size_append, show (⟨#[32]⟩ : ByteArray).size = 1 from rfl] at c9b5; have c9b6 := eq_false (Nat.not_lt.2 c9b5))
   try have c9b2 : (9223372036854775807 < ((⟨#[32]⟩ : ByteArray) ++ a0).size + 1) = False := eq_false (Nat.not_lt.2 c9)
   replace H := bi_ H; obtain ⟨t368, A10, H⟩ := H
   obtain rfl := Option.some.inj H
   go_enter Tryz.func106, Tryz.ntmps106
   go_wp2_with (first | (go_at_call 116; (with_reducible refine (strings_Contains.calls a0 (⟨#[32]⟩ : ByteArray) false _ M_ HM_.out A4.out).mono ?_); rintro e w' ⟨rfl, ⟨nd, rfl⟩⟩) | ((with_reducible refine gf_ 116 ?_); refine gc_ Tryz.func116 (strings_Contains.calls (((⟨#[32]⟩ : ByteArray) ++ a1) ++ (⟨#[32]⟩ : ByteArray)) (((⟨#[32]⟩ : ByteArray) ++ a0) ++ (⟨#[32]⟩ : ByteArray)) t368 _ M_ HM_.out A10.out) ?_; rintro w' ⟨nd, rfl⟩))
   go_ret
   exact ⟨ab6, by repeat (first | exact Drawn0.refl _ | apply Drawn0.step)⟩
def impl_Format.f (a0 : ByteArray) : Option (Bool) := (impl_isOneOf.f a0 (⟨#[97, 32, 98, 32, 105, 32, 117, 32, 101, 109, 32, 115, 116, 114, 111, 110, 103, 32, 99, 111, 100, 101, 32, 115, 109, 97, 108, 108]⟩ : ByteArray)).bind fun t369 => (some t369)
theorem impl_Format.calls (a0 : ByteArray) (r : Bool) (w : World) (M_ : Int) (hm_ : w.cell? ⟨0, 0, none⟩ = some (.int .i64 M_)) (h : impl_Format.f a0 = some r) :
  Calls Tryz.prog 88 #[.string a0] w fun e w' => e = .returned (.bool r) ∧ Drawn0 w w' := by
 have HM_ := am hm_
 clear hm_
 have H : ((impl_isOneOf.f a0 (⟨#[97, 32, 98, 32, 105, 32, 117, 32, 101, 109, 32, 115, 116, 114, 111, 110, 103, 32, 99, 111, 100, 101, 32, 115, 109, 97, 108, 108]⟩ : ByteArray)).bind fun t369 => (some t369)) = some r := h
 clear h
 replace H := bi_ H; obtain ⟨t369, A2, H⟩ := H
 obtain rfl := Option.some.inj H
 go_enter Tryz.func88, Tryz.ntmps88
 go_wp2_with (first | ((with_reducible refine gf_ 106 ?_); refine gc_ Tryz.func106 (impl_isOneOf.calls a0 (⟨#[97, 32, 98, 32, 105, 32, 117, 32, 101, 109, 32, 115, 116, 114, 111, 110, 103, 32, 99, 111, 100, 101, 32, 115, 109, 97, 108, 108]⟩ : ByteArray) t369 _ M_ HM_.out A2.out) ?_; rintro w' ⟨nd, rfl⟩))
 go_ret
 exact ⟨ab6, by repeat (first | exact Drawn0.refl _ | apply Drawn0.step)⟩
def impl_Page_isFormat.f (s0_0 : List (S53)) (s0_1 : List Int) (s0_2 : List Int) (s0_3 : Int) (s0_4 : Int) (a1 : Int) : Option (Bool × Int × Int) := (impl_Page_isTag.f s0_0 s0_1 s0_2 s0_3 s0_4 a1).bind fun bt370 => (if bt370.1 = true then (if 0 ≤ a1 then (if a1 < (s0_0.length : Int) then ((impl_Format.f ((rd_T53 s0_0 a1).f2)).bind fun t374 => (some (t374, bt370.2.1, bt370.2.2))) else (none)) else (none)) else (some (false, bt370.2.1, bt370.2.2)))
theorem impl_Page_isFormat.calls (g : Nat) (s0_0 : List (S53)) (s0_1 : List Int) (s0_2 : List Int) (s0_3 : Int) (s0_4 : Int) (a1 : Int) (r1 : Bool) (r2 : Int) (r3 : Int) (w0 w : World) (hI : IsS31 w0 w g s0_0 s0_1 s0_2 s0_3 s0_4) (hB : Below w0.heap.size w0 w) (M_ : Int) (hm_ : w0.cell? ⟨0, 0, none⟩ = some (.int .i64 M_)) (h : impl_Page_isFormat.f s0_0 s0_1 s0_2 s0_3 s0_4 a1 = some (r1, r2, r3)) :
  Calls Tryz.prog 63 #[.pointer (some ⟨g, 0, none⟩), .int .i64 a1] w fun e w' => e = .returned (.bool r1) ∧ IsS31 w0 w' g s0_0 s0_1 s0_2 r2 r3 ∧ Below w0.heap.size w0 w' ∧ KeepBut w w' g none := by
 have HI0 := am hI
 have HK := am (KeepBut.refl w g none)
 have HL := am hB.size
 clear hI
 have HW0 := am hB.size
 have HB := am hB
 clear hB
 have HM_ := am hm_
 clear hm_
 have H : ((impl_Page_isTag.f s0_0 s0_1 s0_2 s0_3 s0_4 a1).bind fun bt370 => (if bt370.1 = true then (if 0 ≤ a1 then (if a1 < (s0_0.length : Int) then ((impl_Format.f ((rd_T53 s0_0 a1).f2)).bind fun t374 => (some (t374, bt370.2.1, bt370.2.2))) else (none)) else (none)) else (some (false, bt370.2.1, bt370.2.2)))) = some (r1, r2, r3) := h
 clear h
 replace H := Option.bind_eq_some_iff.mp H
 obtain ⟨⟨t370, t371, t372⟩, A30, H⟩ := H
 try dsimp only at H
 have A3 := am A30
 clear A30
 replace H := ib_ H; rcases H with ⟨rfl, H⟩ | ⟨rfl, H⟩
 ·replace H := iq_ H; obtain ⟨c5b0, H⟩ := H
  replace H := iq_ H; obtain ⟨c6b0, H⟩ := H
  replace H := bi_ H; obtain ⟨t374, A7, H⟩ := H
  simp only [Option.some.injEq, Prod.mk.injEq] at H
  obtain ⟨rfl, rfl, rfl⟩ := H
  go_enter Tryz.func63, Tryz.ntmps63
  go_wp2_with (first | ((with_reducible refine gf_ 61 ?_); refine gc_ Tryz.func61 (impl_Page_isTag.calls g s0_0 s0_1 s0_2 s0_3 s0_4 a1 true t371 t372 w0 _ ?side1 ?side2 A3.out) ?_; (case side1 => exact (z18_0 HI0)); (case side2 => exact (z18_1)); rintro w8 ⟨hi, hb, hk⟩; replace HK := am (KeepBut.trans (z18_2) hk (.inl rfl)); replace HB := am hb; replace HI0 := am hi; (try clear hb); (try clear hk); (try clear hi); obtain ⟨ASz9_0, cSz9_0, ASz9_1, cSz9_1, ASz9_2, cSz9_2, HGz9, hgz9, HSz9_0, HSz9_1, HSz9_2⟩ := HI0.out; obtain ⟨⟨_, _, _, _, _⟩, _, _, _, _, _⟩ := Op.cells5 HGz9; clear HGz9 hgz9; have p373 : 0 ≤ (a1 : Int) := of_decide_eq_true ab4; have q373 : a1 < (s0_0.length : Int) := of_decide_eq_true ab4; obtain ⟨ad373, A373_3, c373_3, A373_6, c373_6, e373, hx373_0, hx373_1, hx373_2, hx373_3, hx373_4, hx373_5, hx373_6, hl373_3, hi373_3, hl373_6, hi373_6⟩ := at_T53 HSz9_0 a1 p373 q373; cases e373; replace hx373_0 := pc_ HB hx373_0; replace hx373_1 := pc_ HB hx373_1; replace hx373_2 := pc_ HB hx373_2; replace hx373_3 := pc_ HB hx373_3; replace hx373_4 := pc_ HB hx373_4; replace hx373_5 := pc_ HB hx373_5; replace hx373_6 := pc_ HB hx373_6; have HR373_3 := am hi373_3; have HC373_3 := am hl373_3; clear hi373_3 hl373_3; have HR373_6 := am hi373_6; have HC373_6 := am hl373_6; clear hi373_6 hl373_6; replace p373 := eq_true p373; replace q373 := eq_true q373) | (go_at_call 88; (with_reducible refine (impl_Format.calls ((rd_T53 s0_0 a1).f2) t374 _ M_ (pw_cell_below ab1 HM_.out) A7.out).mono ?_); rintro e w' ⟨rfl, ⟨nd, rfl⟩⟩))
  go_ret
  exact ⟨ab7, (z18_0 HI0), ab1, z18_2⟩
 ·simp only [Option.some.injEq, Prod.mk.injEq] at H
  obtain ⟨rfl, rfl, rfl⟩ := H
  go_enter Tryz.func63, Tryz.ntmps63
  go_wp2_with (first | ((with_reducible refine gf_ 61 ?_); refine gc_ Tryz.func61 (impl_Page_isTag.calls g s0_0 s0_1 s0_2 s0_3 s0_4 a1 false t371 t372 w0 _ ?side1 ?side2 A3.out) ?_; (case side1 => exact (z18_0 HI0)); (case side2 => exact (z18_1)); rintro w10 ⟨hi, hb, hk⟩; replace HK := am (KeepBut.trans (z18_2) hk (.inl rfl)); replace HB := am hb; replace HI0 := am hi; (try clear hb); (try clear hk); (try clear hi)))
  go_ret
  exact ⟨ab7, (z18_0 HI0), ab1, z18_2⟩
def impl_Page_isNamed.f (s0_0 : List (S53)) (s0_1 : List Int) (s0_2 : List Int) (s0_3 : Int) (s0_4 : Int) (a1 : Int) (a2 : ByteArray) : Option (Bool × Int × Int) := if a1 = 0 then (some (true, s0_3, s0_4)) else ((impl_Page_isTag.f s0_0 s0_1 s0_2 s0_3 s0_4 a1).bind fun bt375 => (if bt375.1 = true then (if 0 ≤ a1 then (if a1 < (s0_0.length : Int) then (some ((((rd_T53 s0_0 a1).f2).toList == a2.toList), bt375.2.1, bt375.2.2)) else (none)) else (none)) else (some (false, bt375.2.1, bt375.2.2))))
theorem impl_Page_isNamed.calls (g : Nat) (s0_0 : List (S53)) (s0_1 : List Int) (s0_2 : List Int) (s0_3 : Int) (s0_4 : Int) (a1 : Int) (a2 : ByteArray) (r1 : Bool) (r2 : Int) (r3 : Int) (w0 w : World) (hI : IsS31 w0 w g s0_0 s0_1 s0_2 s0_3 s0_4) (hB : Below w0.heap.size w0 w) (h : impl_Page_isNamed.f s0_0 s0_1 s0_2 s0_3 s0_4 a1 a2 = some (r1, r2, r3)) :
  Calls Tryz.prog 64 #[.pointer (some ⟨g, 0, none⟩), .int .i64 a1, .string a2] w fun e w' => e = .returned (.bool r1) ∧ IsS31 w0 w' g s0_0 s0_1 s0_2 r2 r3 ∧ Below w0.heap.size w0 w' ∧ KeepBut w w' g none := by
 have HI0 := am hI
 have HK := am (KeepBut.refl w g none)
 have HL := am hB.size
 clear hI
 have HW0 := am hB.size
 have HB := am hB
 clear hB
 have H : (if a1 = 0 then (some (true, s0_3, s0_4)) else ((impl_Page_isTag.f s0_0 s0_1 s0_2 s0_3 s0_4 a1).bind fun bt375 => (if bt375.1 = true then (if 0 ≤ a1 then (if a1 < (s0_0.length : Int) then (some ((((rd_T53 s0_0 a1).f2).toList == a2.toList), bt375.2.1, bt375.2.2)) else (none)) else (none)) else (some (false, bt375.2.1, bt375.2.2))))) = some (r1, r2, r3) := h
 clear h
 replace H := ie_ H; rcases H with ⟨c4b0, c4b1, H⟩ | ⟨c4, c4b0, c4b1, H⟩
 ·simp only [Option.some.injEq, Prod.mk.injEq] at H
  obtain ⟨rfl, rfl, rfl⟩ := H
  go_enter Tryz.func64, Tryz.ntmps64
  go_wp2
  go_ret
  exact ⟨ab7, (z18_0 HI0), ab1, z18_2⟩
 ·replace H := Option.bind_eq_some_iff.mp H
  obtain ⟨⟨t375, t376, t377⟩, A50, H⟩ := H
  try dsimp only at H
  have A5 := am A50
  clear A50
  replace H := ib_ H; rcases H with ⟨rfl, H⟩ | ⟨rfl, H⟩
  ·replace H := iq_ H; obtain ⟨c7b0, H⟩ := H
   replace H := iq_ H; obtain ⟨c8b0, H⟩ := H
   simp only [Option.some.injEq, Prod.mk.injEq] at H
   obtain ⟨rfl, rfl, rfl⟩ := H
   go_enter Tryz.func64, Tryz.ntmps64
   go_wp2_with (first | (go_at_call 61; (with_reducible refine (impl_Page_isTag.calls g s0_0 s0_1 s0_2 s0_3 s0_4 a1 true t376 t377 w0 _ ?side1 ?side2 A5.out).mono ?_); (case side1 => exact (z18_0 HI0)); (case side2 => exact (z18_1)); rintro e w9 ⟨rfl, hi, hb, hk⟩; replace HK := am (KeepBut.trans (z18_2) hk (.inl rfl)); replace HB := am hb; replace HI0 := am hi; (try clear hb); (try clear hk); (try clear hi); obtain ⟨ASz10_0, cSz10_0, ASz10_1, cSz10_1, ASz10_2, cSz10_2, HGz10, hgz10, HSz10_0, HSz10_1, HSz10_2⟩ := HI0.out; obtain ⟨⟨_, _, _, _, _⟩, _, _, _, _, _⟩ := Op.cells5 HGz10; clear HGz10 hgz10; have p378 : 0 ≤ (a1 : Int) := of_decide_eq_true ab4; have q378 : a1 < (s0_0.length : Int) := of_decide_eq_true ab4; obtain ⟨ad378, A378_3, c378_3, A378_6, c378_6, e378, hx378_0, hx378_1, hx378_2, hx378_3, hx378_4, hx378_5, hx378_6, hl378_3, hi378_3, hl378_6, hi378_6⟩ := at_T53 HSz10_0 a1 p378 q378; cases e378; replace hx378_0 := pc_ HB hx378_0; replace hx378_1 := pc_ HB hx378_1; replace hx378_2 := pc_ HB hx378_2; replace hx378_3 := pc_ HB hx378_3; replace hx378_4 := pc_ HB hx378_4; replace hx378_5 := pc_ HB hx378_5; replace hx378_6 := pc_ HB hx378_6; have HR378_3 := am hi378_3; have HC378_3 := am hl378_3; clear hi378_3 hl378_3; have HR378_6 := am hi378_6; have HC378_6 := am hl378_6; clear hi378_6 hl378_6; replace p378 := eq_true p378; replace q378 := eq_true q378))
   go_ret
   exact ⟨ab7, (z18_0 HI0), ab1, z18_2⟩
  ·simp only [Option.some.injEq, Prod.mk.injEq] at H
   obtain ⟨rfl, rfl, rfl⟩ := H
   go_enter Tryz.func64, Tryz.ntmps64
   go_wp2_with (first | (go_at_call 61; (with_reducible refine (impl_Page_isTag.calls g s0_0 s0_1 s0_2 s0_3 s0_4 a1 false t376 t377 w0 _ ?side1 ?side2 A5.out).mono ?_); (case side1 => exact (z18_0 HI0)); (case side2 => exact (z18_1)); rintro e w11 ⟨rfl, hi, hb, hk⟩; replace HK := am (KeepBut.trans (z18_2) hk (.inl rfl)); replace HB := am hb; replace HI0 := am hi; (try clear hb); (try clear hk); (try clear hi)))
   go_ret
   exact ⟨ab7, (z18_0 HI0), ab1, z18_2⟩
def impl_pageOk.f (a0_0 : Int) (a0_1 : Int) (a0_2 : ByteArray) (l0_3 : List (S56)) (a0_4 : ByteArray) (a0_5 : Int) (l0_6 : List Int) : Option (Bool) := if a0_0 = 1 then (if a0_5 = (-1) then (if a0_2.toList = ([] : List UInt8) then (if (l0_3.length : Int) = 0 then (if a0_1 = 0 then (some (a0_4.toList == ([] : List UInt8))) else (some false)) else (some false)) else (some false)) else (some false)) else (some false)
theorem impl_pageOk.calls (a0_0 : Int) (a0_1 : Int) (a0_2 : ByteArray) (A0_3 : Option Addr) (c0_3 : Nat) (l0_3 : List (S56)) (a0_4 : ByteArray) (a0_5 : Int) (A0_6 : Option Addr) (c0_6 : Nat) (l0_6 : List Int) (r : Bool) (w : World) (hr0_3 : Kd.C k56 w A0_3 l0_3.length l0_3) (hc0_3 : l0_3.length ≤ c0_3) (hr0_6 : Kd.C (Kd.int .i64) w A0_6 l0_6.length l0_6) (hc0_6 : l0_6.length ≤ c0_6) (h : impl_pageOk.f a0_0 a0_1 a0_2 l0_3 a0_4 a0_5 l0_6 = some r) :
  Calls Tryz.prog 89 #[.agg #[.int .i64 a0_0, .int .i64 a0_1, .string a0_2, .slice A0_3 l0_3.length c0_3, .string a0_4, .int .i64 a0_5, .slice A0_6 l0_6.length c0_6]] w fun e w' => e = .returned (.bool r) ∧ Below w.heap.size w w' := by
 have hu53 := Tryz.underlying53
 have HR0_3 := am hr0_3
 have HC0_3 := am hc0_3
 clear hr0_3 hc0_3
 have HR0_6 := am hr0_6
 have HC0_6 := am hc0_6
 clear hr0_6 hc0_6
 have HB := am (Below.refl w.heap.size w)
 have H : (if a0_0 = 1 then (if a0_5 = (-1) then (if a0_2.toList = ([] : List UInt8) then (if (l0_3.length : Int) = 0 then (if a0_1 = 0 then (some (a0_4.toList == ([] : List UInt8))) else (some false)) else (some false)) else (some false)) else (some false)) else (some false)) = some r := h
 clear h
 replace H := ie_ H; rcases H with ⟨c2b0, c2b1, H⟩ | ⟨c2, c2b0, c2b1, H⟩
 ·replace H := ie_ H; rcases H with ⟨c3b0, c3b1, H⟩ | ⟨c3, c3b0, c3b1, H⟩
  ·replace H := ie_ H; rcases H with ⟨c4b0, c4b1, H⟩ | ⟨c4, c4b0, c4b1, H⟩
   ·replace H := ie_ H; rcases H with ⟨c5b0, c5b1, H⟩ | ⟨c5, c5b0, c5b1, H⟩
    ·replace H := ie_ H; rcases H with ⟨c6b0, c6b1, H⟩ | ⟨c6, c6b0, c6b1, H⟩
     ·obtain rfl := Option.some.inj H
      go_enter Tryz.func89, Tryz.ntmps89
      go_wp2_with (first | ((with_reducible refine gd_ 1 ?_); (try (refine gate_guard (by rfl) ?_; dsimp only)); refine bx_ 1 (cs := #[.int .i64 a0_0, .int .i64 a0_1, .string a0_2, .slice A0_3 l0_3.length c0_3, .string a0_4, .int .i64 a0_5, .slice A0_6 l0_6.length c0_6]) 53 ?_; intro gb379 hg w7 hbox hb; have BK379 := am hbox; have GW379 := ge_ (w := w) hg; have GE379 := ge_ (w := w) hg; replace HB := am (below_step ab1 hb); clear hb hbox hg; obtain ⟨⟨_, _, _, _, _, _, _⟩, _, _, _, _, _, _, _⟩ := Op.cells7 BK379.out))
      go_ret
      exact ⟨ab7, ab2 GE379⟩
     ·obtain rfl := Option.some.inj H
      go_enter Tryz.func89, Tryz.ntmps89
      go_wp2_with (first | ((with_reducible refine gd_ 1 ?_); (try (refine gate_guard (by rfl) ?_; dsimp only)); refine bx_ 1 (cs := #[.int .i64 a0_0, .int .i64 a0_1, .string a0_2, .slice A0_3 l0_3.length c0_3, .string a0_4, .int .i64 a0_5, .slice A0_6 l0_6.length c0_6]) 53 ?_; intro gb379 hg w9 hbox hb; have BK379 := am hbox; have GW379 := ge_ (w := w) hg; have GE379 := ge_ (w := w) hg; replace HB := am (below_step ab1 hb); clear hb hbox hg; obtain ⟨⟨_, _, _, _, _, _, _⟩, _, _, _, _, _, _, _⟩ := Op.cells7 BK379.out))
      go_ret
      exact ⟨ab7, ab2 GE379⟩
    ·have c5b2 : ¬ (l0_3 = []) := fun h_ => c5 (by rw [h_]; rfl)
     obtain rfl := Option.some.inj H
     go_enter Tryz.func89, Tryz.ntmps89
     go_wp2_with (first | ((with_reducible refine gd_ 1 ?_); (try (refine gate_guard (by rfl) ?_; dsimp only)); refine bx_ 1 (cs := #[.int .i64 a0_0, .int .i64 a0_1, .string a0_2, .slice A0_3 l0_3.length c0_3, .string a0_4, .int .i64 a0_5, .slice A0_6 l0_6.length c0_6]) 53 ?_; intro gb379 hg w11 hbox hb; have BK379 := am hbox; have GW379 := ge_ (w := w) hg; have GE379 := ge_ (w := w) hg; replace HB := am (below_step ab1 hb); clear hb hbox hg; obtain ⟨⟨_, _, _, _, _, _, _⟩, _, _, _, _, _, _, _⟩ := Op.cells7 BK379.out))
     go_ret
     exact ⟨ab7, ab2 GE379⟩
   ·obtain rfl := Option.some.inj H
    go_enter Tryz.func89, Tryz.ntmps89
    go_wp2_with (first | ((with_reducible refine gd_ 1 ?_); (try (refine gate_guard (by rfl) ?_; dsimp only)); refine bx_ 1 (cs := #[.int .i64 a0_0, .int .i64 a0_1, .string a0_2, .slice A0_3 l0_3.length c0_3, .string a0_4, .int .i64 a0_5, .slice A0_6 l0_6.length c0_6]) 53 ?_; intro gb379 hg w13 hbox hb; have BK379 := am hbox; have GW379 := ge_ (w := w) hg; have GE379 := ge_ (w := w) hg; replace HB := am (below_step ab1 hb); clear hb hbox hg; obtain ⟨⟨_, _, _, _, _, _, _⟩, _, _, _, _, _, _, _⟩ := Op.cells7 BK379.out))
    go_ret
    exact ⟨ab7, ab2 GE379⟩
  ·obtain rfl := Option.some.inj H
   go_enter Tryz.func89, Tryz.ntmps89
   go_wp2_with (first | ((with_reducible refine gd_ 1 ?_); (try (refine gate_guard (by rfl) ?_; dsimp only)); refine bx_ 1 (cs := #[.int .i64 a0_0, .int .i64 a0_1, .string a0_2, .slice A0_3 l0_3.length c0_3, .string a0_4, .int .i64 a0_5, .slice A0_6 l0_6.length c0_6]) 53 ?_; intro gb379 hg w15 hbox hb; have BK379 := am hbox; have GW379 := ge_ (w := w) hg; have GE379 := ge_ (w := w) hg; replace HB := am (below_step ab1 hb); clear hb hbox hg; obtain ⟨⟨_, _, _, _, _, _, _⟩, _, _, _, _, _, _, _⟩ := Op.cells7 BK379.out))
   go_ret
   exact ⟨ab7, ab2 GE379⟩
 ·obtain rfl := Option.some.inj H
  go_enter Tryz.func89, Tryz.ntmps89
  go_wp2_with (first | ((with_reducible refine gd_ 1 ?_); (try (refine gate_guard (by rfl) ?_; dsimp only)); refine bx_ 1 (cs := #[.int .i64 a0_0, .int .i64 a0_1, .string a0_2, .slice A0_3 l0_3.length c0_3, .string a0_4, .int .i64 a0_5, .slice A0_6 l0_6.length c0_6]) 53 ?_; intro gb379 hg w17 hbox hb; have BK379 := am hbox; have GW379 := ge_ (w := w) hg; have GE379 := ge_ (w := w) hg; replace HB := am (below_step ab1 hb); clear hb hbox hg; obtain ⟨⟨_, _, _, _, _, _, _⟩, _, _, _, _, _, _, _⟩ := Op.cells7 BK379.out))
  go_ret
  exact ⟨ab7, ab2 GE379⟩
def hasA (name : ByteArray) (a : S56) : Bool := a.f0.toList == name.toList
def idxA (name : ByteArray) : List S56 → Nat → Int
 | [], _ => -1
 | a :: l, j => if hasA name a = true then (j : Int) else idxA name l (j + 1)
def impl_hasAttr.f (l0 : List S56) (a1 : ByteArray) : Option Bool := some (l0.any (hasA a1))
theorem idxA_drop (name : ByteArray) (l : List S56) (j : Nat) (h : j < l.length) : idxA name (l.drop j) j = if hasA name l[j] = true then (j : Int) else idxA name (l.drop (j + 1)) (j + 1) := by
 rw [List.drop_eq_getElem_cons h]; rfl
theorem idxA_any (name : ByteArray) : ∀ (l : List S56) (j : Nat), decide (0 ≤ idxA name l j) = l.any (hasA name)
 | [], _ => rfl
 | a :: l, j => by
  unfold idxA
  by_cases h : hasA name a = true
  ·rw [if_pos h, List.any_cons, h, Bool.true_or, decide_eq_true (by omega)]
  ·rw [if_neg h, idxA_any name l (j + 1), List.any_cons, Bool.eq_false_iff.mpr h, Bool.false_or]
theorem lit_hasAttr (n v name : ByteArray) (b : Nat) (w : World) (hc : w.cell? ⟨b, 0, none⟩ = some (.string name)) :
  Calls Tryz.prog 123 #[.agg #[.string n, .string v], .pointer (some ⟨b, 0, none⟩)] w fun e w' => e = .returned (.bool (n.toList == name.toList)) ∧ Below w.heap.size w w' := by
 have hu := Tryz.underlying56
 have HB := am (Below.refl w.heap.size w)
 have hc2 := fun o => pw_cell_below ((Below.refl _ w).alloc (Nat.le_refl _) o) hc
 go_enter Tryz.func123, Tryz.ntmps123
 go_wp2
 go_ret
 exact ⟨rfl, ab1⟩
theorem lit_hasAttr_q (n v name : ByteArray) (b : Nat) (q : Bool) (w : World) (hq : (n.toList == name.toList) = q) (hc : w.cell? ⟨b, 0, none⟩ = some (.string name)) :
  Calls Tryz.prog 123 #[.agg #[.string n, .string v], .pointer (some ⟨b, 0, none⟩)] w fun e w' => e = .returned (.bool q) ∧ Below w.heap.size w w' := by
 subst hq
 exact lit_hasAttr n v name b w hc
theorem rdA (l : List S56) (j : Nat) (h : j < l.length) : rd_T56 l (j : Int) = l[j] := by
 unfold rd_T56
 rw [Int.toNat_natCast, List.getD_eq_getElem?_getD, List.getElem?_eq_getElem h]; rfl
theorem idx_hasAttr (A0 : Option Addr) (c0 : Nat) (l0 : List S56) (name : ByteArray) (b : Nat) (w : World) (hr0 : Kd.C k56 w A0 l0.length l0) (hc : w.cell? ⟨b, 0, none⟩ = some (.string name)) :
  Calls Tryz.prog 126 #[.slice A0 l0.length c0, .func (.func 123) #[] #[.pointer (some ⟨b, 0, none⟩)]] w fun e w' => e = .returned (.int .i64 (idxA name l0 0)) ∧ Below w.heap.size w w' := by
 have hu := Tryz.underlying56
 have HR0 := am hr0
 have HC := am hc
 clear hr0 hc
 go_enter Tryz.func126, Tryz.ntmps126
 go_wp2
 go_loopw [8] (fun v8 wr => ∃ (j : Nat), v8 = .int .i64 j ∧ Aside0 (Below w.heap.size w wr) ∧ Aside0 (j ≤ l0.length) ∧ Aside0 (idxA name (l0.drop j) j = idxA name l0 0)) (fun v8 _ => l0.length - (intOf v8).toNat)
 case atStart => exact ⟨0, rfl, ⟨Below.refl _ _⟩, ⟨Nat.zero_le _⟩, ⟨by rw [List.drop_zero]⟩⟩
 case round =>
  obtain ⟨j, rfl, HB, HJ, HE⟩ := hrel
  by_cases hlt : j < l0.length
  ·have hE := HE.out
   rw [idxA_drop name l0 j hlt] at hE
   have hlen : (l0.length : Int) ≤ 9223372036854775807 := by have := HR0.out.2.1; omega
   have hltI : (j : Int) < (l0.length : Int) := Int.ofNat_lt.mpr hlt
   obtain ⟨ad, ea, hx0, hx1⟩ := at_T56 HR0.out (j : Int) (Int.natCast_nonneg j) hltI
   subst ea
   rw [Int.toNat_natCast] at hx0 hx1
   have hy0 := pc_ HB hx0
   have hy1 := pc_ HB hx1
   clear hx0 hx1
   have HCN := am (pc_ HB HC.out)
   have HL := am HB.out.size
   have hq : ((rd_T56 l0 (j : Int)).f0.toList == name.toList) = hasA name l0[j] := by rw [rdA l0 j hlt]; rfl
   by_cases h : hasA name l0[j] = true
   ·rw [if_pos h] at hE
    rw [h] at hq
    have HQ := am hq
    have HE2 := am hE
    clear hq hE h
    go_wp2_with (go_at_call 123; (with_reducible refine (lit_hasAttr_q _ _ name b true _ HQ.out HCN.out).mono ?_); rintro e w1 ⟨rfl, hb1⟩)
    go_ret
    exact ⟨by rw [← HE2.out]; rfl, below_then HB.out HL.out hb1⟩
   ·rw [if_neg h] at hE
    rw [Bool.eq_false_iff.mpr h] at hq
    have HQ := am hq
    have HE2 := am hE
    clear hq hE h
    go_wp2_with (go_at_call 123; (with_reducible refine (lit_hasAttr_q _ _ name b false _ HQ.out HCN.out).mono ?_); rintro e w1 ⟨rfl, hb1⟩)
    go_roundw
    case rel => exact ⟨j + 1, by go_num, ⟨below_then HB.out HL.out hb1⟩, ⟨hlt⟩, HE2⟩
    case measure => simp [intOf]; omega
  ·have hE := HE.out
   rw [List.drop_eq_nil_of_le (by omega)] at hE
   have HE2 := am hE
   clear hE
   go_wp2
   go_ret
   exact ⟨by rw [← HE2.out]; rfl, HB.out⟩
theorem con_hasAttr (A0 : Option Addr) (c0 : Nat) (l0 : List S56) (name : ByteArray) (b : Nat) (w : World) (hr0 : Kd.C k56 w A0 l0.length l0) (hc : w.cell? ⟨b, 0, none⟩ = some (.string name)) :
  Calls Tryz.prog 122 #[.slice A0 l0.length c0, .func (.func 123) #[] #[.pointer (some ⟨b, 0, none⟩)]] w fun e w' => e = .returned (.bool (l0.any (hasA name))) ∧ Below w.heap.size w w' := by
 have HR0 := am hr0
 have HC := am hc
 clear hr0 hc
 rw [← idxA_any name l0 0]
 go_enter Tryz.func122, Tryz.ntmps122
 go_wp2_with (go_at_call 126; (with_reducible refine (idx_hasAttr A0 c0 l0 name b _ HR0.out HC.out).mono ?_); rintro e w1 ⟨rfl, hb1⟩)
 go_ret
 exact ⟨rfl, hb1⟩
theorem impl_hasAttr.calls (A0 : Option Addr) (c0 : Nat) (l0 : List S56) (a1 : ByteArray) (r : Bool) (w : World) (hr0 : Kd.C k56 w A0 l0.length l0) (hc0 : l0.length ≤ c0) (h : impl_hasAttr.f l0 a1 = some r) :
  Calls Tryz.prog 117 #[.slice A0 l0.length c0, .string a1] w fun e w' => e = .returned (.bool r) ∧ Below w.heap.size w w' := by
 obtain rfl := Option.some.inj h
 clear h
 have HR0 := am hr0
 clear hr0 hc0
 go_enter Tryz.func117, Tryz.ntmps117
 go_wp2_with (go_at_call 122; (refine (con_hasAttr A0 c0 l0 a1 w.heap.size _ (Kd.C_below HR0.out ((Below.refl _ w).alloc (Nat.le_refl _) _)) (by rw [Go.Lib.cell_of_heap (show (w.heap.push _)[w.heap.size]? = _ from Array.getElem?_push_size)]; rfl)).mono ?_); rintro e w1 ⟨rfl, hb1⟩)
 go_ret
 exact ⟨rfl, below_then ((Below.refl _ w).alloc (Nat.le_refl _) _) (by show w.heap.size ≤ (w.heap.push _).size; rw [Array.size_push]; omega) hb1⟩
def impl_namesOnce.l0 : Nat → List (S56) → List (S56) → Int → Int → Option (Bool)
 | 0, _, _, _, _ => none
 | k + 1, x0, x5, x6, x7 => if x7 < x6 then (if 0 ≤ x7 then (if x7 < (x5.length : Int) then (if x7 ≤ (x0.length : Int) then ((impl_hasAttr.f (x0.take (x7 : Int).toNat) ((rd_T56 x5 x7).f0)).bind fun t386 => (if t386 = true then (some false) else (impl_namesOnce.l0 k x0 x5 x6 (wrap64 (x7 + 1))))) else (none)) else (none)) else (none)) else (some true)
def impl_namesOnce.f (k : Nat) (l0 : List (S56)) : Option (Bool) := impl_namesOnce.l0 k l0 l0 (l0.length : Int) 0
theorem impl_namesOnce.calls (k : Nat) (A0 : Option Addr) (c0 : Nat) (l0 : List (S56)) (r : Bool) (w : World) (hr0 : Kd.C k56 w A0 l0.length l0) (hc0 : l0.length ≤ c0) (h : impl_namesOnce.f k l0 = some r) :
  Calls Tryz.prog 107 #[.slice A0 l0.length c0] w fun e w' => e = .returned (.bool r) ∧ Below w.heap.size w w' := by
 have hu56 := Tryz.underlying56
 have HR0 := am hr0
 have HC0 := am hc0
 clear hr0 hc0
 have HB := am (Below.refl w.heap.size w)
 have H : (impl_namesOnce.l0 k l0 l0 (l0.length : Int) 0) = some r := h
 clear h
 have H' := am H
 clear H
 go_enter Tryz.func107, Tryz.ntmps107
 go_wp2
 go_loopg [7] k (fun kq v7 w' => ∃ (x7_1 : Int), v7 = .int .i64 x7_1 ∧ Aside0 (impl_namesOnce.l0 kq l0 l0 (l0.length : Int) x7_1 = some r) ∧ Aside0 (kq ≤ k) ∧ Aside0 (Below w.heap.size w w'))
 case atStart => exact ⟨(0), ab6, H', ⟨Nat.le_refl _⟩, ⟨ab1⟩⟩
 case round =>
  clear H'
  try clear c1
  obtain ⟨x7_1, rfl, HA, HK1, HB⟩ := hrel
  cases gk with
  | zero => exact absurd HA.out (by simp [impl_namesOnce.l0])
  | succ k1 =>
   have H := HA.out
   clear HA
   simp only [impl_namesOnce.l0] at H
   replace H := ir_ H; rcases H with ⟨c2b0, H⟩ | ⟨c2b0, H⟩
   ·replace H := iq_ H; obtain ⟨c3b0, H⟩ := H
    replace H := iq_ H; obtain ⟨c4b0, H⟩ := H
    have c5b0 := eq_true (of_decide_eq_true ab4 : 0 ≤ x7_1)
    by_cases c6 : x7_1 ≤ (l0.length : Int)
    case neg => rw [if_neg c6] at H; exact absurd H (by simp)
    rw [if_pos c6] at H
    have c6b0 := eq_true c6
    have c6b1 := decide_eq_true c6
    clear c6
    obtain ⟨y382, hy382⟩ : ∃ y_ : List (S56), y_ = (l0.take (x7_1 : Int).toNat) := ⟨_, rfl⟩
    replace H : ((impl_hasAttr.f y382 ((rd_T56 l0 x7_1).f0)).bind fun t386 => (if t386 = true then (some false) else (impl_namesOnce.l0 k1 l0 l0 (l0.length : Int) (wrap64 (x7_1 + 1))))) = some r := by first | (rw [hy382]; with_reducible exact H) | (have H2_ := (Option.bind_some _ _).symm.trans H; rw [hy382]; with_reducible exact H2_) | (have H2_ := (Option.bind_some _ _).symm.trans H; with_reducible exact H2_) | with_reducible exact H | (rw [hy382]; exact H) | exact H
    have Ny382 := am hy382
    clear hy382
    replace H := bi_ H; obtain ⟨t386, A7, H⟩ := H
    replace H := ib_ H; rcases H with ⟨rfl, H⟩ | ⟨rfl, H⟩
    ·obtain rfl := Option.some.inj H
     obtain ⟨p380, q380, ad380, rfl, hx380_0, hx380_1, -⟩ := otT56 HB HR0.out x7_1 (of_decide_eq_true ab4) (of_decide_eq_true ab4)
     try go_wp2_with (first | ((with_reducible refine gd_ 4 ?_); refine bx_ 4 (cs := #[.string (⟨#[]⟩ : ByteArray), .string (⟨#[]⟩ : ByteArray)]) 56 ?_; intro gb381 hg w9 hbox hb; have BK381 := am hbox; have GW381 := ge_ (w := w) hg; have GE381 := ge_ (w := w) hg; replace HB := am (below_step ab1 hb); clear hb hbox hg; obtain ⟨⟨_, _⟩, _, _⟩ := Op.cells2 BK381.out))
     have n0_ : Aside0 (((w9.setCell ⟨gb381, 0, none⟩ (.string ((rd_T56 l0 x7_1).f0))).setCell ⟨gb381, 1, none⟩ (.string ((rd_T56 l0 x7_1).f1))).heap[gb381]? = some (.cells #[.string ((rd_T56 l0 x7_1).f0), .string ((rd_T56 l0 x7_1).f1)] 56 (0, 0))) := ⟨by (with_reducible repeat (first | refine blk_drewN ?_ _ | refine blk_drew ?_ | refine blk_alloc ?_ _)); refine blk_put (cs := #[.string ((rd_T56 l0 x7_1).f0), .string (⟨#[]⟩ : ByteArray)]) ?_ 1 _ rfl; (with_reducible repeat (first | refine blk_drewN ?_ _ | refine blk_drew ?_ | refine blk_alloc ?_ _)); refine blk_put (cs := #[.string (⟨#[]⟩ : ByteArray), .string (⟨#[]⟩ : ByteArray)]) ?_ 0 _ rfl; (with_reducible repeat (first | refine blk_drewN ?_ _ | refine blk_drew ?_ | refine blk_alloc ?_ _)); exact BK381.out⟩
     have n1_ : Aside0 (Below w.heap.size w ((w9.setCell ⟨gb381, 0, none⟩ (.string ((rd_T56 l0 x7_1).f0))).setCell ⟨gb381, 1, none⟩ (.string ((rd_T56 l0 x7_1).f1)))) := ⟨ab2 GE381⟩
     (try clear BK381)
     (try clear HB)
     generalize ((w9.setCell ⟨gb381, 0, none⟩ (.string ((rd_T56 l0 x7_1).f0))).setCell ⟨gb381, 1, none⟩ (.string ((rd_T56 l0 x7_1).f1))) = w11 at n0_ n1_ ⊢
     have BK381 := n0_
     have HB := n1_
     clear n0_ n1_
     replace BK381 := am (blk_drew BK381.out)
     replace HB := am (below_drew1 HB.out)
     have q13 : (x7_1 : Int) ≤ ((l0.length : Int) : Int) := of_decide_eq_true ab4
     obtain ⟨i013, hi013, _, hsz13, _⟩ := info_parts info56
     have hroom13 : l0.length ≤ c0 := HC0.out
     have hC13 : Kd.C k56 _ (some ad380) l0.length l0 := HR0.out
     have hcut13 := cut_to (P := Tryz.prog) 34 56 .i64 Tryz.underlying34 hi013 (some ad380) l0.length c0 x7_1 (of_decide_eq_true ab4) q13 hroom13
     have hr13 := Kd.C_take (m := (x7_1 : Int).toNat) hC13 (by omega)
     have hy13 : y382.length = (x7_1 : Int).toNat := (by rw [Ny382.out, List.length_take]; omega)
     rw [← Ny382.out] at hr13
     rw [← hy13] at hcut13
     have HR385 := am hr13
     have HC385 := am (show y382.length ≤ c0 from by omega)
     clear hr13 hC13 hroom13 hi013 hsz13
     have KY13 := am hy13
     clear hy13
     replace q13 := eq_true q13
     refine start_ (n := 6) (S := fun w' => w'.cell? ⟨gb381, 0, none⟩ = some (.string ((rd_T56 l0 x7_1).f0)) ∧ w'.cell? ⟨gb381, 1, none⟩ = some (.string ((rd_T56 l0 x7_1).f1))) (ds := []) #[false, false, false, false, false, false] (by kernel_rfl) rfl rfl ⟨(blk_cell BK381.out 0).trans rfl, (blk_cell BK381.out 1).trans rfl⟩ (fun hHeld => ?_)
     generalize w11.drew = w12 at BK381 HB HR385 hHeld ⊢
     refine pure_ (i := 0) (N := some 12) (v := ?_) (a' := ?_) #[true, false, false, false, false, false] rfl rfl (by kernel_rfl) (fun _ _ _ h => h) (Or.inl ⟨by rfl, ?_⟩) ?_ ?_
     rotate_left
     ·intro w'
      go_simp
      with_reducible rfl
     rotate_left
     ·simp only [Act.put, List.setIfInBounds_toArray, List.set_cons_zero, List.set_cons_succ, i64_w, i32_w]
      rfl
     refine pure_ (i := 1) (N := some 13) (v := ?_) (a' := ?_) #[true, true, false, false, false, false] rfl rfl (by kernel_rfl) (fun _ _ _ h => h) (Or.inl ⟨by rfl, ?_⟩) ?_ ?_
     rotate_left
     ·intro w'
      go_simp
      with_reducible rfl
     rotate_left
     ·simp only [Act.put, List.setIfInBounds_toArray, List.set_cons_zero, List.set_cons_succ, i64_w, i32_w]
      rfl
     refine pure_ (i := 2) (N := some 14) (v := ?_) (a' := ?_) #[true, true, true, false, false, false] rfl rfl (by kernel_rfl) (fun _ _ _ h => h) (Or.inl ⟨by rfl, ?_⟩) ?_ ?_
     rotate_left
     ·intro w'
      go_simp
      with_reducible rfl
     rotate_left
     ·simp only [Act.put, List.setIfInBounds_toArray, List.set_cons_zero, List.set_cons_succ, i64_w, i32_w]
      rfl
     refine pure_ (i := 3) (N := some 15) (v := ?_) (a' := ?_) #[true, true, true, true, false, false] rfl rfl (by kernel_rfl) (fun _ _ _ h => h) (Or.inl ⟨by rfl, ?_⟩) ?_ ?_
     rotate_left
     ·intro w'
      go_simp
      with_reducible rfl
     rotate_left
     ·simp only [Act.put, List.setIfInBounds_toArray, List.set_cons_zero, List.set_cons_succ, i64_w, i32_w]
      rfl
     refine take_ (i := 4) (N := some 16) (v := ?_) (a' := ?_) #[true, true, true, true, true, false] rfl rfl (by kernel_rfl) (fun _ _ _ h => h) (Or.inl ⟨by rfl, ?_⟩) hHeld ?_ ?_
     rotate_left
     ·rintro w' ⟨s0, s1⟩
      go_simp
      with_reducible rfl
     rotate_left
     ·simp only [Act.put, List.setIfInBounds_toArray, List.set_cons_zero, List.set_cons_succ, i64_w, i32_w]
      rfl
     refine one_ (i := 5) (N := some 17) #[true, true, true, true, true, true] rfl rfl (by kernel_rfl) (by decide) (fun K hK => ?_)
     refine goes_ Tryz.func117 (by kernel_rfl) rfl #[.slice (some ad380) y382.length c0, .string ((rd_T56 l0 x7_1).f0)] (by rfl) rfl rfl ab5 ?_
     with_reducible refine (impl_hasAttr.calls _ _ y382 ((rd_T56 l0 x7_1).f0) true _ ?side1 ?side2 A7.out).mono ?_
     (case side1 => repeat (first | exact (Kd.C_below HR385.out HB.out) | (with_reducible refine Kd.C_alloc ?_ _) | (with_reducible refine Kd.C_drewN ?_ _) | (with_reducible refine Kd.C_drew ?_)))
     (case side2 => exact HC385.out)
     rintro e w14 ⟨rfl, hb⟩
     refine ⟨_, rfl, ?_⟩
     replace BK381 := bl_ BK381 hb
     replace HB := am (below_step (ab2 GE381) hb)
     (try clear hb)
     refine hK.out _ _ ⟨(blk_cell BK381.out 0).trans rfl, (blk_cell BK381.out 1).trans rfl⟩ (fun hHeld => ?_)
     clear hK K
     refine nm_ ?_
     refine done_ (by kernel_rfl) ?_
     try go_wp2
     go_ret
     exact ⟨ab7, ab2 GE381⟩
    ·have H' := am H
     clear H
     obtain ⟨p380, q380, ad380, rfl, hx380_0, hx380_1, -⟩ := otT56 HB HR0.out x7_1 (of_decide_eq_true ab4) (of_decide_eq_true ab4)
     try go_wp2_with (first | ((with_reducible refine gd_ 4 ?_); refine bx_ 4 (cs := #[.string (⟨#[]⟩ : ByteArray), .string (⟨#[]⟩ : ByteArray)]) 56 ?_; intro gb381 hg w15 hbox hb; have BK381 := am hbox; have GW381 := ge_ (w := w) hg; have GE381 := ge_ (w := w) hg; replace HB := am (below_step ab1 hb); clear hb hbox hg; obtain ⟨⟨_, _⟩, _, _⟩ := Op.cells2 BK381.out))
     have n0_ : Aside0 (((w15.setCell ⟨gb381, 0, none⟩ (.string ((rd_T56 l0 x7_1).f0))).setCell ⟨gb381, 1, none⟩ (.string ((rd_T56 l0 x7_1).f1))).heap[gb381]? = some (.cells #[.string ((rd_T56 l0 x7_1).f0), .string ((rd_T56 l0 x7_1).f1)] 56 (0, 0))) := ⟨by (with_reducible repeat (first | refine blk_drewN ?_ _ | refine blk_drew ?_ | refine blk_alloc ?_ _)); refine blk_put (cs := #[.string ((rd_T56 l0 x7_1).f0), .string (⟨#[]⟩ : ByteArray)]) ?_ 1 _ rfl; (with_reducible repeat (first | refine blk_drewN ?_ _ | refine blk_drew ?_ | refine blk_alloc ?_ _)); refine blk_put (cs := #[.string (⟨#[]⟩ : ByteArray), .string (⟨#[]⟩ : ByteArray)]) ?_ 0 _ rfl; (with_reducible repeat (first | refine blk_drewN ?_ _ | refine blk_drew ?_ | refine blk_alloc ?_ _)); exact BK381.out⟩
     have n1_ : Aside0 (Below w.heap.size w ((w15.setCell ⟨gb381, 0, none⟩ (.string ((rd_T56 l0 x7_1).f0))).setCell ⟨gb381, 1, none⟩ (.string ((rd_T56 l0 x7_1).f1)))) := ⟨ab2 GE381⟩
     (try clear BK381)
     (try clear HB)
     generalize ((w15.setCell ⟨gb381, 0, none⟩ (.string ((rd_T56 l0 x7_1).f0))).setCell ⟨gb381, 1, none⟩ (.string ((rd_T56 l0 x7_1).f1))) = w17 at n0_ n1_ ⊢
     have BK381 := n0_
     have HB := n1_
     clear n0_ n1_
     replace BK381 := am (blk_drew BK381.out)
     replace HB := am (below_drew1 HB.out)
     have q19 : (x7_1 : Int) ≤ ((l0.length : Int) : Int) := of_decide_eq_true ab4
     obtain ⟨i019, hi019, _, hsz19, _⟩ := info_parts info56
     have hroom19 : l0.length ≤ c0 := HC0.out
     have hC19 : Kd.C k56 _ (some ad380) l0.length l0 := HR0.out
     have hcut19 := cut_to (P := Tryz.prog) 34 56 .i64 Tryz.underlying34 hi019 (some ad380) l0.length c0 x7_1 (of_decide_eq_true ab4) q19 hroom19
     have hr19 := Kd.C_take (m := (x7_1 : Int).toNat) hC19 (by omega)
     have hy19 : y382.length = (x7_1 : Int).toNat := (by rw [Ny382.out, List.length_take]; omega)
     rw [← Ny382.out] at hr19
     rw [← hy19] at hcut19
     have HR385 := am hr19
     have HC385 := am (show y382.length ≤ c0 from by omega)
     clear hr19 hC19 hroom19 hi019 hsz19
     have KY19 := am hy19
     clear hy19
     replace q19 := eq_true q19
     refine start_ (n := 6) (S := fun w' => w'.cell? ⟨gb381, 0, none⟩ = some (.string ((rd_T56 l0 x7_1).f0)) ∧ w'.cell? ⟨gb381, 1, none⟩ = some (.string ((rd_T56 l0 x7_1).f1))) (ds := []) #[false, false, false, false, false, false] (by kernel_rfl) rfl rfl ⟨(blk_cell BK381.out 0).trans rfl, (blk_cell BK381.out 1).trans rfl⟩ (fun hHeld => ?_)
     generalize w17.drew = w18 at BK381 HB HR385 hHeld ⊢
     refine pure_ (i := 0) (N := some 12) (v := ?_) (a' := ?_) #[true, false, false, false, false, false] rfl rfl (by kernel_rfl) (fun _ _ _ h => h) (Or.inl ⟨by rfl, ?_⟩) ?_ ?_
     rotate_left
     ·intro w'
      go_simp
      with_reducible rfl
     rotate_left
     ·simp only [Act.put, List.setIfInBounds_toArray, List.set_cons_zero, List.set_cons_succ, i64_w, i32_w]
      rfl
     refine pure_ (i := 1) (N := some 13) (v := ?_) (a' := ?_) #[true, true, false, false, false, false] rfl rfl (by kernel_rfl) (fun _ _ _ h => h) (Or.inl ⟨by rfl, ?_⟩) ?_ ?_
     rotate_left
     ·intro w'
      go_simp
      with_reducible rfl
     rotate_left
     ·simp only [Act.put, List.setIfInBounds_toArray, List.set_cons_zero, List.set_cons_succ, i64_w, i32_w]
      rfl
     refine pure_ (i := 2) (N := some 14) (v := ?_) (a' := ?_) #[true, true, true, false, false, false] rfl rfl (by kernel_rfl) (fun _ _ _ h => h) (Or.inl ⟨by rfl, ?_⟩) ?_ ?_
     rotate_left
     ·intro w'
      go_simp
      with_reducible rfl
     rotate_left
     ·simp only [Act.put, List.setIfInBounds_toArray, List.set_cons_zero, List.set_cons_succ, i64_w, i32_w]
      rfl
     refine pure_ (i := 3) (N := some 15) (v := ?_) (a' := ?_) #[true, true, true, true, false, false] rfl rfl (by kernel_rfl) (fun _ _ _ h => h) (Or.inl ⟨by rfl, ?_⟩) ?_ ?_
     rotate_left
     ·intro w'
      go_simp
      with_reducible rfl
     rotate_left
     ·simp only [Act.put, List.setIfInBounds_toArray, List.set_cons_zero, List.set_cons_succ, i64_w, i32_w]
      rfl
     refine take_ (i := 4) (N := some 16) (v := ?_) (a' := ?_) #[true, true, true, true, true, false] rfl rfl (by kernel_rfl) (fun _ _ _ h => h) (Or.inl ⟨by rfl, ?_⟩) hHeld ?_ ?_
     rotate_left
     ·rintro w' ⟨s0, s1⟩
      go_simp
      with_reducible rfl
     rotate_left
     ·simp only [Act.put, List.setIfInBounds_toArray, List.set_cons_zero, List.set_cons_succ, i64_w, i32_w]
      rfl
     refine one_ (i := 5) (N := some 17) #[true, true, true, true, true, true] rfl rfl (by kernel_rfl) (by decide) (fun K hK => ?_)
     refine goes_ Tryz.func117 (by kernel_rfl) rfl #[.slice (some ad380) y382.length c0, .string ((rd_T56 l0 x7_1).f0)] (by rfl) rfl rfl ab5 ?_
     with_reducible refine (impl_hasAttr.calls _ _ y382 ((rd_T56 l0 x7_1).f0) false _ ?side1 ?side2 A7.out).mono ?_
     (case side1 => repeat (first | exact (Kd.C_below HR385.out HB.out) | (with_reducible refine Kd.C_alloc ?_ _) | (with_reducible refine Kd.C_drewN ?_ _) | (with_reducible refine Kd.C_drew ?_)))
     (case side2 => exact HC385.out)
     rintro e w20 ⟨rfl, hb⟩
     refine ⟨_, rfl, ?_⟩
     replace BK381 := bl_ BK381 hb
     replace HB := am (below_step (ab2 GE381) hb)
     (try clear hb)
     refine hK.out _ _ ⟨(blk_cell BK381.out 0).trans rfl, (blk_cell BK381.out 1).trans rfl⟩ (fun hHeld => ?_)
     clear hK K
     refine nm_ ?_
     refine done_ (by kernel_rfl) ?_
     try go_wp2
     go_roundg k1
     case measure => have := HK1.out; omega
     case rel => exact ⟨(wrap64 (x7_1 + 1)), ab6, H', ⟨by have := HK1.out; omega⟩, ⟨ab2 GE381⟩⟩
   ·obtain rfl := Option.some.inj H
    go_wp2
    go_ret
    exact ⟨ab7, ab1⟩
def impl_itemOk.f (k : Nat) (a0_0 : Int) (a0_1 : Int) (a0_2 : ByteArray) (l0_3 : List (S56)) (a0_4 : ByteArray) (a0_5 : Int) (l0_6 : List Int) : Option (Bool) := if a0_0 = 2 then (if a0_4.toList = ([] : List UInt8) then (if a0_2.toList = ([] : List UInt8) then (some false) else ((impl_inRange.f a0_1 0 2).bind fun t388 => (if t388 = true then ((impl_namesOnce.f k l0_3).bind fun t389 => (some t389)) else (some false)))) else (some false)) else (if a0_0 = 3 then (if a0_2.toList = ([] : List UInt8) then (if a0_1 = 0 then (if (l0_3.length : Int) = 0 then (some ((l0_6.length : Int) == 0)) else (some false)) else (some false)) else (some false)) else (if a0_0 = 4 then (if a0_2.toList = ([] : List UInt8) then (if a0_1 = 0 then (if (l0_3.length : Int) = 0 then (some ((l0_6.length : Int) == 0)) else (some false)) else (some false)) else (some false)) else (if a0_0 = 5 then (if a0_2.toList = ([] : List UInt8) then (if a0_1 = 0 then (if (l0_3.length : Int) = 0 then (some ((l0_6.length : Int) == 0)) else (some false)) else (some false)) else (some false)) else (some false))))
theorem impl_itemOk.calls (k : Nat) (a0_0 : Int) (a0_1 : Int) (a0_2 : ByteArray) (A0_3 : Option Addr) (c0_3 : Nat) (l0_3 : List (S56)) (a0_4 : ByteArray) (a0_5 : Int) (A0_6 : Option Addr) (c0_6 : Nat) (l0_6 : List Int) (r : Bool) (w : World) (hr0_3 : Kd.C k56 w A0_3 l0_3.length l0_3) (hc0_3 : l0_3.length ≤ c0_3) (hr0_6 : Kd.C (Kd.int .i64) w A0_6 l0_6.length l0_6) (hc0_6 : l0_6.length ≤ c0_6) (h : impl_itemOk.f k a0_0 a0_1 a0_2 l0_3 a0_4 a0_5 l0_6 = some r) :
  Calls Tryz.prog 90 #[.agg #[.int .i64 a0_0, .int .i64 a0_1, .string a0_2, .slice A0_3 l0_3.length c0_3, .string a0_4, .int .i64 a0_5, .slice A0_6 l0_6.length c0_6]] w fun e w' => e = .returned (.bool r) ∧ Below w.heap.size w w' := by
 have hu53 := Tryz.underlying53
 have HR0_3 := am hr0_3
 have HC0_3 := am hc0_3
 clear hr0_3 hc0_3
 have HR0_6 := am hr0_6
 have HC0_6 := am hc0_6
 clear hr0_6 hc0_6
 have HB := am (Below.refl w.heap.size w)
 have H : (if a0_0 = 2 then (if a0_4.toList = ([] : List UInt8) then (if a0_2.toList = ([] : List UInt8) then (some false) else ((impl_inRange.f a0_1 0 2).bind fun t388 => (if t388 = true then ((impl_namesOnce.f k l0_3).bind fun t389 => (some t389)) else (some false)))) else (some false)) else (if a0_0 = 3 then (if a0_2.toList = ([] : List UInt8) then (if a0_1 = 0 then (if (l0_3.length : Int) = 0 then (some ((l0_6.length : Int) == 0)) else (some false)) else (some false)) else (some false)) else (if a0_0 = 4 then (if a0_2.toList = ([] : List UInt8) then (if a0_1 = 0 then (if (l0_3.length : Int) = 0 then (some ((l0_6.length : Int) == 0)) else (some false)) else (some false)) else (some false)) else (if a0_0 = 5 then (if a0_2.toList = ([] : List UInt8) then (if a0_1 = 0 then (if (l0_3.length : Int) = 0 then (some ((l0_6.length : Int) == 0)) else (some false)) else (some false)) else (some false)) else (some false))))) = some r := h
 clear h
 replace H := ie_ H; rcases H with ⟨c2b0, c2b1, H⟩ | ⟨c2, c2b0, c2b1, H⟩
 ·replace H := ie_ H; rcases H with ⟨c3b0, c3b1, H⟩ | ⟨c3, c3b0, c3b1, H⟩
  ·replace H := ie_ H; rcases H with ⟨c4b0, c4b1, H⟩ | ⟨c4, c4b0, c4b1, H⟩
   ·obtain rfl := Option.some.inj H
    go_enter Tryz.func90, Tryz.ntmps90
    go_wp2_with (first | ((with_reducible refine gd_ 1 ?_); (try (refine gate_guard (by rfl) ?_; dsimp only)); refine bx_ 1 (cs := #[.int .i64 a0_0, .int .i64 a0_1, .string a0_2, .slice A0_3 l0_3.length c0_3, .string a0_4, .int .i64 a0_5, .slice A0_6 l0_6.length c0_6]) 53 ?_; intro gb387 hg w5 hbox hb; have BK387 := am hbox; have GW387 := ge_ (w := w) hg; have GE387 := ge_ (w := w) hg; replace HB := am (below_step ab1 hb); clear hb hbox hg; obtain ⟨⟨_, _, _, _, _, _, _⟩, _, _, _, _, _, _, _⟩ := Op.cells7 BK387.out))
    go_ret
    exact ⟨ab7, ab2 GE387⟩
   ·replace H := bi_ H; obtain ⟨t388, A7, H⟩ := H
    replace H := ib_ H; rcases H with ⟨rfl, H⟩ | ⟨rfl, H⟩
    ·replace H := bi_ H; obtain ⟨t389, A9, H⟩ := H
     obtain rfl := Option.some.inj H
     go_enter Tryz.func90, Tryz.ntmps90
     go_wp2_with (first | ((with_reducible refine gd_ 1 ?_); (try (refine gate_guard (by rfl) ?_; dsimp only)); refine bx_ 1 (cs := #[.int .i64 a0_0, .int .i64 a0_1, .string a0_2, .slice A0_3 l0_3.length c0_3, .string a0_4, .int .i64 a0_5, .slice A0_6 l0_6.length c0_6]) 53 ?_; intro gb387 hg w10 hbox hb; have BK387 := am hbox; have GW387 := ge_ (w := w) hg; have GE387 := ge_ (w := w) hg; replace HB := am (below_step ab1 hb); clear hb hbox hg; obtain ⟨⟨_, _, _, _, _, _, _⟩, _, _, _, _, _, _, _⟩ := Op.cells7 BK387.out) | (go_at_call 87; (with_reducible refine (impl_inRange.calls a0_1 0 2 true _ A7.out).mono ?_); rintro e w' ⟨rfl, ⟨nd, rfl⟩⟩) | (go_at_call 107; (with_reducible refine (impl_namesOnce.calls k _ _ l0_3 t389 _ ?side1 ?side2 A9.out).mono ?_); (case side1 => repeat (first | exact (Kd.C_below HR0_3.out (ab2 GE387)) | (with_reducible refine Kd.C_alloc ?_ _) | (with_reducible refine Kd.C_drewN ?_ _) | (with_reducible refine Kd.C_drew ?_))); (case side2 => exact HC0_3.out); rintro e w12 ⟨rfl, hb⟩; replace BK387 := bl_ BK387 hb; replace HB := am (below_step (ab2 GE387) hb); (try clear hb)))
     go_ret
     exact ⟨ab7, ab2 GE387⟩
    ·obtain rfl := Option.some.inj H
     go_enter Tryz.func90, Tryz.ntmps90
     go_wp2_with (first | ((with_reducible refine gd_ 1 ?_); (try (refine gate_guard (by rfl) ?_; dsimp only)); refine bx_ 1 (cs := #[.int .i64 a0_0, .int .i64 a0_1, .string a0_2, .slice A0_3 l0_3.length c0_3, .string a0_4, .int .i64 a0_5, .slice A0_6 l0_6.length c0_6]) 53 ?_; intro gb387 hg w13 hbox hb; have BK387 := am hbox; have GW387 := ge_ (w := w) hg; have GE387 := ge_ (w := w) hg; replace HB := am (below_step ab1 hb); clear hb hbox hg; obtain ⟨⟨_, _, _, _, _, _, _⟩, _, _, _, _, _, _, _⟩ := Op.cells7 BK387.out) | (go_at_call 87; (with_reducible refine (impl_inRange.calls a0_1 0 2 false _ A7.out).mono ?_); rintro e w' ⟨rfl, ⟨nd, rfl⟩⟩))
     go_ret
     exact ⟨ab7, ab2 GE387⟩
  ·obtain rfl := Option.some.inj H
   go_enter Tryz.func90, Tryz.ntmps90
   go_wp2_with (first | ((with_reducible refine gd_ 1 ?_); (try (refine gate_guard (by rfl) ?_; dsimp only)); refine bx_ 1 (cs := #[.int .i64 a0_0, .int .i64 a0_1, .string a0_2, .slice A0_3 l0_3.length c0_3, .string a0_4, .int .i64 a0_5, .slice A0_6 l0_6.length c0_6]) 53 ?_; intro gb387 hg w15 hbox hb; have BK387 := am hbox; have GW387 := ge_ (w := w) hg; have GE387 := ge_ (w := w) hg; replace HB := am (below_step ab1 hb); clear hb hbox hg; obtain ⟨⟨_, _, _, _, _, _, _⟩, _, _, _, _, _, _, _⟩ := Op.cells7 BK387.out))
   go_ret
   exact ⟨ab7, ab2 GE387⟩
 ·replace H := ie_ H; rcases H with ⟨c17b0, c17b1, H⟩ | ⟨c17, c17b0, c17b1, H⟩
  ·replace H := ie_ H; rcases H with ⟨c18b0, c18b1, H⟩ | ⟨c18, c18b0, c18b1, H⟩
   ·replace H := ie_ H; rcases H with ⟨c19b0, c19b1, H⟩ | ⟨c19, c19b0, c19b1, H⟩
    ·replace H := ie_ H; rcases H with ⟨c20b0, c20b1, H⟩ | ⟨c20, c20b0, c20b1, H⟩
     ·obtain rfl := Option.some.inj H
      go_enter Tryz.func90, Tryz.ntmps90
      go_wp2_with (first | ((with_reducible refine gd_ 1 ?_); (try (refine gate_guard (by rfl) ?_; dsimp only)); refine bx_ 1 (cs := #[.int .i64 a0_0, .int .i64 a0_1, .string a0_2, .slice A0_3 l0_3.length c0_3, .string a0_4, .int .i64 a0_5, .slice A0_6 l0_6.length c0_6]) 53 ?_; intro gb387 hg w21 hbox hb; have BK387 := am hbox; have GW387 := ge_ (w := w) hg; have GE387 := ge_ (w := w) hg; replace HB := am (below_step ab1 hb); clear hb hbox hg; obtain ⟨⟨_, _, _, _, _, _, _⟩, _, _, _, _, _, _, _⟩ := Op.cells7 BK387.out))
      go_ret
      exact ⟨ab7, ab2 GE387⟩
     ·have c20b2 : ¬ (l0_3 = []) := fun h_ => c20 (by rw [h_]; rfl)
      obtain rfl := Option.some.inj H
      go_enter Tryz.func90, Tryz.ntmps90
      go_wp2_with (first | ((with_reducible refine gd_ 1 ?_); (try (refine gate_guard (by rfl) ?_; dsimp only)); refine bx_ 1 (cs := #[.int .i64 a0_0, .int .i64 a0_1, .string a0_2, .slice A0_3 l0_3.length c0_3, .string a0_4, .int .i64 a0_5, .slice A0_6 l0_6.length c0_6]) 53 ?_; intro gb387 hg w23 hbox hb; have BK387 := am hbox; have GW387 := ge_ (w := w) hg; have GE387 := ge_ (w := w) hg; replace HB := am (below_step ab1 hb); clear hb hbox hg; obtain ⟨⟨_, _, _, _, _, _, _⟩, _, _, _, _, _, _, _⟩ := Op.cells7 BK387.out))
      go_ret
      exact ⟨ab7, ab2 GE387⟩
    ·obtain rfl := Option.some.inj H
     go_enter Tryz.func90, Tryz.ntmps90
     go_wp2_with (first | ((with_reducible refine gd_ 1 ?_); (try (refine gate_guard (by rfl) ?_; dsimp only)); refine bx_ 1 (cs := #[.int .i64 a0_0, .int .i64 a0_1, .string a0_2, .slice A0_3 l0_3.length c0_3, .string a0_4, .int .i64 a0_5, .slice A0_6 l0_6.length c0_6]) 53 ?_; intro gb387 hg w25 hbox hb; have BK387 := am hbox; have GW387 := ge_ (w := w) hg; have GE387 := ge_ (w := w) hg; replace HB := am (below_step ab1 hb); clear hb hbox hg; obtain ⟨⟨_, _, _, _, _, _, _⟩, _, _, _, _, _, _, _⟩ := Op.cells7 BK387.out))
     go_ret
     exact ⟨ab7, ab2 GE387⟩
   ·obtain rfl := Option.some.inj H
    go_enter Tryz.func90, Tryz.ntmps90
    go_wp2_with (first | ((with_reducible refine gd_ 1 ?_); (try (refine gate_guard (by rfl) ?_; dsimp only)); refine bx_ 1 (cs := #[.int .i64 a0_0, .int .i64 a0_1, .string a0_2, .slice A0_3 l0_3.length c0_3, .string a0_4, .int .i64 a0_5, .slice A0_6 l0_6.length c0_6]) 53 ?_; intro gb387 hg w27 hbox hb; have BK387 := am hbox; have GW387 := ge_ (w := w) hg; have GE387 := ge_ (w := w) hg; replace HB := am (below_step ab1 hb); clear hb hbox hg; obtain ⟨⟨_, _, _, _, _, _, _⟩, _, _, _, _, _, _, _⟩ := Op.cells7 BK387.out))
    go_ret
    exact ⟨ab7, ab2 GE387⟩
  ·replace H := ie_ H; rcases H with ⟨c29b0, c29b1, H⟩ | ⟨c29, c29b0, c29b1, H⟩
   ·replace H := ie_ H; rcases H with ⟨c30b0, c30b1, H⟩ | ⟨c30, c30b0, c30b1, H⟩
    ·replace H := ie_ H; rcases H with ⟨c31b0, c31b1, H⟩ | ⟨c31, c31b0, c31b1, H⟩
     ·replace H := ie_ H; rcases H with ⟨c32b0, c32b1, H⟩ | ⟨c32, c32b0, c32b1, H⟩
      ·obtain rfl := Option.some.inj H
       go_enter Tryz.func90, Tryz.ntmps90
       go_wp2_with (first | ((with_reducible refine gd_ 1 ?_); (try (refine gate_guard (by rfl) ?_; dsimp only)); refine bx_ 1 (cs := #[.int .i64 a0_0, .int .i64 a0_1, .string a0_2, .slice A0_3 l0_3.length c0_3, .string a0_4, .int .i64 a0_5, .slice A0_6 l0_6.length c0_6]) 53 ?_; intro gb387 hg w33 hbox hb; have BK387 := am hbox; have GW387 := ge_ (w := w) hg; have GE387 := ge_ (w := w) hg; replace HB := am (below_step ab1 hb); clear hb hbox hg; obtain ⟨⟨_, _, _, _, _, _, _⟩, _, _, _, _, _, _, _⟩ := Op.cells7 BK387.out))
       go_ret
       exact ⟨ab7, ab2 GE387⟩
      ·have c32b2 : ¬ (l0_3 = []) := fun h_ => c32 (by rw [h_]; rfl)
       obtain rfl := Option.some.inj H
       go_enter Tryz.func90, Tryz.ntmps90
       go_wp2_with (first | ((with_reducible refine gd_ 1 ?_); (try (refine gate_guard (by rfl) ?_; dsimp only)); refine bx_ 1 (cs := #[.int .i64 a0_0, .int .i64 a0_1, .string a0_2, .slice A0_3 l0_3.length c0_3, .string a0_4, .int .i64 a0_5, .slice A0_6 l0_6.length c0_6]) 53 ?_; intro gb387 hg w35 hbox hb; have BK387 := am hbox; have GW387 := ge_ (w := w) hg; have GE387 := ge_ (w := w) hg; replace HB := am (below_step ab1 hb); clear hb hbox hg; obtain ⟨⟨_, _, _, _, _, _, _⟩, _, _, _, _, _, _, _⟩ := Op.cells7 BK387.out))
       go_ret
       exact ⟨ab7, ab2 GE387⟩
     ·obtain rfl := Option.some.inj H
      go_enter Tryz.func90, Tryz.ntmps90
      go_wp2_with (first | ((with_reducible refine gd_ 1 ?_); (try (refine gate_guard (by rfl) ?_; dsimp only)); refine bx_ 1 (cs := #[.int .i64 a0_0, .int .i64 a0_1, .string a0_2, .slice A0_3 l0_3.length c0_3, .string a0_4, .int .i64 a0_5, .slice A0_6 l0_6.length c0_6]) 53 ?_; intro gb387 hg w37 hbox hb; have BK387 := am hbox; have GW387 := ge_ (w := w) hg; have GE387 := ge_ (w := w) hg; replace HB := am (below_step ab1 hb); clear hb hbox hg; obtain ⟨⟨_, _, _, _, _, _, _⟩, _, _, _, _, _, _, _⟩ := Op.cells7 BK387.out))
      go_ret
      exact ⟨ab7, ab2 GE387⟩
    ·obtain rfl := Option.some.inj H
     go_enter Tryz.func90, Tryz.ntmps90
     go_wp2_with (first | ((with_reducible refine gd_ 1 ?_); (try (refine gate_guard (by rfl) ?_; dsimp only)); refine bx_ 1 (cs := #[.int .i64 a0_0, .int .i64 a0_1, .string a0_2, .slice A0_3 l0_3.length c0_3, .string a0_4, .int .i64 a0_5, .slice A0_6 l0_6.length c0_6]) 53 ?_; intro gb387 hg w39 hbox hb; have BK387 := am hbox; have GW387 := ge_ (w := w) hg; have GE387 := ge_ (w := w) hg; replace HB := am (below_step ab1 hb); clear hb hbox hg; obtain ⟨⟨_, _, _, _, _, _, _⟩, _, _, _, _, _, _, _⟩ := Op.cells7 BK387.out))
     go_ret
     exact ⟨ab7, ab2 GE387⟩
   ·replace H := ie_ H; rcases H with ⟨c41b0, c41b1, H⟩ | ⟨c41, c41b0, c41b1, H⟩
    ·replace H := ie_ H; rcases H with ⟨c42b0, c42b1, H⟩ | ⟨c42, c42b0, c42b1, H⟩
     ·replace H := ie_ H; rcases H with ⟨c43b0, c43b1, H⟩ | ⟨c43, c43b0, c43b1, H⟩
      ·replace H := ie_ H; rcases H with ⟨c44b0, c44b1, H⟩ | ⟨c44, c44b0, c44b1, H⟩
       ·obtain rfl := Option.some.inj H
        go_enter Tryz.func90, Tryz.ntmps90
        go_wp2_with (first | ((with_reducible refine gd_ 1 ?_); (try (refine gate_guard (by rfl) ?_; dsimp only)); refine bx_ 1 (cs := #[.int .i64 a0_0, .int .i64 a0_1, .string a0_2, .slice A0_3 l0_3.length c0_3, .string a0_4, .int .i64 a0_5, .slice A0_6 l0_6.length c0_6]) 53 ?_; intro gb387 hg w45 hbox hb; have BK387 := am hbox; have GW387 := ge_ (w := w) hg; have GE387 := ge_ (w := w) hg; replace HB := am (below_step ab1 hb); clear hb hbox hg; obtain ⟨⟨_, _, _, _, _, _, _⟩, _, _, _, _, _, _, _⟩ := Op.cells7 BK387.out))
        go_ret
        exact ⟨ab7, ab2 GE387⟩
       ·have c44b2 : ¬ (l0_3 = []) := fun h_ => c44 (by rw [h_]; rfl)
        obtain rfl := Option.some.inj H
        go_enter Tryz.func90, Tryz.ntmps90
        go_wp2_with (first | ((with_reducible refine gd_ 1 ?_); (try (refine gate_guard (by rfl) ?_; dsimp only)); refine bx_ 1 (cs := #[.int .i64 a0_0, .int .i64 a0_1, .string a0_2, .slice A0_3 l0_3.length c0_3, .string a0_4, .int .i64 a0_5, .slice A0_6 l0_6.length c0_6]) 53 ?_; intro gb387 hg w47 hbox hb; have BK387 := am hbox; have GW387 := ge_ (w := w) hg; have GE387 := ge_ (w := w) hg; replace HB := am (below_step ab1 hb); clear hb hbox hg; obtain ⟨⟨_, _, _, _, _, _, _⟩, _, _, _, _, _, _, _⟩ := Op.cells7 BK387.out))
        go_ret
        exact ⟨ab7, ab2 GE387⟩
      ·obtain rfl := Option.some.inj H
       go_enter Tryz.func90, Tryz.ntmps90
       go_wp2_with (first | ((with_reducible refine gd_ 1 ?_); (try (refine gate_guard (by rfl) ?_; dsimp only)); refine bx_ 1 (cs := #[.int .i64 a0_0, .int .i64 a0_1, .string a0_2, .slice A0_3 l0_3.length c0_3, .string a0_4, .int .i64 a0_5, .slice A0_6 l0_6.length c0_6]) 53 ?_; intro gb387 hg w49 hbox hb; have BK387 := am hbox; have GW387 := ge_ (w := w) hg; have GE387 := ge_ (w := w) hg; replace HB := am (below_step ab1 hb); clear hb hbox hg; obtain ⟨⟨_, _, _, _, _, _, _⟩, _, _, _, _, _, _, _⟩ := Op.cells7 BK387.out))
       go_ret
       exact ⟨ab7, ab2 GE387⟩
     ·obtain rfl := Option.some.inj H
      go_enter Tryz.func90, Tryz.ntmps90
      go_wp2_with (first | ((with_reducible refine gd_ 1 ?_); (try (refine gate_guard (by rfl) ?_; dsimp only)); refine bx_ 1 (cs := #[.int .i64 a0_0, .int .i64 a0_1, .string a0_2, .slice A0_3 l0_3.length c0_3, .string a0_4, .int .i64 a0_5, .slice A0_6 l0_6.length c0_6]) 53 ?_; intro gb387 hg w51 hbox hb; have BK387 := am hbox; have GW387 := ge_ (w := w) hg; have GE387 := ge_ (w := w) hg; replace HB := am (below_step ab1 hb); clear hb hbox hg; obtain ⟨⟨_, _, _, _, _, _, _⟩, _, _, _, _, _, _, _⟩ := Op.cells7 BK387.out))
      go_ret
      exact ⟨ab7, ab2 GE387⟩
    ·obtain rfl := Option.some.inj H
     go_enter Tryz.func90, Tryz.ntmps90
     go_wp2_with (first | ((with_reducible refine gd_ 1 ?_); (try (refine gate_guard (by rfl) ?_; dsimp only)); refine bx_ 1 (cs := #[.int .i64 a0_0, .int .i64 a0_1, .string a0_2, .slice A0_3 l0_3.length c0_3, .string a0_4, .int .i64 a0_5, .slice A0_6 l0_6.length c0_6]) 53 ?_; intro gb387 hg w53 hbox hb; have BK387 := am hbox; have GW387 := ge_ (w := w) hg; have GE387 := ge_ (w := w) hg; replace HB := am (below_step ab1 hb); clear hb hbox hg; obtain ⟨⟨_, _, _, _, _, _, _⟩, _, _, _, _, _, _, _⟩ := Op.cells7 BK387.out))
     go_ret
     exact ⟨ab7, ab2 GE387⟩
def impl_hasKids.f (a0 : Int) : Option (Bool) := if a0 = 1 then (some true) else (some (a0 == 2))
theorem impl_hasKids.calls (a0 : Int) (r : Bool) (w : World) (h : impl_hasKids.f a0 = some r) :
  Calls Tryz.prog 91 #[.int .i64 a0] w fun e w' => e = .returned (.bool r) ∧ Drawn0 w w' := by
 have H : (if a0 = 1 then (some true) else (some (a0 == 2))) = some r := h
 clear h
 replace H := ie_ H; rcases H with ⟨c2b0, c2b1, H⟩ | ⟨c2, c2b0, c2b1, H⟩
 ·obtain rfl := Option.some.inj H
  go_enter Tryz.func91, Tryz.ntmps91
  go_wp2
  go_ret
  exact ⟨ab6, by repeat (first | exact Drawn0.refl _ | apply Drawn0.step)⟩
 ·obtain rfl := Option.some.inj H
  go_enter Tryz.func91, Tryz.ntmps91
  go_wp2
  go_ret
  exact ⟨ab6, by repeat (first | exact Drawn0.refl _ | apply Drawn0.step)⟩
mutual
def impl_kidsOk.l0 : Nat → List (S53) → List Int → List (S53) → Int → Int → Option (Bool)
 | 0, _, _, _, _, _ => none
 | k + 1, x0, x3, x12, x13, x14 => if x14 < x13 then (if 0 ≤ x14 then (if x14 < (x12.length : Int) then (impl_kidsOk.l1 k x0 x3 x14 x12 x13 x14 ((rd_T53 x12 x14).f6) (((rd_T53 x12 x14).f6).length : Int) 0) else (none)) else (none)) else (impl_kidsOk.l2 k x0 x3 1)
def impl_kidsOk.l1 : Nat → List (S53) → List Int → Int → List (S53) → Int → Int → List Int → Int → Int → Option (Bool)
 | 0, _, _, _, _, _, _, _, _, _ => none
 | k + 1, x0, x3, x4, x12, x13, x14, x20, x21, x22 => if x22 < x21 then (if 0 ≤ x22 then (if x22 < (x20.length : Int) then ((impl_inRange.f (rd x20 x22) 1 (wrap64 ((x0.length : Int) - 1))).bind fun t396 => (if t396 = true then (if 0 ≤ (rd x20 x22) then (if (rd x20 x22) < (x0.length : Int) then (if ((rd_T53 x0 (rd x20 x22)).f5) = x4 then (if (rd x20 x22) < (x3.length : Int) then (impl_kidsOk.l1 k x0 (x3.set ((rd x20 x22) : Int).toNat (wrap64 ((rd x3 (rd x20 x22)) + 1))) x4 x12 x13 x14 x20 x21 (wrap64 (x22 + 1))) else (none)) else (some false)) else (none)) else (none)) else (some false))) else (none)) else (none)) else (impl_kidsOk.l0 k x0 x3 x12 x13 (wrap64 (x14 + 1)))
def impl_kidsOk.l2 : Nat → List (S53) → List Int → Int → Option (Bool)
 | 0, _, _, _ => none
 | k + 1, x0, x3, x8 => if x8 < (x0.length : Int) then (if 0 ≤ x8 then (if x8 < (x3.length : Int) then (if (rd x3 x8) = 1 then (impl_kidsOk.l2 k x0 x3 (wrap64 (x8 + 1))) else (some false)) else (none)) else (none)) else (some true)
end
def impl_kidsOk.f (k : Nat) (l0 : List (S53)) : Option (Bool) := if 0 ≤ (l0.length : Int) then (if ((l0.length : Int) : Int).toNat ≤ 35184372088832 then (impl_kidsOk.l0 k l0 (List.replicate ((l0.length : Int) : Int).toNat 0) l0 (l0.length : Int) 0) else (none)) else (none)
theorem impl_kidsOk.calls (k : Nat) (A0 : Option Addr) (c0 : Nat) (l0 : List (S53)) (r : Bool) (w : World) (hr0 : Kd.C k53 w A0 l0.length l0) (hc0 : l0.length ≤ c0) (h : impl_kidsOk.f k l0 = some r) :
  Calls Tryz.prog 92 #[.slice A0 l0.length c0] w fun e w' => e = .returned (.bool r) ∧ Below w.heap.size w w' := by
 have hu53 := Tryz.underlying53
 have HR0 := am hr0
 have HC0 := am hc0
 clear hr0 hc0
 have HB := am (Below.refl w.heap.size w)
 have H : (if 0 ≤ (l0.length : Int) then (if ((l0.length : Int) : Int).toNat ≤ 35184372088832 then (impl_kidsOk.l0 k l0 (List.replicate ((l0.length : Int) : Int).toNat 0) l0 (l0.length : Int) 0) else (none)) else (none)) = some r := h
 clear h
 by_cases c2 : 0 ≤ (l0.length : Int)
 case neg => rw [if_neg c2] at H; exact absurd H (by simp)
 rw [if_pos c2] at H
 have c2b0 := eq_true c2
 have c2b1 := decide_eq_true c2
 clear c2
 by_cases c3 : ((l0.length : Int) : Int).toNat ≤ 35184372088832
 case neg => rw [if_neg c3] at H; exact absurd H (by simp)
 rw [if_pos c3] at H
 have c3b0 := eq_true c3
 have c3b1 := decide_eq_true c3
 clear c3
 obtain ⟨y390, hy390⟩ : ∃ y_ : List Int, y_ = (List.replicate ((l0.length : Int) : Int).toNat 0) := ⟨_, rfl⟩
 replace H : (impl_kidsOk.l0 k l0 y390 l0 (l0.length : Int) 0) = some r := by first | (rw [hy390]; with_reducible exact H) | (have H2_ := (Option.bind_some _ _).symm.trans H; rw [hy390]; with_reducible exact H2_) | (have H2_ := (Option.bind_some _ _).symm.trans H; with_reducible exact H2_) | with_reducible exact H | (rw [hy390]; exact H) | exact H
 have Ny390 := am hy390
 clear hy390
 have H' := am H
 clear H
 go_enter Tryz.func92, Tryz.ntmps92
 go_wp2_with (first | ((with_reducible refine gate_dst (N := 11) rfl ?_); refine Kd.R_make (Kd.int .i64) _ 3 rfl (N := 11) rfl 23 _ _ rfl (l0.length : Int) rfl rfl Tryz.underlying23 (.int .i64 0) 8 info3 rfl (by decide) (by omega) 0 (ok := fun _ => True) (okp := fun _ => True) rfl (fun _ hk => hk) trivial (of_decide_eq_true ab4) (Nat.le_trans (Nat.mul_le_mul_right _ (of_decide_eq_true ab4 : (l0.length : Int).toNat ≤ 35184372088832)) (by omega)) (Below.refl _ _) (Nat.le_refl _) ?_; intro v391 w4 ho5 hb hg_ hnew_; clear hg_ hnew_; (first | rw [← Ny390.out] at ho5 | (simp only [Int.reduceToNat] at ho5; rw [← Ny390.out] at ho5)); have HO392 := am (Kd.R_lower ho5 (below_size ab1)); replace HB := am (below_step ab1 hb); clear hb ho5))
 go_loopg [14] k (fun kq v14 w' => ∃ (x3_1 : List Int) (x14_1 : Int), v14 = .int .i64 x14_1 ∧ Aside0 (impl_kidsOk.l0 kq l0 x3_1 l0 (l0.length : Int) x14_1 = some r) ∧ Aside0 (kq ≤ k) ∧ Aside0 (Kd.R (Kd.int .i64) 3 w' w.heap.size (fun _ => True) v391 x3_1) ∧ Aside0 (Below w.heap.size w w'))
 case atStart => exact ⟨(y390), (0), ab6, H', ⟨Nat.le_refl _⟩, ⟨ab8 HO392⟩, ⟨ab1⟩⟩
 case round =>
  clear H'
  (try clear c2); (try clear c2b0); (try clear c2b1); (try clear p2); (try clear c3); (try clear c3b0); (try clear c3b1)
  obtain ⟨x3_1, x14_1, rfl, HA, HK1, HO_3, HB⟩ := hrel
  cases gk with
  | zero => exact absurd HA.out (by simp [impl_kidsOk.l0])
  | succ k1 =>
   have H := HA.out
   clear HA
   simp only [impl_kidsOk.l0] at H
   replace H := ir_ H; rcases H with ⟨c6b0, H⟩ | ⟨c6b0, H⟩
   ·replace H := iq_ H; obtain ⟨c7b0, H⟩ := H
    replace H := iq_ H; obtain ⟨c8b0, H⟩ := H
    have H' := am H
    clear H
    obtain ⟨p393, q393, ad393, A393_3, c393_3, A393_6, c393_6, rfl, hx393_0, hx393_1, hx393_2, hx393_3, hx393_4, hx393_5, hx393_6, HC393_3, HR393_3, HC393_6, HR393_6⟩ := otT53 HB HR0.out x14_1 (of_decide_eq_true ab4) (of_decide_eq_true ab4)
    go_wp2_with (first | ((with_reducible refine gd_ 5 ?_); refine bx_ 5 (cs := #[.int .i64 0, .int .i64 0, .string (⟨#[]⟩ : ByteArray), .slice none 0 0, .string (⟨#[]⟩ : ByteArray), .int .i64 0, .slice none 0 0]) 53 ?_; intro gb394 hg w9 hbox hb; replace HO_3 := am (Kd.R_below (ab8 HO_3) hb); have BK394 := am hbox; have GW394 := ge_ (w := w) hg; have GE394 := ge_ (w := w) hg; replace HB := am (below_step ab1 hb); clear hb hbox hg; obtain ⟨⟨_, _, _, _, _, _, _⟩, _, _, _, _, _, _, _⟩ := Op.cells7 BK394.out))
    go_loopg [22] k1 (fun kq v22 w' => ∃ (x3_2 : List Int) (x22_2 : Int), v22 = .int .i64 x22_2 ∧ Aside0 (impl_kidsOk.l1 kq l0 x3_2 x14_1 l0 (l0.length : Int) x14_1 ((rd_T53 l0 x14_1).f6) (((rd_T53 l0 x14_1).f6).length : Int) x22_2 = some r) ∧ Aside0 (kq ≤ k1) ∧ Aside0 (Kd.R (Kd.int .i64) 3 w' w.heap.size (fun _ => True) v391 x3_2) ∧ Aside0 (w'.heap[gb394]? = some (.cells #[.int .i64 ((rd_T53 l0 x14_1).f0), .int .i64 ((rd_T53 l0 x14_1).f1), .string ((rd_T53 l0 x14_1).f2), (.slice A393_3 ((rd_T53 l0 x14_1).f3).length c393_3), .string ((rd_T53 l0 x14_1).f4), .int .i64 ((rd_T53 l0 x14_1).f5), (.slice A393_6 ((rd_T53 l0 x14_1).f6).length c393_6)] 53 (0, 0))) ∧ Aside0 (Below w.heap.size w w'))
    case atStart => exact ⟨(x3_1), (0), ab6, H', ⟨Nat.le_refl _⟩, ⟨by (with_reducible repeat (first | apply Kd.R_alloc | apply Kd.R_drewN | apply Kd.R_drew)); exact Kd.R_mono (Kd.R_far (p := ⟨gb394, 6, none⟩) (Kd.R_far (p := ⟨gb394, 5, none⟩) (Kd.R_far (p := ⟨gb394, 4, none⟩) (Kd.R_far (p := ⟨gb394, 3, none⟩) (Kd.R_far (p := ⟨gb394, 2, none⟩) (Kd.R_far (p := ⟨gb394, 1, none⟩) (Kd.R_far (p := ⟨gb394, 0, none⟩) (Kd.R_types HO_3.out BK394.out (by decide)) (fun _ hk => hk.2) (.int .i64 ((rd_T53 l0 x14_1).f0))) (fun _ hk => hk.2) (.int .i64 ((rd_T53 l0 x14_1).f1))) (fun _ hk => hk.2) (.string ((rd_T53 l0 x14_1).f2))) (fun _ hk => hk.2) (.slice A393_3 ((rd_T53 l0 x14_1).f3).length c393_3)) (fun _ hk => hk.2) (.string ((rd_T53 l0 x14_1).f4))) (fun _ hk => hk.2) (.int .i64 ((rd_T53 l0 x14_1).f5))) (fun _ hk => hk.2) (.slice A393_6 ((rd_T53 l0 x14_1).f6).length c393_6)) (fun _ hk => trivial)⟩, ⟨by (with_reducible repeat (first | refine blk_drewN ?_ _ | refine blk_drew ?_ | refine blk_alloc ?_ _)); refine blk_put (cs := #[.int .i64 ((rd_T53 l0 x14_1).f0), .int .i64 ((rd_T53 l0 x14_1).f1), .string ((rd_T53 l0 x14_1).f2), .slice A393_3 ((rd_T53 l0 x14_1).f3).length c393_3, .string ((rd_T53 l0 x14_1).f4), .int .i64 ((rd_T53 l0 x14_1).f5), .slice none 0 0]) ?_ 6 _ rfl; (with_reducible repeat (first | refine blk_drewN ?_ _ | refine blk_drew ?_ | refine blk_alloc ?_ _)); refine blk_put (cs := #[.int .i64 ((rd_T53 l0 x14_1).f0), .int .i64 ((rd_T53 l0 x14_1).f1), .string ((rd_T53 l0 x14_1).f2), .slice A393_3 ((rd_T53 l0 x14_1).f3).length c393_3, .string ((rd_T53 l0 x14_1).f4), .int .i64 0, .slice none 0 0]) ?_ 5 _ rfl; (with_reducible repeat (first | refine blk_drewN ?_ _ | refine blk_drew ?_ | refine blk_alloc ?_ _)); refine blk_put (cs := #[.int .i64 ((rd_T53 l0 x14_1).f0), .int .i64 ((rd_T53 l0 x14_1).f1), .string ((rd_T53 l0 x14_1).f2), .slice A393_3 ((rd_T53 l0 x14_1).f3).length c393_3, .string (⟨#[]⟩ : ByteArray), .int .i64 0, .slice none 0 0]) ?_ 4 _ rfl; (with_reducible repeat (first | refine blk_drewN ?_ _ | refine blk_drew ?_ | refine blk_alloc ?_ _)); refine blk_put (cs := #[.int .i64 ((rd_T53 l0 x14_1).f0), .int .i64 ((rd_T53 l0 x14_1).f1), .string ((rd_T53 l0 x14_1).f2), .slice none 0 0, .string (⟨#[]⟩ : ByteArray), .int .i64 0, .slice none 0 0]) ?_ 3 _ rfl; (with_reducible repeat (first | refine blk_drewN ?_ _ | refine blk_drew ?_ | refine blk_alloc ?_ _)); refine blk_put (cs := #[.int .i64 ((rd_T53 l0 x14_1).f0), .int .i64 ((rd_T53 l0 x14_1).f1), .string (⟨#[]⟩ : ByteArray), .slice none 0 0, .string (⟨#[]⟩ : ByteArray), .int .i64 0, .slice none 0 0]) ?_ 2 _ rfl; (with_reducible repeat (first | refine blk_drewN ?_ _ | refine blk_drew ?_ | refine blk_alloc ?_ _)); refine blk_put (cs := #[.int .i64 ((rd_T53 l0 x14_1).f0), .int .i64 0, .string (⟨#[]⟩ : ByteArray), .slice none 0 0, .string (⟨#[]⟩ : ByteArray), .int .i64 0, .slice none 0 0]) ?_ 1 _ rfl; (with_reducible repeat (first | refine blk_drewN ?_ _ | refine blk_drew ?_ | refine blk_alloc ?_ _)); refine blk_put (cs := #[.int .i64 0, .int .i64 0, .string (⟨#[]⟩ : ByteArray), .slice none 0 0, .string (⟨#[]⟩ : ByteArray), .int .i64 0, .slice none 0 0]) ?_ 0 _ rfl; (with_reducible repeat (first | refine blk_drewN ?_ _ | refine blk_drew ?_ | refine blk_alloc ?_ _)); exact BK394.out⟩, ⟨ab2 GE394⟩⟩
    case round =>
     clear H'
     (try clear c2); (try clear c2b0); (try clear c2b1); (try clear p2); (try clear c3); (try clear c3b0); (try clear c3b1); (try clear p3); (try clear q3); (try clear hx3); (try clear c6); (try clear c6b0); (try clear c7); (try clear c7b0); (try clear c8); (try clear c8b0); (try clear c9); (try clear hcz10_0); (try clear hcz10_1); (try clear hcz10_2); (try clear hcz10_3); (try clear hcz10_4); (try clear hcz10_5); (try clear hcz10_6); (try clear hfz10_0); (try clear hfz10_1); (try clear hfz10_2); (try clear hfz10_3); (try clear hfz10_4); (try clear hfz10_5); (try clear hfz10_6); (try clear hx393_0); (try clear hx393_1); (try clear hx393_2); (try clear hx393_3); (try clear hx393_4); (try clear hx393_5); (try clear hx393_6); (try clear p2); (try clear p393); (try clear q393)
     obtain ⟨x3_2, x22_2, rfl, HA, HK2, HO_3, BK394, HB⟩ := hrel
     cases gk with
     | zero => exact absurd HA.out (by simp [impl_kidsOk.l1])
     | succ k2 =>
      have H := HA.out
      clear HA
      simp only [impl_kidsOk.l1] at H
      replace H := ir_ H; rcases H with ⟨c11b0, H⟩ | ⟨c11b0, H⟩
      ·replace H := iq_ H; obtain ⟨c12b0, H⟩ := H
       replace H := iq_ H; obtain ⟨c13b0, H⟩ := H
       replace H := bi_ H; obtain ⟨t396, A14, H⟩ := H
       replace H := ib_ H; rcases H with ⟨rfl, H⟩ | ⟨rfl, H⟩
       ·replace H := iq_ H; obtain ⟨c16b0, H⟩ := H
        replace H := iq_ H; obtain ⟨c17b0, H⟩ := H
        replace H := ie_ H; rcases H with ⟨c18b0, c18b1, H⟩ | ⟨c18, c18b0, c18b1, H⟩
        ·replace H := iq_ H; obtain ⟨c19b0, H⟩ := H
         obtain ⟨y399, hy399⟩ : ∃ y_ : List Int, y_ = (x3_2.set ((rd ((rd_T53 l0 x14_1).f6) x22_2) : Int).toNat (wrap64 ((rd x3_2 (rd ((rd_T53 l0 x14_1).f6) x22_2)) + 1))) := ⟨_, rfl⟩
         replace H : (impl_kidsOk.l1 k2 l0 y399 x14_1 l0 (l0.length : Int) x14_1 ((rd_T53 l0 x14_1).f6) (((rd_T53 l0 x14_1).f6).length : Int) (wrap64 (x22_2 + 1))) = some r := by first | (rw [hy399]; with_reducible exact H) | (have H2_ := (Option.bind_some _ _).symm.trans H; rw [hy399]; with_reducible exact H2_) | (have H2_ := (Option.bind_some _ _).symm.trans H; with_reducible exact H2_) | with_reducible exact H | (rw [hy399]; exact H) | exact H
         have Ny399 := am hy399
         clear hy399
         have H' := am H
         clear H
         have p395 : 0 ≤ (x22_2 : Int) := of_decide_eq_true ab4
         have q395 : x22_2 < (((rd_T53 l0 x14_1).f6).length : Int) := of_decide_eq_true ab4
         obtain ⟨ad395, e395, hx395_0⟩ := Kd.at_int HR393_6.out x22_2 p395 q395
         cases e395
         replace hx395_0 := pc_ HB hx395_0
         replace p395 := eq_true p395
         replace q395 := eq_true q395
         go_wp2_with (first | ((with_reducible refine gf_ 87 ?_); refine gc_ Tryz.func87 (impl_inRange.calls (rd ((rd_T53 l0 x14_1).f6) x22_2) 1 (wrap64 ((l0.length : Int) - 1)) true _ A14.out) ?_; rintro w' ⟨nd, rfl⟩; (try (rw [drewN_self wr]; generalize hq_ : World.drewN wr _ = wr; have n0_ : Aside0 (Kd.R (Kd.int .i64) 3 wr w.heap.size (fun _ => True) v391 x3_2) := ⟨by rw [← hq_]; exact (ab8 HO_3)⟩; have n1_ : Aside0 (wr.heap[gb394]? = some (.cells #[.int .i64 ((rd_T53 l0 x14_1).f0), .int .i64 ((rd_T53 l0 x14_1).f1), .string ((rd_T53 l0 x14_1).f2), .slice A393_3 ((rd_T53 l0 x14_1).f3).length c393_3, .string ((rd_T53 l0 x14_1).f4), .int .i64 ((rd_T53 l0 x14_1).f5), .slice (some ad395) ((rd_T53 l0 x14_1).f6).length c393_6] 53 (0, 0))) := ⟨by rw [← hq_]; exact (ab3 BK394)⟩; have n2_ : Aside0 (Below w.heap.size w wr) := ⟨by rw [← hq_]; exact (ab2 GE394)⟩; clear HO_3 BK394 HB hq_; have HO_3 := n0_; have BK394 := n1_; have HB := n2_; clear n0_ n1_ n2_)); have p397 : 0 ≤ ((rd ((rd_T53 l0 x14_1).f6) x22_2) : Int) := of_decide_eq_true ab4; have q397 : (rd ((rd_T53 l0 x14_1).f6) x22_2) < (l0.length : Int) := of_decide_eq_true ab4; obtain ⟨ad397, A397_3, c397_3, A397_6, c397_6, e397, hx397_0, hx397_1, hx397_2, hx397_3, hx397_4, hx397_5, hx397_6, hl397_3, hi397_3, hl397_6, hi397_6⟩ := at_T53 HR0.out (rd ((rd_T53 l0 x14_1).f6) x22_2) p397 q397; obtain rfl : ad393 = ad397 := (by injection e397); replace hx397_0 := pc_ HB hx397_0; replace hx397_1 := pc_ HB hx397_1; replace hx397_2 := pc_ HB hx397_2; replace hx397_3 := pc_ HB hx397_3; replace hx397_4 := pc_ HB hx397_4; replace hx397_5 := pc_ HB hx397_5; replace hx397_6 := pc_ HB hx397_6; have HR397_3 := am hi397_3; have HC397_3 := am hl397_3; clear hi397_3 hl397_3; have HR397_6 := am hi397_6; have HC397_6 := am hl397_6; clear hi397_6 hl397_6; replace p397 := eq_true p397; replace q397 := eq_true q397; obtain ⟨Ao21, co21, eo21⟩ := Kd.R_slice HO_3.out; subst eo21; have p398 : 0 ≤ ((rd ((rd_T53 l0 x14_1).f6) x22_2) : Int) := of_decide_eq_true ab4; have q398 : (rd ((rd_T53 l0 x14_1).f6) x22_2) < (x3_2.length : Int) := of_decide_eq_true ab4; obtain ⟨ad398, e398, hx398_0⟩ := Kd.at_int (Kd.R_reads' HO_3.out).2.2 (rd ((rd_T53 l0 x14_1).f6) x22_2) p398 q398; cases e398; replace p398 := eq_true p398; replace q398 := eq_true q398; have p20 : 0 ≤ ((rd ((rd_T53 l0 x14_1).f6) x22_2) : Int) := of_decide_eq_true ab4; have q20 : ((rd ((rd_T53 l0 x14_1).f6) x22_2) : Int) < ((x3_2.length : Int) : Int) := of_decide_eq_true ab4; obtain ⟨go20, co20, eo20, gb20, gl20, cl20, HG20⟩ := Kd.R_form HO_3.out (by omega); (first | cases eo20 | (injection eo20 with ea_ en_ ec_; (first | subst ea_ | (injection ea_ with ea_; subst ea_)); subst ec_; clear en_)); have GB20 := am gb20; have GG20 := am HG20; clear gb20 gl20 HG20; (first | simp only [add_plain] at hx398_0 | skip); obtain ⟨hx20_0, hf20_0⟩ := Kd.R_celln 0 HO_3.out ((rd ((rd_T53 l0 x14_1).f6) x22_2) : Int) p20 q20; replace p20 := eq_true p20; replace q20 := eq_true q20; obtain ⟨hy22_, hz22_⟩ := Kd.R_celln 0 HO_3.out ((rd ((rd_T53 l0 x14_1).f6) x22_2) : Int) (of_decide_eq_true ab4) (of_decide_eq_true ab4); have HP22 := Kd.R_putg HO_3.out ((rd ((rd_T53 l0 x14_1).f6) x22_2) : Int) (wrap64 ((rd x3_2 (rd ((rd_T53 l0 x14_1).f6) x22_2)) + 1))) | ((with_reducible refine gate_store (t := 3) (p := 46) rfl ?_); refine store_event (t := 3) (p := 46) (v := ?vo_w23) (w1 := (wr.setCell ⟨go20, ((rd ((rd_T53 l0 x14_1).f6) x22_2) : Int).toNat, none⟩ (.int .i64 (wrap64 ((rd x3_2 (rd ((rd_T53 l0 x14_1).f6) x22_2)) + 1))))) ?hg ?ho ?hn ?hr ?_; (case ho => rfl); (case hg => rfl); (case hn => rfl); (case hr => first | (go_simp; done) | (go_simp; rfl)); intro w23 hw; have hg : wr.grownBy w23 (some go20) := (by rw [hw]; exact HP22.2); have hp_ : Kd.R (Kd.int .i64) 3 w23 w.heap.size (fun _ => True) (.slice (some ⟨go20, 0, none⟩) x3_2.length co21) y399 := (by rw [hw, Ny399.out]; exact HP22.1); clear HP22; replace BK394 := bg_ BK394 hg (Kd.R_ne HO_3.out BK394.out (by decide)); replace HO_3 := am hp_; replace HB := am ((by rw [hw]; exact below_set (HB.out) GB20.out : Below w.heap.size w w23)); clear hg hw hp_))
         go_roundg k2
         case measure => have := HK1.out; have := HK2.out; omega
         case rel => exact ⟨(y399), (wrap64 (x22_2 + 1)), ab6, H', ⟨by have := HK1.out; have := HK2.out; omega⟩, ⟨ab8 HO_3⟩, ⟨ab3 BK394⟩, ⟨ab2 GE394⟩⟩
        ·obtain rfl := Option.some.inj H
         have p395 : 0 ≤ (x22_2 : Int) := of_decide_eq_true ab4
         have q395 : x22_2 < (((rd_T53 l0 x14_1).f6).length : Int) := of_decide_eq_true ab4
         obtain ⟨ad395, e395, hx395_0⟩ := Kd.at_int HR393_6.out x22_2 p395 q395
         cases e395
         replace hx395_0 := pc_ HB hx395_0
         replace p395 := eq_true p395
         replace q395 := eq_true q395
         go_wp2_with (first | ((with_reducible refine gf_ 87 ?_); refine gc_ Tryz.func87 (impl_inRange.calls (rd ((rd_T53 l0 x14_1).f6) x22_2) 1 (wrap64 ((l0.length : Int) - 1)) true _ A14.out) ?_; rintro w' ⟨nd, rfl⟩; have p397 : 0 ≤ ((rd ((rd_T53 l0 x14_1).f6) x22_2) : Int) := of_decide_eq_true ab4; have q397 : (rd ((rd_T53 l0 x14_1).f6) x22_2) < (l0.length : Int) := of_decide_eq_true ab4; obtain ⟨ad397, A397_3, c397_3, A397_6, c397_6, e397, hx397_0, hx397_1, hx397_2, hx397_3, hx397_4, hx397_5, hx397_6, hl397_3, hi397_3, hl397_6, hi397_6⟩ := at_T53 HR0.out (rd ((rd_T53 l0 x14_1).f6) x22_2) p397 q397; obtain rfl : ad393 = ad397 := (by injection e397); replace hx397_0 := pc_ HB hx397_0; replace hx397_1 := pc_ HB hx397_1; replace hx397_2 := pc_ HB hx397_2; replace hx397_3 := pc_ HB hx397_3; replace hx397_4 := pc_ HB hx397_4; replace hx397_5 := pc_ HB hx397_5; replace hx397_6 := pc_ HB hx397_6; have HR397_3 := am hi397_3; have HC397_3 := am hl397_3; clear hi397_3 hl397_3; have HR397_6 := am hi397_6; have HC397_6 := am hl397_6; clear hi397_6 hl397_6; replace p397 := eq_true p397; replace q397 := eq_true q397))
         go_ret
         exact ⟨ab7, ab2 GE394⟩
       ·obtain rfl := Option.some.inj H
        have p395 : 0 ≤ (x22_2 : Int) := of_decide_eq_true ab4
        have q395 : x22_2 < (((rd_T53 l0 x14_1).f6).length : Int) := of_decide_eq_true ab4
        obtain ⟨ad395, e395, hx395_0⟩ := Kd.at_int HR393_6.out x22_2 p395 q395
        cases e395
        replace hx395_0 := pc_ HB hx395_0
        replace p395 := eq_true p395
        replace q395 := eq_true q395
        go_wp2_with (first | ((with_reducible refine gf_ 87 ?_); refine gc_ Tryz.func87 (impl_inRange.calls (rd ((rd_T53 l0 x14_1).f6) x22_2) 1 (wrap64 ((l0.length : Int) - 1)) false _ A14.out) ?_; rintro w' ⟨nd, rfl⟩))
        go_ret
        exact ⟨ab7, ab2 GE394⟩
      ·have H' := am H
       clear H
       go_wp2
       go_roundg k2
       case measure => have := HK1.out; have := HK2.out; omega
       case rel => exact ⟨(x3_2), (wrap64 (x14_1 + 1)), ab6, H', ⟨by have := HK1.out; have := HK2.out; omega⟩, ⟨ab8 HO_3⟩, ⟨ab2 GE394⟩⟩
   ·have H' := am H
    clear H
    go_wp2
    go_loopg [8] k1 (fun kq v8 w' => ∃ (x8_2 : Int), v8 = .int .i64 x8_2 ∧ Aside0 (impl_kidsOk.l2 kq l0 x3_1 x8_2 = some r) ∧ Aside0 (kq ≤ k1) ∧ Aside0 (Kd.R (Kd.int .i64) 3 w' w.heap.size (fun _ => True) v391 x3_1) ∧ Aside0 (Below w.heap.size w w'))
    case atStart => exact ⟨(1), ab6, H', ⟨Nat.le_refl _⟩, ⟨ab8 HO_3⟩, ⟨ab1⟩⟩
    case round =>
     clear H'
     (try clear c1); (try clear c2); (try clear c2b0); (try clear c2b1); (try clear p2); (try clear q2); (try clear hx2); (try clear hf2); (try clear c3); (try clear c3b0); (try clear c3b1); (try clear p3); (try clear q3); (try clear hx3); (try clear c6); (try clear c6b0); (try clear p6); (try clear c7); (try clear c7b0); (try clear c8); (try clear c8b0); (try clear c9); (try clear c11); (try clear c11b0); (try clear c12); (try clear c12b0); (try clear c13); (try clear c13b0); (try clear c15); (try clear c16); (try clear c16b0); (try clear c17); (try clear c17b0); (try clear c18); (try clear c18b0); (try clear c18b1); (try clear c19); (try clear c19b0); (try clear p20); (try clear q20); (try clear hx20); (try clear hf20); (try clear hcz10_0); (try clear hcz10_1); (try clear hcz10_2); (try clear hcz10_3); (try clear hcz10_4); (try clear hcz10_5); (try clear hcz10_6); (try clear hfz10_0); (try clear hfz10_1); (try clear hfz10_2); (try clear hfz10_3); (try clear hfz10_4); (try clear hfz10_5); (try clear hfz10_6); (try clear hx20_0); (try clear hx393_0); (try clear hx393_1); (try clear hx393_2); (try clear hx393_3); (try clear hx393_4); (try clear hx393_5); (try clear hx393_6); (try clear hx395_0); (try clear hx397_0); (try clear hx397_1); (try clear hx397_2); (try clear hx397_3); (try clear hx397_4); (try clear hx397_5); (try clear hx397_6); (try clear hx398_0); (try clear p2); (try clear p20); (try clear p3); (try clear p393); (try clear p395); (try clear p397); (try clear p398); (try clear q20); (try clear q3); (try clear q393); (try clear q395); (try clear q397); (try clear q398)
     obtain ⟨x8_2, rfl, HA, HK2, HO_3, HB⟩ := hrel
     cases gk with
     | zero => exact absurd HA.out (by simp [impl_kidsOk.l2])
     | succ k2 =>
      have H := HA.out
      clear HA
      simp only [impl_kidsOk.l2] at H
      replace H := ir_ H; rcases H with ⟨c24b0, H⟩ | ⟨c24b0, H⟩
      ·replace H := iq_ H; obtain ⟨c25b0, H⟩ := H
       replace H := iq_ H; obtain ⟨c26b0, H⟩ := H
       replace H := ie_ H; rcases H with ⟨c27b0, c27b1, H⟩ | ⟨c27, c27b0, c27b1, H⟩
       ·have H' := am H
        clear H
        obtain ⟨Ao28, co28, eo28⟩ := Kd.R_slice HO_3.out
        subst eo28
        have p400 : 0 ≤ (x8_2 : Int) := of_decide_eq_true ab4
        have q400 : x8_2 < (x3_1.length : Int) := of_decide_eq_true ab4
        obtain ⟨ad400, e400, hx400_0⟩ := Kd.at_int (Kd.R_reads' HO_3.out).2.2 x8_2 p400 q400
        cases e400
        replace p400 := eq_true p400
        replace q400 := eq_true q400
        go_wp2
        go_roundg k2
        case measure => have := HK1.out; have := HK2.out; omega
        case rel => exact ⟨(wrap64 (x8_2 + 1)), ab6, H', ⟨by have := HK1.out; have := HK2.out; omega⟩, ⟨ab8 HO_3⟩, ⟨ab1⟩⟩
       ·obtain rfl := Option.some.inj H
        obtain ⟨Ao29, co29, eo29⟩ := Kd.R_slice HO_3.out
        subst eo29
        have p400 : 0 ≤ (x8_2 : Int) := of_decide_eq_true ab4
        have q400 : x8_2 < (x3_1.length : Int) := of_decide_eq_true ab4
        obtain ⟨ad400, e400, hx400_0⟩ := Kd.at_int (Kd.R_reads' HO_3.out).2.2 x8_2 p400 q400
        cases e400
        replace p400 := eq_true p400
        replace q400 := eq_true q400
        go_wp2
        go_ret
        exact ⟨ab7, ab1⟩
      ·obtain rfl := Option.some.inj H
       go_wp2
       go_ret
       exact ⟨ab7, ab1⟩
mutual
def impl_order.l0 : Nat → List (S53) → List Int → List Int → Option (List Int)
 | 0, _, _, _ => none
 | k + 1, x0, x3, x4 => if (x4.length : Int) > 0 then (if 0 ≤ (wrap64 ((x4.length : Int) - 1)) then (if (wrap64 ((x4.length : Int) - 1)) < (x4.length : Int) then (if (wrap64 ((x4.length : Int) - 1)) ≤ (x4.length : Int) then (if x3.length < 17592186044416 then (if 0 ≤ (rd x4 (wrap64 ((x4.length : Int) - 1))) then (if (rd x4 (wrap64 ((x4.length : Int) - 1))) < (x0.length : Int) then (impl_order.l1 k x0 (x3 ++ [rd x4 (wrap64 ((x4.length : Int) - 1))]) (x4.take ((wrap64 ((x4.length : Int) - 1)) : Int).toNat) (rd x4 (wrap64 ((x4.length : Int) - 1))) (wrap64 ((((rd_T53 x0 (rd x4 (wrap64 ((x4.length : Int) - 1)))).f6).length : Int) - 1))) else (none)) else (none)) else (none)) else (none)) else (none)) else (none)) else (some x3)
def impl_order.l1 : Nat → List (S53) → List Int → List Int → Int → Int → Option (List Int)
 | 0, _, _, _, _, _ => none
 | k + 1, x0, x3, x4, x6, x7 => if x7 ≥ 0 then (if 0 ≤ x6 then (if x6 < (x0.length : Int) then (if 0 ≤ x7 then (if x7 < (((rd_T53 x0 x6).f6).length : Int) then (if x4.length < 17592186044416 then (impl_order.l1 k x0 x3 (x4 ++ [rd ((rd_T53 x0 x6).f6) x7]) x6 (wrap64 (x7 - 1))) else (none)) else (none)) else (none)) else (none)) else (none)) else (impl_order.l0 k x0 x3 x4)
end
def impl_order.f (k : Nat) (l0 : List (S53)) : Option (List Int) := impl_order.l0 k l0 ([] : List Int) (([0] : List Int))
theorem impl_order.calls (k : Nat) (A0 : Option Addr) (c0 : Nat) (l0 : List (S53)) (r : List Int) (w : World) (hr0 : Kd.C k53 w A0 l0.length l0) (hc0 : l0.length ≤ c0) (h : impl_order.f k l0 = some r) :
  Calls Tryz.prog 93 #[.slice A0 l0.length c0] w fun e w' => ∃ v0_ : Value, e = .returned (v0_) ∧ Kd.R (Kd.int .i64) 3 w' w.heap.size (fun _ => True) v0_ r ∧ Below w.heap.size w w' := by
 have HR0 := am hr0
 have HC0 := am hc0
 clear hr0 hc0
 have HB := am (Below.refl w.heap.size w)
 have H : (impl_order.l0 k l0 ([] : List Int) (([0] : List Int))) = some r := h
 clear h
 obtain ⟨y401, hy401⟩ : ∃ y_ : List Int, y_ = (([0] : List Int)) := ⟨_, rfl⟩
 replace H : (impl_order.l0 k l0 ([] : List Int) y401) = some r := by first | (rw [hy401]; with_reducible exact H) | (have H2_ := (Option.bind_some _ _).symm.trans H; rw [hy401]; with_reducible exact H2_) | (have H2_ := (Option.bind_some _ _).symm.trans H; with_reducible exact H2_) | with_reducible exact H | (rw [hy401]; exact H) | exact H
 have Ny401 := am hy401
 clear hy401
 have H' := am H
 clear H
 go_enter Tryz.func93, Tryz.ntmps93
 go_wp2_with (first | ((with_reducible refine gate_dst (N := 8) rfl ?_); refine Kd.R_lit (Kd.int .i64) _ 3 ?hg (N := 8) ?hd (xs := ([0] : List Int)) (inner := [.int .i64 0]) (ok := fun _ => True) (okp := fun _ => True) ?hr ?hp (fun _ hk => hk) trivial (Below.refl _ _) (Nat.le_refl _) (by simp) ?_; (case hd => rfl); (case hg => rfl); (case hr => first | (go_simp; done) | (go_simp; rfl)); (case hp => exact (Reps.one (show Kd.M (Kd.int .i64) _ _ _ 0 [.int .i64 0] from rfl) (Reps.none _ _))); intro v402 w2 ho3 hb hg_ hnew_; clear hg_ hnew_; (first | rw [← Ny401.out] at ho3 | (simp only [Int.reduceToNat] at ho3; rw [← Ny401.out] at ho3)); have HO403 := am (Kd.R_lower ho3 (below_size ab1)); replace HB := am (below_step ab1 hb); clear hb ho3))
 go_loopg [3, 4] k (fun kq v3 v4 w' => ∃ (x3_1 : List Int) (x4_1 : List Int), Aside0 (impl_order.l0 kq l0 x3_1 x4_1 = some r) ∧ Aside0 (kq ≤ k) ∧ Aside0 (Kd.R (Kd.int .i64) 3 w' w.heap.size (fun k_ => some k_ ≠ (v4 : Value).ownBlock) v3 x3_1) ∧ Aside0 (Kd.R (Kd.int .i64) 3 w' w.heap.size (fun k_ => some k_ ≠ (v3 : Value).ownBlock) v4 x4_1) ∧ Aside0 (Below w.heap.size w w'))
 case atStart => exact ⟨(([] : List Int)), (y401), H', ⟨Nat.le_refl _⟩, ⟨by first | exact Kd.R_nil _ _ _ _ _ | exact Kd.N_nil _ _ _ _ _ | exact Kd.V_nil _ _ _ _ _ | exact Kd.Q_nil _ _ _ _ _ | exact Kd.S_nil _ _ _ _ _⟩, ⟨by (with_reducible repeat (first | apply Kd.R_alloc | apply Kd.R_drewN | apply Kd.R_drew)); exact Kd.R_mono HO403.out (fun _ hk => (by simp [Value.ownBlock]))⟩, ⟨ab1⟩⟩
 case round =>
  clear H'
  try clear p2
  obtain ⟨x3_1, x4_1, HA, HK1, HO_3, HO_4, HB⟩ := hrel
  cases gk with
  | zero => exact absurd HA.out (by simp [impl_order.l0])
  | succ k1 =>
   have H := HA.out
   clear HA
   simp only [impl_order.l0] at H
   by_cases c4 : (x4_1.length : Int) > 0
   ·rw [if_pos c4] at H
    have c4b0 : decide (0 < (x4_1.length : Int)) = true := decide_eq_true c4
    have c4b1 : decide (0 < x4_1.length) = true := decide_eq_true (by omega)
    clear c4
    obtain ⟨ji5, hji5⟩ : ∃ j_ : Int, (wrap64 ((x4_1.length : Int) - 1)) = j_ := ⟨_, rfl⟩
    replace H : (if 0 ≤ (ji5) then (if (ji5) < (x4_1.length : Int) then (if (ji5) ≤ (x4_1.length : Int) then (if x3_1.length < 17592186044416 then (if 0 ≤ (rd x4_1 (ji5)) then (if (rd x4_1 (ji5)) < (l0.length : Int) then (impl_order.l1 k1 l0 (x3_1 ++ [rd x4_1 (ji5)]) (x4_1.take ((ji5) : Int).toNat) (rd x4_1 (ji5)) (wrap64 ((((rd_T53 l0 (rd x4_1 (ji5))).f6).length : Int) - 1))) else (none)) else (none)) else (none)) else (none)) else (none)) else (none)) = some r := by first | (rw [hji5] at H; exact H) | (simp only [hji5] at H ⊢; exact H)
    have hji5w : (IntKind.i64.wrap ((x4_1.length : Int) - 1)) = ji5 := (i64_w _).trans hji5
    replace H := iq_ H; obtain ⟨c6b0, H⟩ := H
    replace H := iq_ H; obtain ⟨c7b0, H⟩ := H
    by_cases c8 : (ji5) ≤ (x4_1.length : Int)
    case neg => rw [if_neg c8] at H; exact absurd H (by simp)
    rw [if_pos c8] at H
    have c8b0 := eq_true c8
    have c8b1 := decide_eq_true c8
    clear c8
    obtain ⟨y405, hy405⟩ : ∃ y_ : List Int, y_ = (x4_1.take ((ji5) : Int).toNat) := ⟨_, rfl⟩
    replace H : (if x3_1.length < 17592186044416 then (if 0 ≤ (rd x4_1 (ji5)) then (if (rd x4_1 (ji5)) < (l0.length : Int) then (impl_order.l1 k1 l0 (x3_1 ++ [rd x4_1 (ji5)]) y405 (rd x4_1 (ji5)) (wrap64 ((((rd_T53 l0 (rd x4_1 (ji5))).f6).length : Int) - 1))) else (none)) else (none)) else (none)) = some r := by first | (rw [hy405]; with_reducible exact H) | (have H2_ := (Option.bind_some _ _).symm.trans H; rw [hy405]; with_reducible exact H2_) | (have H2_ := (Option.bind_some _ _).symm.trans H; with_reducible exact H2_) | with_reducible exact H | (rw [hy405]; exact H) | exact H
    have Ny405 := am hy405
    clear hy405
    by_cases c9 : x3_1.length < 17592186044416
    case neg => rw [if_neg c9] at H; exact absurd H (by simp)
    rw [if_pos c9] at H
    have LMc9 := am c9
    clear c9
    obtain ⟨y408, hy408⟩ : ∃ y_ : List Int, y_ = (x3_1 ++ [rd x4_1 (ji5)]) := ⟨_, rfl⟩
    replace H : (if 0 ≤ (rd x4_1 (ji5)) then (if (rd x4_1 (ji5)) < (l0.length : Int) then (impl_order.l1 k1 l0 y408 y405 (rd x4_1 (ji5)) (wrap64 ((((rd_T53 l0 (rd x4_1 (ji5))).f6).length : Int) - 1))) else (none)) else (none)) = some r := by first | (rw [hy408]; with_reducible exact H) | (have H2_ := (Option.bind_some _ _).symm.trans H; rw [hy408]; with_reducible exact H2_) | (have H2_ := (Option.bind_some _ _).symm.trans H; with_reducible exact H2_) | with_reducible exact H | (rw [hy408]; exact H) | exact H
    have Ny408 := am hy408
    clear hy408
    replace H := iq_ H; obtain ⟨c10b0, H⟩ := H
    replace H := iq_ H; obtain ⟨c11b0, H⟩ := H
    have H' := am H
    clear H
    obtain ⟨Ao12, co12, eo12⟩ := Kd.R_slice HO_4.out
    subst eo12
    have p404 : 0 ≤ ((ji5) : Int) := of_decide_eq_true ab4
    have q404 : (ji5) < (x4_1.length : Int) := of_decide_eq_true ab4
    obtain ⟨ad404, e404, hx404_0⟩ := Kd.at_int (Kd.R_reads' HO_4.out).2.2 (ji5) p404 q404
    cases e404
    replace p404 := eq_true p404
    replace q404 := eq_true q404
    have q13 : ((ji5) : Int) ≤ ((x4_1.length : Int) : Int) := of_decide_eq_true ab4
    obtain ⟨i013, hi013, _, hsz13, _⟩ := info_parts info3
    have hcut13 := cut_to (P := Tryz.prog) 23 3 .i64 Tryz.underlying23 hi013 (some ad404) x4_1.length co12 (ji5) (of_decide_eq_true ab4) q13 (Kd.R_reads' HO_4.out).2.1
    have hr13 := Kd.R_take (m := ((ji5) : Int).toNat) HO_4.out (by omega)
    have hy13 : y405.length = ((ji5) : Int).toNat := (by rw [Ny405.out, List.length_take]; omega)
    rw [← Ny405.out] at hr13
    rw [← hy13] at hr13 hcut13
    clear hy13 hi013 hsz13 HO_4
    have HO407 := am hr13
    clear hr13
    replace q13 := eq_true q13
    go_wp2_with (first | ((with_reducible refine gate_builtin (b := .append) (xs := #[.tmp 22, .tmp 24]) rfl ?_); at_builtin; refine Kd.R_append (Kd.int .i64) (w0 := w) w.heap.size rfl (.tmp 22) (.tmp 24) 23 3 (.int .i64 0) 8 rfl Tryz.underlying23 info3 rfl (by decide) (by omega) u3 x3_1 (rd x4_1 (ji5)) [.int .i64 (rd x4_1 (ji5))] (fun k_ => some k_ ≠ (.slice (some ad404) y405.length co12 : Value).ownBlock) (fun _ => False) rfl rfl ?aP (fun _ hk => hk.elim) ?aF ?aO ?aB ?aS ?aL ?_; (case aP => exact rfl); (case aB => exact ab1); (case aF => exact (fun k_ hk => Kd.fresh' (Kd.R_lt (ab8 HO407)) k_ hk)); (case aO => exact (ab8 HO_3)); (case aS => exact (below_size ab1)); (case aL => have := LMc9.out; omega); intro v409 w14 ho hb hg hat; rw [← Ny408.out] at ho; replace HO407 := am (Kd.R_after (ok := (fun _ => True)) (by (with_reducible repeat (first | apply Kd.R_alloc | apply Kd.R_drewN | apply Kd.R_drew)); exact Kd.R_mono HO407.out (fun _ hk => ⟨trivial, hk⟩)) hg hat); replace HB := am hb; have HO410 := am ho; clear HO_3; clear ho hb hg hat; have p411 : 0 ≤ ((rd x4_1 (ji5)) : Int) := of_decide_eq_true ab4; have q411 : (rd x4_1 (ji5)) < (l0.length : Int) := of_decide_eq_true ab4; obtain ⟨ad411, A411_3, c411_3, A411_6, c411_6, e411, hx411_0, hx411_1, hx411_2, hx411_3, hx411_4, hx411_5, hx411_6, hl411_3, hi411_3, hl411_6, hi411_6⟩ := at_T53 HR0.out (rd x4_1 (ji5)) p411 q411; cases e411; replace hx411_0 := pc_ HB hx411_0; replace hx411_1 := pc_ HB hx411_1; replace hx411_2 := pc_ HB hx411_2; replace hx411_3 := pc_ HB hx411_3; replace hx411_4 := pc_ HB hx411_4; replace hx411_5 := pc_ HB hx411_5; replace hx411_6 := pc_ HB hx411_6; have HR411_3 := am hi411_3; have HC411_3 := am hl411_3; clear hi411_3 hl411_3; have HR411_6 := am hi411_6; have HC411_6 := am hl411_6; clear hi411_6 hl411_6; replace p411 := eq_true p411; replace q411 := eq_true q411))
    go_loopg [4, 7] k1 (fun kq v4 v7 w' => ∃ (x4_2 : List Int) (x7_2 : Int), v7 = .int .i64 x7_2 ∧ Aside0 (impl_order.l1 kq l0 y408 x4_2 (rd x4_1 (ji5)) x7_2 = some r) ∧ Aside0 (kq ≤ k1) ∧ Aside0 (Kd.R (Kd.int .i64) 3 w' w.heap.size (fun k_ => some k_ ≠ (v4 : Value).ownBlock) v409 y408) ∧ Aside0 (Kd.R (Kd.int .i64) 3 w' w.heap.size (fun k_ => some k_ ≠ (v409 : Value).ownBlock) v4 x4_2) ∧ Aside0 (Below w.heap.size w w'))
    case atStart => exact ⟨(y405), (wrap64 ((((rd_T53 l0 (rd x4_1 (ji5))).f6).length : Int) - 1)), (by first | rfl | (simp; done) | (simp only [← hji5] <;> (first | rfl | simp)) | (simp [*]; done)), H', ⟨Nat.le_refl _⟩, ⟨ab8 HO410⟩, ⟨by (with_reducible repeat (first | apply Kd.R_alloc | apply Kd.R_drewN | apply Kd.R_drew)); exact Kd.R_mono HO407.out (fun _ hk => hk.2)⟩, ⟨ab1⟩⟩
    case round =>
     clear H'
     (try clear c1); (try clear q1); (try clear p2); (try clear c4); (try clear c4b0); (try clear c4b1); (try clear p4); (try clear q4); (try clear hx4); (try clear c6); (try clear c6b0); (try clear p6); (try clear c7); (try clear c7b0); (try clear c8); (try clear c8b0); (try clear c8b1); (try clear c9); (try clear c10); (try clear c10b0); (try clear c11); (try clear c11b0); (try clear q13); (try clear hx404_0); (try clear hx411_0); (try clear hx411_1); (try clear hx411_2); (try clear hx411_3); (try clear hx411_4); (try clear hx411_5); (try clear hx411_6); (try clear p2); (try clear p404); (try clear p411); (try clear q13); (try clear q404); (try clear q411)
     obtain ⟨x4_2, x7_2, rfl, HA, HK2, HO_3, HO_4, HB⟩ := hrel
     cases gk with
     | zero => exact absurd HA.out (by simp [impl_order.l1])
     | succ k2 =>
      have H := HA.out
      clear HA
      simp only [impl_order.l1] at H
      by_cases c15 : x7_2 ≥ 0
      ·rw [if_pos c15] at H
       have c15b0 : decide (0 ≤ x7_2) = true := decide_eq_true c15
       clear c15
       replace H := iq_ H; obtain ⟨c16b0, H⟩ := H
       replace H := iq_ H; obtain ⟨c17b0, H⟩ := H
       replace H := iq_ H; obtain ⟨c18b0, H⟩ := H
       replace H := iq_ H; obtain ⟨c19b0, H⟩ := H
       by_cases c20 : x4_2.length < 17592186044416
       case neg => rw [if_neg c20] at H; exact absurd H (by simp)
       rw [if_pos c20] at H
       have LMc20 := am c20
       clear c20
       obtain ⟨y414, hy414⟩ : ∃ y_ : List Int, y_ = (x4_2 ++ [rd ((rd_T53 l0 (rd x4_1 (ji5))).f6) x7_2]) := ⟨_, rfl⟩
       replace H : (impl_order.l1 k2 l0 y408 y414 (rd x4_1 (ji5)) (wrap64 (x7_2 - 1))) = some r := by first | (rw [hy414]; with_reducible exact H) | (have H2_ := (Option.bind_some _ _).symm.trans H; rw [hy414]; with_reducible exact H2_) | (have H2_ := (Option.bind_some _ _).symm.trans H; with_reducible exact H2_) | with_reducible exact H | (rw [hy414]; exact H) | exact H
       have Ny414 := am hy414
       clear hy414
       have H' := am H
       clear H
       obtain ⟨p412, q412, A412_3, c412_3, A412_6, c412_6, hx412_0, hx412_1, hx412_2, hx412_3, hx412_4, hx412_5, hx412_6, HC412_3, HR412_3, HC412_6, HR412_6⟩ := agT53 HB HR0.out (rd x4_1 (ji5)) (of_decide_eq_true ab4) (of_decide_eq_true ab4)
       have p413 : 0 ≤ (x7_2 : Int) := of_decide_eq_true ab4
       have q413 : x7_2 < (((rd_T53 l0 (rd x4_1 (ji5))).f6).length : Int) := of_decide_eq_true ab4
       obtain ⟨ad413, e413, hx413_0⟩ := Kd.at_int HR412_6.out x7_2 p413 q413
       cases e413
       replace hx413_0 := pc_ HB hx413_0
       replace p413 := eq_true p413
       replace q413 := eq_true q413
       go_wp2_with (first | ((with_reducible refine gate_builtin (b := .append) (xs := #[.tmp 37, .tmp 46]) rfl ?_); at_builtin; refine Kd.R_append (Kd.int .i64) (w0 := w) w.heap.size rfl (.tmp 37) (.tmp 46) 23 3 (.int .i64 0) 8 rfl Tryz.underlying23 info3 rfl (by decide) (by omega) u4 x4_2 (rd ((rd_T53 l0 (rd x4_1 (ji5))).f6) x7_2) [.int .i64 (rd ((rd_T53 l0 (rd x4_1 (ji5))).f6) x7_2)] (fun k_ => some k_ ≠ (v409 : Value).ownBlock) (fun _ => False) rfl rfl ?aP (fun _ hk => hk.elim) ?aF ?aO ?aB ?aS ?aL ?_; (case aP => exact rfl); (case aB => exact ab1); (case aF => exact (fun k_ hk => Kd.fresh' (Kd.R_lt (ab8 HO_3)) k_ hk)); (case aO => exact (ab8 HO_4)); (case aS => exact (below_size ab1)); (case aL => have := LMc20.out; omega); intro v415 w21 ho hb hg hat; rw [← Ny414.out] at ho; replace HO_3 := am (Kd.R_after (ok := (fun _ => True)) (by (with_reducible repeat (first | apply Kd.R_alloc | apply Kd.R_drewN | apply Kd.R_drew)); exact Kd.R_mono HO_3.out (fun _ hk => ⟨trivial, hk⟩)) hg hat); replace HB := am hb; have HO416 := am ho; clear HO_4; clear ho hb hg hat))
       go_roundg k2
       case measure => have := HK1.out; have := HK2.out; omega
       case rel => exact ⟨(y414), (wrap64 (x7_2 - 1)), ab6, H', ⟨by have := HK1.out; have := HK2.out; omega⟩, ⟨by (with_reducible repeat (first | apply Kd.R_alloc | apply Kd.R_drewN | apply Kd.R_drew)); exact Kd.R_mono HO_3.out (fun _ hk => hk.2)⟩, ⟨ab8 HO416⟩, ⟨ab1⟩⟩
      ·rw [if_neg c15] at H
       have c15b0 : decide (0 ≤ x7_2) = false := decide_eq_false c15
       clear c15
       have H' := am H
       clear H
       go_wp2
       go_roundg k2
       case measure => have := HK1.out; have := HK2.out; omega
       case rel => exact ⟨(y408), (x4_2), H', ⟨by have := HK1.out; have := HK2.out; omega⟩, ⟨ab8 HO_3⟩, ⟨ab8 HO_4⟩, ⟨ab1⟩⟩
   ·rw [if_neg c4] at H
    have c4b0 : decide (0 < (x4_1.length : Int)) = false := decide_eq_false c4
    have c4b1 : decide (0 < x4_1.length) = false := decide_eq_false (by omega)
    clear c4
    obtain rfl := Option.some.inj H
    obtain ⟨Ao22, co22, eo22⟩ := Kd.R_slice HO_4.out
    subst eo22
    go_wp2
    go_ret
    exact ⟨_, ab7, by (with_reducible repeat (first | apply Kd.R_alloc | apply Kd.R_drewN | apply Kd.R_drew)); exact Kd.R_mono HO_3.out (fun _ hk => trivial), ab1⟩
mutual
def impl_TreeOk.j0 : Nat → List (S53) → Bool → Option (Bool)
 | 0, _, _ => none
 | k + 1, x0, x15 => if x15 = true then (some false) else (if 1 ≤ (x0.length : Int) then ((some (x0.drop 1 : List (S53))).bind fun y420 => (impl_TreeOk.l0 k x0 y420 (y420.length : Int) 0)) else (none))
def impl_TreeOk.l0 : Nat → List (S53) → List (S53) → Int → Int → Option (Bool)
 | 0, _, _, _, _ => none
 | k + 1, x0, x17, x18, x19 => if x19 < x18 then (if 0 ≤ x19 then (if x19 < (x17.length : Int) then ((impl_itemOk.f k ((rd_T53 x17 x19).f0) ((rd_T53 x17 x19).f1) ((rd_T53 x17 x19).f2) ((rd_T53 x17 x19).f3) ((rd_T53 x17 x19).f4) ((rd_T53 x17 x19).f5) ((rd_T53 x17 x19).f6)).bind fun t430 => (if t430 = true then ((impl_inRange.f ((rd_T53 x17 x19).f5) 0 (wrap64 ((x0.length : Int) - 1))).bind fun t431 => (if t431 = true then (if 0 ≤ ((rd_T53 x17 x19).f5) then (if ((rd_T53 x17 x19).f5) < (x0.length : Int) then ((impl_hasKids.f ((rd_T53 x0 ((rd_T53 x17 x19).f5)).f0)).bind fun t433 => (if t433 = true then (impl_TreeOk.l0 k x0 x17 x18 (wrap64 (x19 + 1))) else (some false))) else (none)) else (none)) else (some false))) else (some false))) else (none)) else (none)) else ((impl_kidsOk.f k x0).bind fun t424 => (if t424 = true then ((impl_order.f k x0).bind fun t425 => (some ((t425.length : Int) == (x0.length : Int)))) else (some false)))
end
def impl_TreeOk.f (k : Nat) (l0 : List (S53)) : Option (Bool) := (impl_inRange.f (l0.length : Int) 1 3000).bind fun t417 => (if t417 = true then (if 0 < (l0.length : Int) then ((impl_pageOk.f ((rd_T53 l0 0).f0) ((rd_T53 l0 0).f1) ((rd_T53 l0 0).f2) ((rd_T53 l0 0).f3) ((rd_T53 l0 0).f4) ((rd_T53 l0 0).f5) ((rd_T53 l0 0).f6)).bind fun t419 => (impl_TreeOk.j0 k l0 (!t419))) else (none)) else (impl_TreeOk.j0 k l0 true))
theorem impl_TreeOk.calls (k : Nat) (A0 : Option Addr) (c0 : Nat) (l0 : List (S53)) (r : Bool) (w : World) (hr0 : Kd.C k53 w A0 l0.length l0) (hc0 : l0.length ≤ c0) (h : impl_TreeOk.f k l0 = some r) :
  Calls Tryz.prog 65 #[.slice A0 l0.length c0] w fun e w' => e = .returned (.bool r) ∧ Below w.heap.size w w' := by
 have hu53 := Tryz.underlying53
 have HR0 := am hr0
 have HC0 := am hc0
 clear hr0 hc0
 have HB := am (Below.refl w.heap.size w)
 have H : ((impl_inRange.f (l0.length : Int) 1 3000).bind fun t417 => (if t417 = true then (if 0 < (l0.length : Int) then ((impl_pageOk.f ((rd_T53 l0 0).f0) ((rd_T53 l0 0).f1) ((rd_T53 l0 0).f2) ((rd_T53 l0 0).f3) ((rd_T53 l0 0).f4) ((rd_T53 l0 0).f5) ((rd_T53 l0 0).f6)).bind fun t419 => (impl_TreeOk.j0 k l0 (!t419))) else (none)) else (impl_TreeOk.j0 k l0 true))) = some r := h
 clear h
 have HC2 := am H
 clear H
 go_enter Tryz.func65, Tryz.ntmps65
 go_upto_region 1 with (fail)
 go_cut [15] (fun v15 wc => ∃ (kq : Nat) (x15_1 : Bool), v15 = .bool x15_1 ∧ Aside0 (impl_TreeOk.j0 kq l0 x15_1 = some r) ∧ Aside0 (kq ≤ k) ∧ Aside0 (Below w.heap.size w wc))
 case first =>
  have H := HC2.out
  clear HC2
  replace H := bi_ H; obtain ⟨t417, A3, H⟩ := H
  replace H := ib_ H; rcases H with ⟨rfl, H⟩ | ⟨rfl, H⟩
  ·by_cases c5 : 0 < (l0.length : Int)
   case neg => rw [if_neg c5] at H; exact absurd H (by simp)
   rw [if_pos c5] at H
   have c5b0 := decide_eq_true c5
   have c5b1 : decide (0 < l0.length) = true := decide_eq_true (by omega)
   clear c5
   (first | rw [c5b0] | (simp only [i64_w, i32_w]; rw [c5b0]) | skip)
   (try (generalize hgzc5 : decide (0 < (l0.length : Int)) = bqc5 at *; subst c5b0; have c5b0 := hgzc5; clear hgzc5))
   replace H := bi_ H; obtain ⟨t419, A6, H⟩ := H
   replace H : (impl_TreeOk.j0 k l0 (!t419)) = some r := by first | exact H | (rw [c5b0]; exact H)
   have H' := am H
   clear H
   go_wp2_with (first | ((with_reducible refine gf_ 87 ?_); refine gc_ Tryz.func87 (impl_inRange.calls (l0.length : Int) 1 3000 true _ A3.out) ?_; rintro w' ⟨nd, rfl⟩; have p418 : 0 ≤ (0 : Int) := (by omega); have q418 : 0 < (l0.length : Int) := of_decide_eq_true ab4; obtain ⟨ad418, A418_3, c418_3, A418_6, c418_6, e418, hx418_0, hx418_1, hx418_2, hx418_3, hx418_4, hx418_5, hx418_6, hl418_3, hi418_3, hl418_6, hi418_6⟩ := at_T53 HR0.out 0 p418 q418; cases e418; have qi418 : (0 < l0.length) = True := eq_true (by omega); (try rw [show ((0 : Int)).toNat = 0 from rfl] at hx418_0); (try rw [show 0 * 7 = 0 from rfl] at hx418_0); (try rw [Addr.add_zero'] at hx418_0); (try rw [show ((0 : Int)).toNat = 0 from rfl] at hx418_1); (try rw [show 0 * 7 = 0 from rfl] at hx418_1); (try rw [Addr.add_zero'] at hx418_1); (try rw [show ((0 : Int)).toNat = 0 from rfl] at hx418_2); (try rw [show 0 * 7 = 0 from rfl] at hx418_2); (try rw [Addr.add_zero'] at hx418_2); (try rw [show ((0 : Int)).toNat = 0 from rfl] at hx418_3); (try rw [show 0 * 7 = 0 from rfl] at hx418_3); (try rw [Addr.add_zero'] at hx418_3); (try rw [show ((0 : Int)).toNat = 0 from rfl] at hx418_4); (try rw [show 0 * 7 = 0 from rfl] at hx418_4); (try rw [Addr.add_zero'] at hx418_4); (try rw [show ((0 : Int)).toNat = 0 from rfl] at hx418_5); (try rw [show 0 * 7 = 0 from rfl] at hx418_5); (try rw [Addr.add_zero'] at hx418_5); (try rw [show ((0 : Int)).toNat = 0 from rfl] at hx418_6); (try rw [show 0 * 7 = 0 from rfl] at hx418_6); (try rw [Addr.add_zero'] at hx418_6); replace hx418_0 := pc_ HB hx418_0; replace hx418_1 := pc_ HB hx418_1; replace hx418_2 := pc_ HB hx418_2; replace hx418_3 := pc_ HB hx418_3; replace hx418_4 := pc_ HB hx418_4; replace hx418_5 := pc_ HB hx418_5; replace hx418_6 := pc_ HB hx418_6; have HR418_3 := am hi418_3; have HC418_3 := am hl418_3; clear hi418_3 hl418_3; have HR418_6 := am hi418_6; have HC418_6 := am hl418_6; clear hi418_6 hl418_6; replace p418 := eq_true p418; replace q418 := eq_true q418) | (go_at_call 89; (with_reducible refine (impl_pageOk.calls ((rd_T53 l0 0).f0) ((rd_T53 l0 0).f1) ((rd_T53 l0 0).f2) _ _ ((rd_T53 l0 0).f3) ((rd_T53 l0 0).f4) ((rd_T53 l0 0).f5) _ _ ((rd_T53 l0 0).f6) t419 _ ?side1 ?side2 ?side3 ?side4 A6.out).mono ?_); (case side1 => repeat (first | exact (Kd.C_below HR418_3.out ab1) | (with_reducible refine Kd.C_alloc ?_ _) | (with_reducible refine Kd.C_drewN ?_ _) | (with_reducible refine Kd.C_drew ?_))); (case side2 => exact HC418_3.out); (case side3 => repeat (first | exact (Kd.C_below HR418_6.out ab1) | (with_reducible refine Kd.C_alloc ?_ _) | (with_reducible refine Kd.C_drewN ?_ _) | (with_reducible refine Kd.C_drew ?_))); (case side4 => exact HC418_6.out); rintro e w7 ⟨rfl, hb⟩; replace HB := am (below_step ab1 hb); (try clear hb)))
   go_meet
   case rel => exact ⟨_, (!t419), ab6, (by first | exact H' | (have h_ := H'.out; rw [c5b0] at h_; exact ⟨h_⟩)), ⟨by first | omega | exact Nat.le_refl _⟩, ⟨ab1⟩⟩
  ·have H' := am H
   clear H
   go_wp2_with (first | ((with_reducible refine gf_ 87 ?_); refine gc_ Tryz.func87 (impl_inRange.calls (l0.length : Int) 1 3000 false _ A3.out) ?_; rintro w' ⟨nd, rfl⟩))
   go_meet
   case rel => exact ⟨_, (true), ab6, H', ⟨by first | omega | exact Nat.le_refl _⟩, ⟨ab1⟩⟩
 case rest =>
  clear HC2
  (try clear p2); (try clear c4); (try clear p4); (try clear q4); (try clear hx4); (try clear qi4); (try clear c5); (try clear c5b0); (try clear c5b1); (try clear c6); (try clear hx418_0); (try clear hx418_1); (try clear hx418_2); (try clear hx418_3); (try clear hx418_4); (try clear hx418_5); (try clear hx418_6); (try clear p418); (try clear q418)
  obtain ⟨kq, x15_1, rfl, HA, HJ1, HB⟩ := hcut
  cases kq with
  | zero => exact absurd HA.out (by simp [impl_TreeOk.j0])
  | succ kj1 =>
   have H := HA.out
   clear HA
   simp only [impl_TreeOk.j0] at H
   replace H := ib_ H; rcases H with ⟨rfl, H⟩ | ⟨rfl, H⟩
   ·obtain rfl := Option.some.inj H
    go_wp2
    go_ret
    exact ⟨ab7, ab1⟩
   ·by_cases c9 : 1 ≤ (l0.length : Int)
    case neg => rw [if_neg c9] at H; exact absurd H (by simp)
    rw [if_pos c9] at H
    have c9b0 := eq_true c9
    have c9b1 := decide_eq_true c9
    clear c9
    obtain ⟨y420, hy420⟩ : ∃ y_ : List (S53), y_ = (l0.drop 1) := ⟨_, rfl⟩
    replace H : (impl_TreeOk.l0 kj1 l0 y420 (y420.length : Int) 0) = some r := by first | (rw [hy420]; with_reducible exact H) | (have H2_ := (Option.bind_some _ _).symm.trans H; rw [hy420]; with_reducible exact H2_) | (have H2_ := (Option.bind_some _ _).symm.trans H; with_reducible exact H2_) | with_reducible exact H | (rw [hy420]; exact H) | exact H
    have Ny420 := am hy420
    clear hy420
    have H' := am H
    clear H
    have q10 : (1 : Int) ≤ ((l0.length : Int) : Int) := of_decide_eq_true ab4
    obtain ⟨i010, hi010, _, hsz10, _⟩ := info_parts info53
    have hroom10 : l0.length ≤ c0 := HC0.out
    have hC10 : Kd.C k53 _ A0 l0.length l0 := HR0.out
    have hcut10 := cut_from (P := Tryz.prog) 29 53 .i64 Tryz.underlying29 hi010 7 hsz10 A0 l0.length c0 1 (by omega) q10
    have hr10 := Kd.C_drop (m := (1 : Int).toNat) (c := c0) hC10 (by omega) hroom10
    obtain ⟨A10, hA10⟩ : ∃ A1, A1 = (if c0 = (1 : Int).toNat then A0 else (A0 : Option Addr).map (·.add ((1 : Int).toNat * 7))) := ⟨_, rfl⟩
    obtain ⟨c10, hc10⟩ : ∃ c1, c1 = c0 - (1 : Int).toNat := ⟨_, rfl⟩
    have hy10 : y420.length = l0.length - (1 : Int).toNat := (by rw [Ny420.out, List.length_drop] <;> omega)
    rw [show (l0).drop (1 : Int).toNat = y420 from Ny420.out.symm] at hr10
    replace hr10 : Kd.C k53 _ A10 y420.length y420 := (by rw [hA10]; exact hr10)
    rw [← hy10, ← hA10, ← hc10] at hcut10
    have HR423 := am hr10
    have HC423 := am (show y420.length ≤ c10 from by rw [hy10, hc10]; exact Nat.sub_le_sub_right hroom10 _)
    clear hr10 hC10 hroom10 hi010 hsz10 hc10
    have KY10 := am hy10
    have KA10 := am hA10
    clear hy10 hA10
    replace q10 := eq_true q10
    go_wp2
    go_loopg [19] kj1 (fun kq v19 w' => ∃ (x19_2 : Int), v19 = .int .i64 x19_2 ∧ Aside0 (impl_TreeOk.l0 kq l0 y420 (y420.length : Int) x19_2 = some r) ∧ Aside0 (kq ≤ kj1) ∧ Aside0 (Below w.heap.size w w'))
    case atStart => exact ⟨(0), ab6, H', ⟨Nat.le_refl _⟩, ⟨ab1⟩⟩
    case round =>
     clear H'
     (try clear c1); (try clear q1); (try clear p2); (try clear c4); (try clear p4); (try clear q4); (try clear hx4); (try clear qi4); (try clear c5); (try clear c5b0); (try clear c5b1); (try clear c6); (try clear c8); (try clear c9); (try clear c9b0); (try clear c9b1); (try clear c10); (try clear q10); (try clear hx418_0); (try clear hx418_1); (try clear hx418_2); (try clear hx418_3); (try clear hx418_4); (try clear hx418_5); (try clear hx418_6); (try clear p2); (try clear p4); (try clear p418); (try clear q10); (try clear q4); (try clear q418)
     obtain ⟨x19_2, rfl, HA, HK2, HB⟩ := hrel
     cases gk with
     | zero => exact absurd HA.out (by simp [impl_TreeOk.l0])
     | succ k2 =>
      have H := HA.out
      clear HA
      simp only [impl_TreeOk.l0] at H
      replace H := ir_ H; rcases H with ⟨c11b0, H⟩ | ⟨c11b0, H⟩
      ·replace H := iq_ H; obtain ⟨c12b0, H⟩ := H
       replace H := iq_ H; obtain ⟨c13b0, H⟩ := H
       replace H := bi_ H; obtain ⟨t430, A14, H⟩ := H
       replace H := ib_ H; rcases H with ⟨rfl, H⟩ | ⟨rfl, H⟩
       ·replace H := bi_ H; obtain ⟨t431, A16, H⟩ := H
        replace H := ib_ H; rcases H with ⟨rfl, H⟩ | ⟨rfl, H⟩
        ·replace H := iq_ H; obtain ⟨c18b0, H⟩ := H
         replace H := iq_ H; obtain ⟨c19b0, H⟩ := H
         replace H := bi_ H; obtain ⟨t433, A20, H⟩ := H
         replace H := ib_ H; rcases H with ⟨rfl, H⟩ | ⟨rfl, H⟩
         ·have H' := am H
          clear H
          obtain ⟨p428, q428, ad428, A428_3, c428_3, A428_6, c428_6, rfl, hx428_0, hx428_1, hx428_2, hx428_3, hx428_4, hx428_5, hx428_6, HC428_3, HR428_3, HC428_6, HR428_6⟩ := otT53 HB HR423.out x19_2 (of_decide_eq_true ab4) (of_decide_eq_true ab4)
          go_wp2_with (first | ((with_reducible refine gd_ 4 ?_); (try (refine gate_guard (by rfl) ?_; dsimp only)); refine bx_ 4 (cs := #[.int .i64 0, .int .i64 0, .string (⟨#[]⟩ : ByteArray), .slice none 0 0, .string (⟨#[]⟩ : ByteArray), .int .i64 0, .slice none 0 0]) 53 ?_; intro gb429 hg w22 hbox hb; have BK429 := am hbox; have GW429 := ge_ (w := w) hg; have GE429 := ge_ (w := w) hg; replace HB := am (below_step ab1 hb); clear hb hbox hg; obtain ⟨⟨_, _, _, _, _, _, _⟩, _, _, _, _, _, _, _⟩ := Op.cells7 BK429.out) | ((with_reducible refine gf_ 90 ?_); refine gc_ Tryz.func90 (impl_itemOk.calls k2 ((rd_T53 y420 x19_2).f0) ((rd_T53 y420 x19_2).f1) ((rd_T53 y420 x19_2).f2) _ _ ((rd_T53 y420 x19_2).f3) ((rd_T53 y420 x19_2).f4) ((rd_T53 y420 x19_2).f5) _ _ ((rd_T53 y420 x19_2).f6) true _ (Kd.C_below HR428_3.out (ab2 GE429)) HC428_3.out (Kd.C_below HR428_6.out (ab2 GE429)) HC428_6.out A14.out) ?_; rintro w24 hb; replace BK429 := bp_ BK429 hb; replace HB := am (below_step (ab2 GE429) hb); (try clear hb); obtain ⟨⟨_, _, _, _, _, _, _⟩, _, _, _, _, _, _, _⟩ := Op.cells7 BK429.out) | (go_at_call 87; (with_reducible refine (impl_inRange.calls ((rd_T53 y420 x19_2).f5) 0 (wrap64 ((l0.length : Int) - 1)) true _ A16.out).mono ?_); rintro e w' ⟨rfl, ⟨nd, rfl⟩⟩; have p432 : 0 ≤ (((rd_T53 y420 x19_2).f5) : Int) := of_decide_eq_true ab4; have q432 : ((rd_T53 y420 x19_2).f5) < (l0.length : Int) := of_decide_eq_true ab4; obtain ⟨ad432, A432_3, c432_3, A432_6, c432_6, e432, hx432_0, hx432_1, hx432_2, hx432_3, hx432_4, hx432_5, hx432_6, hl432_3, hi432_3, hl432_6, hi432_6⟩ := at_T53 HR0.out ((rd_T53 y420 x19_2).f5) p432 q432; cases e432; replace hx432_0 := pc_ HB hx432_0; replace hx432_1 := pc_ HB hx432_1; replace hx432_2 := pc_ HB hx432_2; replace hx432_3 := pc_ HB hx432_3; replace hx432_4 := pc_ HB hx432_4; replace hx432_5 := pc_ HB hx432_5; replace hx432_6 := pc_ HB hx432_6; have HR432_3 := am hi432_3; have HC432_3 := am hl432_3; clear hi432_3 hl432_3; have HR432_6 := am hi432_6; have HC432_6 := am hl432_6; clear hi432_6 hl432_6; replace p432 := eq_true p432; replace q432 := eq_true q432) | (go_at_call 91; (with_reducible refine (impl_hasKids.calls ((rd_T53 l0 ((rd_T53 y420 x19_2).f5)).f0) true _ A20.out).mono ?_); rintro e w' ⟨rfl, ⟨nd, rfl⟩⟩))
          go_roundg k2
          case measure => have := HJ1.out; have := HK2.out; omega
          case rel => exact ⟨(wrap64 (x19_2 + 1)), ab6, H', ⟨by have := HJ1.out; have := HK2.out; omega⟩, ⟨ab2 GE429⟩⟩
         ·obtain rfl := Option.some.inj H
          obtain ⟨p428, q428, ad428, A428_3, c428_3, A428_6, c428_6, rfl, hx428_0, hx428_1, hx428_2, hx428_3, hx428_4, hx428_5, hx428_6, HC428_3, HR428_3, HC428_6, HR428_6⟩ := otT53 HB HR423.out x19_2 (of_decide_eq_true ab4) (of_decide_eq_true ab4)
          go_wp2_with (first | ((with_reducible refine gd_ 4 ?_); (try (refine gate_guard (by rfl) ?_; dsimp only)); refine bx_ 4 (cs := #[.int .i64 0, .int .i64 0, .string (⟨#[]⟩ : ByteArray), .slice none 0 0, .string (⟨#[]⟩ : ByteArray), .int .i64 0, .slice none 0 0]) 53 ?_; intro gb429 hg w26 hbox hb; have BK429 := am hbox; have GW429 := ge_ (w := w) hg; have GE429 := ge_ (w := w) hg; replace HB := am (below_step ab1 hb); clear hb hbox hg; obtain ⟨⟨_, _, _, _, _, _, _⟩, _, _, _, _, _, _, _⟩ := Op.cells7 BK429.out) | ((with_reducible refine gf_ 90 ?_); refine gc_ Tryz.func90 (impl_itemOk.calls k2 ((rd_T53 y420 x19_2).f0) ((rd_T53 y420 x19_2).f1) ((rd_T53 y420 x19_2).f2) _ _ ((rd_T53 y420 x19_2).f3) ((rd_T53 y420 x19_2).f4) ((rd_T53 y420 x19_2).f5) _ _ ((rd_T53 y420 x19_2).f6) true _ (Kd.C_below HR428_3.out (ab2 GE429)) HC428_3.out (Kd.C_below HR428_6.out (ab2 GE429)) HC428_6.out A14.out) ?_; rintro w28 hb; replace BK429 := bp_ BK429 hb; replace HB := am (below_step (ab2 GE429) hb); (try clear hb); obtain ⟨⟨_, _, _, _, _, _, _⟩, _, _, _, _, _, _, _⟩ := Op.cells7 BK429.out) | (go_at_call 87; (with_reducible refine (impl_inRange.calls ((rd_T53 y420 x19_2).f5) 0 (wrap64 ((l0.length : Int) - 1)) true _ A16.out).mono ?_); rintro e w' ⟨rfl, ⟨nd, rfl⟩⟩; have p432 : 0 ≤ (((rd_T53 y420 x19_2).f5) : Int) := of_decide_eq_true ab4; have q432 : ((rd_T53 y420 x19_2).f5) < (l0.length : Int) := of_decide_eq_true ab4; obtain ⟨ad432, A432_3, c432_3, A432_6, c432_6, e432, hx432_0, hx432_1, hx432_2, hx432_3, hx432_4, hx432_5, hx432_6, hl432_3, hi432_3, hl432_6, hi432_6⟩ := at_T53 HR0.out ((rd_T53 y420 x19_2).f5) p432 q432; cases e432; replace hx432_0 := pc_ HB hx432_0; replace hx432_1 := pc_ HB hx432_1; replace hx432_2 := pc_ HB hx432_2; replace hx432_3 := pc_ HB hx432_3; replace hx432_4 := pc_ HB hx432_4; replace hx432_5 := pc_ HB hx432_5; replace hx432_6 := pc_ HB hx432_6; have HR432_3 := am hi432_3; have HC432_3 := am hl432_3; clear hi432_3 hl432_3; have HR432_6 := am hi432_6; have HC432_6 := am hl432_6; clear hi432_6 hl432_6; replace p432 := eq_true p432; replace q432 := eq_true q432) | (go_at_call 91; (with_reducible refine (impl_hasKids.calls ((rd_T53 l0 ((rd_T53 y420 x19_2).f5)).f0) false _ A20.out).mono ?_); rintro e w' ⟨rfl, ⟨nd, rfl⟩⟩))
          go_ret
          exact ⟨ab7, ab2 GE429⟩
        ·obtain rfl := Option.some.inj H
         obtain ⟨p428, q428, ad428, A428_3, c428_3, A428_6, c428_6, rfl, hx428_0, hx428_1, hx428_2, hx428_3, hx428_4, hx428_5, hx428_6, HC428_3, HR428_3, HC428_6, HR428_6⟩ := otT53 HB HR423.out x19_2 (of_decide_eq_true ab4) (of_decide_eq_true ab4)
         go_wp2_with (first | ((with_reducible refine gd_ 4 ?_); (try (refine gate_guard (by rfl) ?_; dsimp only)); refine bx_ 4 (cs := #[.int .i64 0, .int .i64 0, .string (⟨#[]⟩ : ByteArray), .slice none 0 0, .string (⟨#[]⟩ : ByteArray), .int .i64 0, .slice none 0 0]) 53 ?_; intro gb429 hg w30 hbox hb; have BK429 := am hbox; have GW429 := ge_ (w := w) hg; have GE429 := ge_ (w := w) hg; replace HB := am (below_step ab1 hb); clear hb hbox hg; obtain ⟨⟨_, _, _, _, _, _, _⟩, _, _, _, _, _, _, _⟩ := Op.cells7 BK429.out) | ((with_reducible refine gf_ 90 ?_); refine gc_ Tryz.func90 (impl_itemOk.calls k2 ((rd_T53 y420 x19_2).f0) ((rd_T53 y420 x19_2).f1) ((rd_T53 y420 x19_2).f2) _ _ ((rd_T53 y420 x19_2).f3) ((rd_T53 y420 x19_2).f4) ((rd_T53 y420 x19_2).f5) _ _ ((rd_T53 y420 x19_2).f6) true _ (Kd.C_below HR428_3.out (ab2 GE429)) HC428_3.out (Kd.C_below HR428_6.out (ab2 GE429)) HC428_6.out A14.out) ?_; rintro w32 hb; replace BK429 := bp_ BK429 hb; replace HB := am (below_step (ab2 GE429) hb); (try clear hb); obtain ⟨⟨_, _, _, _, _, _, _⟩, _, _, _, _, _, _, _⟩ := Op.cells7 BK429.out) | (go_at_call 87; (with_reducible refine (impl_inRange.calls ((rd_T53 y420 x19_2).f5) 0 (wrap64 ((l0.length : Int) - 1)) false _ A16.out).mono ?_); rintro e w' ⟨rfl, ⟨nd, rfl⟩⟩))
         go_ret
         exact ⟨ab7, ab2 GE429⟩
       ·obtain rfl := Option.some.inj H
        obtain ⟨p428, q428, ad428, A428_3, c428_3, A428_6, c428_6, rfl, hx428_0, hx428_1, hx428_2, hx428_3, hx428_4, hx428_5, hx428_6, HC428_3, HR428_3, HC428_6, HR428_6⟩ := otT53 HB HR423.out x19_2 (of_decide_eq_true ab4) (of_decide_eq_true ab4)
        go_wp2_with (first | ((with_reducible refine gd_ 4 ?_); (try (refine gate_guard (by rfl) ?_; dsimp only)); refine bx_ 4 (cs := #[.int .i64 0, .int .i64 0, .string (⟨#[]⟩ : ByteArray), .slice none 0 0, .string (⟨#[]⟩ : ByteArray), .int .i64 0, .slice none 0 0]) 53 ?_; intro gb429 hg w34 hbox hb; have BK429 := am hbox; have GW429 := ge_ (w := w) hg; have GE429 := ge_ (w := w) hg; replace HB := am (below_step ab1 hb); clear hb hbox hg; obtain ⟨⟨_, _, _, _, _, _, _⟩, _, _, _, _, _, _, _⟩ := Op.cells7 BK429.out) | ((with_reducible refine gf_ 90 ?_); refine gc_ Tryz.func90 (impl_itemOk.calls k2 ((rd_T53 y420 x19_2).f0) ((rd_T53 y420 x19_2).f1) ((rd_T53 y420 x19_2).f2) _ _ ((rd_T53 y420 x19_2).f3) ((rd_T53 y420 x19_2).f4) ((rd_T53 y420 x19_2).f5) _ _ ((rd_T53 y420 x19_2).f6) false _ (Kd.C_below HR428_3.out (ab2 GE429)) HC428_3.out (Kd.C_below HR428_6.out (ab2 GE429)) HC428_6.out A14.out) ?_; rintro w36 hb; replace BK429 := bp_ BK429 hb; replace HB := am (below_step (ab2 GE429) hb); (try clear hb)))
        go_ret
        exact ⟨ab7, ab2 GE429⟩
      ·replace H := bi_ H; obtain ⟨t424, A37, H⟩ := H
       replace H := ib_ H; rcases H with ⟨rfl, H⟩ | ⟨rfl, H⟩
       ·replace H := bi_ H; obtain ⟨t425, A39, H⟩ := H
        obtain rfl := Option.some.inj H
        go_wp2_with (first | ((with_reducible refine gf_ 92 ?_); refine gc_ Tryz.func92 (impl_kidsOk.calls k2 _ _ l0 true _ (sc_ HR0) HC0.out A37.out) ?_; rintro w40 hb; replace HB := am (below_step ab1 hb); (try clear hb)) | (go_at_call 93; (with_reducible refine (impl_order.calls k2 _ _ l0 t425 _ (sc_ HR0) HC0.out A39.out).mono ?_); rintro e w41 ⟨v426, rfl, ho0, hb⟩; have HO427 := am (Kd.R_lower ho0 (below_size ab1)); replace HB := am (below_step ab1 hb); (try clear hb); (try clear ho0); obtain ⟨Ao42, co42, eo42⟩ := Kd.R_slice HO427.out; subst eo42))
        go_ret
        exact ⟨ab7, ab1⟩
       ·obtain rfl := Option.some.inj H
        go_wp2_with (first | ((with_reducible refine gf_ 92 ?_); refine gc_ Tryz.func92 (impl_kidsOk.calls k2 _ _ l0 false _ (sc_ HR0) HC0.out A37.out) ?_; rintro w43 hb; replace HB := am (below_step ab1 hb); (try clear hb)))
        go_ret
        exact ⟨ab7, ab1⟩
end Go.Proofs.YtekkalnafngfeaaGreat.P
