-- WRITTEN BY this session's own programs
import Derived.Test.YtekkalnafngfeaaGreatPt27
import Derived.Test.YtekkalnafngfeaaGreatPt22
import Derived.Test.YtekkalnafngfeaaGreatPt17
import Derived.Shelf.Spec.SlicesInsertGrow
import Derived.Test.YtekkalnafngfeaaGreatVPtw
namespace Go.Proofs.YtekkalnafngfeaaGreat.P
open Go.RowKit Go.Proofs.YtekkalnafngfeaaGreatW.PrintWords Go.Proofs.YtekkalnafngfeaaGreatW.PrintLast Go.Proofs.YtekkalnafngfeaaGreatW.PrintMore Go Go.Shelf
set_option linter.unusedVariables false
set_option linter.unusedSimpArgs false
set_option maxHeartbeats 8000000
set_option maxRecDepth 100000
attribute [local go_sem] max2_int min2_int max_two min_two max_three min_three max_four min_four
theorem z23_0 {q0 p : Prop} (g0 : Aside0 q0) (h : Aside0 q0 → p := by intro g0_; repeat (first | (with_reducible first | exact g0_.out | apply IsS31.alloc | apply IsS31.drewN | apply IsS31.drew | apply IsS31.set_3 | apply IsS31.set_4) | exact g0_.out)) : p := h g0
theorem z23_1 {p : Prop} (h : p := by repeat (first | (with_reducible first | exact HK.out | apply KeepBut.set_ | apply keep_drewN | apply keep_drew | apply keep_alloc) | exact HK.out)) : p := h
theorem z23_2 {p : Prop} (h : p := by repeat (first | (with_reducible first | exact HB.out | apply below_alloc | apply pw_below_drewN | apply below_drew1) | exact HB.out)) : p := h
theorem pl_box {w0 w : World} {g : Nat} {A0_0 : Option Addr} {c0_0 : Nat} {s0_0 : List (S53)} {A0_1 : Option Addr} {c0_1 : Nat} {s0_1 : List Int} {A0_2 : Option Addr} {c0_2 : Nat} {s0_2 : List Int} {s0_3 : Int} {s0_4 : Int} (hg : g = w0.heap.size) (hbox : w.heap[g]? = some (.cells #[.slice A0_0 s0_0.length c0_0, .slice A0_1 s0_1.length c0_1, .slice A0_2 s0_2.length c0_2, .int .i64 s0_3, .int .i64 s0_4] 31 (0, 0))) (_ : Below w0.heap.size w0 w) (hr0_0 : Kd.C k53 w0 A0_0 s0_0.length s0_0) (hc0_0 : s0_0.length ≤ c0_0) (hr0_1 : Kd.C (Kd.int .i64) w0 A0_1 s0_1.length s0_1) (hc0_1 : s0_1.length ≤ c0_1) (hr0_2 : Kd.C (Kd.int .i64) w0 A0_2 s0_2.length s0_2) (hc0_2 : s0_2.length ≤ c0_2) : IsS31 w0 w g s0_0 s0_1 s0_2 s0_3 s0_4 :=
 ⟨A0_0, c0_0, A0_1, c0_1, A0_2, c0_2, hbox, ⟨trivial, hc0_0, hc0_1, hc0_2⟩, hr0_0, hr0_1, hr0_2⟩
def impl_PageOk.ixf (k : Nat) (s0_0 : List (S53)) (s0_1 : List Int) (s0_2 : List Int) (s0_3 : Int) (s0_4 : Int) (a1 : Int) : Option (Int × Int × Int) := (slices_Index_int_int.f k s0_1 a1).bind fun t => some (t, s0_3, s0_4)
def impl_PageOk.trf (k : Nat) (s0_0 : List (S53)) (s0_1 : List Int) (s0_2 : List Int) (s0_3 : Int) (s0_4 : Int) : Option (Bool × Int × Int) := (impl_TreeOk.f k s0_0).bind fun t => some (t, s0_3, s0_4)
theorem impl_PageOk.ix (k : Nat) (g : Nat) (s0_0 : List (S53)) (s0_1 : List Int) (s0_2 : List Int) (s0_3 : Int) (s0_4 : Int) (a1 : Int) (r1 r2 r3 : Int) (w0 w : World) (A : Option Addr) (c : Nat) (hI : IsS31 w0 w g s0_0 s0_1 s0_2 s0_3 s0_4) (hB : Below w0.heap.size w0 w) (hr : Kd.C (Kd.int .i64) w0 A s0_1.length s0_1) (hc : s0_1.length ≤ c) (h : impl_PageOk.ixf k s0_0 s0_1 s0_2 s0_3 s0_4 a1 = some (r1, r2, r3)) :
  Calls Tryz.prog 62 #[.slice A s0_1.length c, .int .i64 a1] w fun e w' => e = .returned (.int .i64 r1) ∧ IsS31 w0 w' g s0_0 s0_1 s0_2 r2 r3 ∧ Below w0.heap.size w0 w' ∧ KeepBut w w' g none := by
 obtain ⟨t, ht, hq⟩ := Option.bind_eq_some_iff.mp h
 obtain ⟨rfl, rfl, rfl⟩ : t = r1 ∧ s0_3 = r2 ∧ s0_4 = r3 := by simpa using hq
 refine (slices_Index_int_int.calls k A c s0_1 a1 t w (Kd.C_below hr hB) hc ht).mono ?_
 rintro e w' ⟨rfl, ⟨n, rfl⟩⟩
 exact ⟨rfl, hI.drewN n, pw_below_drewN hB n, keep_drewN (KeepBut.refl w g none) n⟩
theorem impl_PageOk.tr (k : Nat) (g : Nat) (s0_0 : List (S53)) (s0_1 : List Int) (s0_2 : List Int) (s0_3 : Int) (s0_4 : Int) (r1 : Bool) (r2 r3 : Int) (w0 w : World) (A : Option Addr) (c : Nat) (hI : IsS31 w0 w g s0_0 s0_1 s0_2 s0_3 s0_4) (hB : Below w0.heap.size w0 w) (hr : Kd.C k53 w0 A s0_0.length s0_0) (hc : s0_0.length ≤ c) (h : impl_PageOk.trf k s0_0 s0_1 s0_2 s0_3 s0_4 = some (r1, r2, r3)) :
  Calls Tryz.prog 65 #[.slice A s0_0.length c] w fun e w' => e = .returned (.bool r1) ∧ IsS31 w0 w' g s0_0 s0_1 s0_2 r2 r3 ∧ Below w0.heap.size w0 w' ∧ KeepBut w w' g none := by
 obtain ⟨t, ht, hq⟩ := Option.bind_eq_some_iff.mp h
 obtain ⟨rfl, rfl, rfl⟩ : t = r1 ∧ s0_3 = r2 ∧ s0_4 = r3 := by simpa using hq
 refine (impl_TreeOk.calls k A c s0_0 t w (Kd.C_below hr hB) hc ht).mono ?_
 rintro e w' ⟨rfl, hb⟩
 exact ⟨rfl, hI.below hb, below_step hB hb, KeepBut.of_below hb g none⟩
theorem impl_Page_isTag.stays {s0_0 : List (S53)} {s0_1 s0_2 : List Int} {s0_3 s0_4 a1 : Int} {r1 : Bool} {r2 r3 : Int} (h : impl_Page_isTag.f s0_0 s0_1 s0_2 s0_3 s0_4 a1 = some (r1, r2, r3)) : s0_3 = r2 ∧ s0_4 = r3 := by
 unfold impl_Page_isTag.f at h
 obtain ⟨t, _, h⟩ := Option.bind_eq_some_iff.mp h
 repeat' split at h
 all_goals simp only [Option.some.injEq, Prod.mk.injEq, reduceCtorEq] at h
 all_goals exact ⟨h.2.1, h.2.2⟩
theorem impl_Page_isFormat.stays {s0_0 : List (S53)} {s0_1 s0_2 : List Int} {s0_3 s0_4 a1 : Int} {r1 : Bool} {r2 r3 : Int} (h : impl_Page_isFormat.f s0_0 s0_1 s0_2 s0_3 s0_4 a1 = some (r1, r2, r3)) : s0_3 = r2 ∧ s0_4 = r3 := by
 unfold impl_Page_isFormat.f at h
 obtain ⟨⟨t1, t2, t3⟩, ht, h⟩ := Option.bind_eq_some_iff.mp h
 obtain ⟨rfl, rfl⟩ := impl_Page_isTag.stays ht
 repeat' split at h
 ·obtain ⟨t, _, h⟩ := Option.bind_eq_some_iff.mp h
  simp only [Option.some.injEq, Prod.mk.injEq] at h
  exact ⟨h.2.1, h.2.2⟩
 all_goals simp only [Option.some.injEq, Prod.mk.injEq, reduceCtorEq] at h
 all_goals exact ⟨h.2.1, h.2.2⟩
mutual
def impl_PageOk.l0 : Nat → List Int → Int → Int → List (S53) → List Int → List Int → Int → Int → Option (Bool × Int × Int)
 | 0, _, _, _, _, _, _, _, _ => none
 | k + 1, x8, x9, x10, x1000, x1001, x1002, x1003, x1004 => if x10 < x9 then (if 0 ≤ x10 then (if x10 < (x8.length : Int) then ((impl_Page_isTag.f x1000 x1001 x1002 x1003 x1004 (rd x8 x10)).bind fun bt342 => (if bt342.1 = true then ((impl_PageOk.ixf k x1000 x1001 x1002 bt342.2.1 bt342.2.2 (rd x8 x10)).bind fun bt345 => (if bt345.1 = x10 then (impl_PageOk.l0 k x8 x9 (wrap64 (x10 + 1)) x1000 x1001 x1002 bt345.2.1 bt345.2.2) else (some (false, bt345.2.1, bt345.2.2)))) else (some (false, bt342.2.1, bt342.2.2)))) else (none)) else (none)) else (impl_PageOk.l1 k x1002 (x1002.length : Int) 0 x1000 x1001 x1002 x1003 x1004)
def impl_PageOk.l1 : Nat → List Int → Int → Int → List (S53) → List Int → List Int → Int → Int → Option (Bool × Int × Int)
 | 0, _, _, _, _, _, _, _, _ => none
 | k + 1, x28, x29, x30, x1000, x1001, x1002, x1003, x1004 => if x30 < x29 then (if 0 ≤ x30 then (if x30 < (x28.length : Int) then (if (rd x28 x30) = (-1) then (impl_PageOk.l1 k x28 x29 (wrap64 (x30 + 1)) x1000 x1001 x1002 x1003 x1004) else ((impl_Page_isFormat.f x1000 x1001 x1002 x1003 x1004 (rd x28 x30)).bind fun bt349 => (if bt349.1 = true then (impl_PageOk.l1 k x28 x29 (wrap64 (x30 + 1)) x1000 x1001 x1002 bt349.2.1 bt349.2.2) else (some (false, bt349.2.1, bt349.2.2))))) else (none)) else (none)) else (if (x1001.length : Int) ≤ 40 then (if (x1002.length : Int) ≤ 120 then ((impl_Page_isNamed.f x1000 x1001 x1002 x1003 x1004 x1003 (⟨#[104, 101, 97, 100]⟩ : ByteArray)).bind fun bt352 => (if bt352.1 = true then ((impl_Page_isNamed.f x1000 x1001 x1002 bt352.2.1 bt352.2.2 bt352.2.2 (⟨#[98, 111, 100, 121]⟩ : ByteArray)).bind fun bt355 => (if bt355.1 = true then ((impl_PageOk.trf k x1000 x1001 x1002 bt355.2.1 bt355.2.2).bind fun bt358 => (some (bt358.1, bt358.2.1, bt358.2.2))) else (some (false, bt355.2.1, bt355.2.2)))) else (some (false, bt352.2.1, bt352.2.2)))) else (some (false, x1003, x1004))) else (some (false, x1003, x1004)))
end
def impl_PageOk.gf (k : Nat) (s0_0 : List (S53)) (s0_1 : List Int) (s0_2 : List Int) (s0_3 : Int) (s0_4 : Int) : Option (Bool × Int × Int) := impl_PageOk.l0 k s0_1 (s0_1.length : Int) 0 s0_0 s0_1 s0_2 s0_3 s0_4
theorem impl_PageOk.gcalls (k : Nat) (A0_0 : Option Addr) (c0_0 : Nat) (s0_0 : List (S53)) (A0_1 : Option Addr) (c0_1 : Nat) (s0_1 : List Int) (A0_2 : Option Addr) (c0_2 : Nat) (s0_2 : List Int) (s0_3 : Int) (s0_4 : Int) (r1 : Bool) (r2 : Int) (r3 : Int) (w0 : World) (hr0_0 : Kd.C k53 w0 A0_0 s0_0.length s0_0) (hc0_0 : s0_0.length ≤ c0_0) (hr0_1 : Kd.C (Kd.int .i64) w0 A0_1 s0_1.length s0_1) (hc0_1 : s0_1.length ≤ c0_1) (hr0_2 : Kd.C (Kd.int .i64) w0 A0_2 s0_2.length s0_2) (hc0_2 : s0_2.length ≤ c0_2) (M_ : Int) (hm_ : w0.cell? ⟨0, 0, none⟩ = some (.int .i64 M_)) (h : impl_PageOk.gf k s0_0 s0_1 s0_2 s0_3 s0_4 = some (r1, r2, r3)) :
  Calls Tryz.prog 33 #[.agg #[.slice A0_0 s0_0.length c0_0, .slice A0_1 s0_1.length c0_1, .slice A0_2 s0_2.length c0_2, .int .i64 s0_3, .int .i64 s0_4]] w0 fun e w' => e = .returned (.bool r1) ∧ Below w0.heap.size w0 w' := by
 have HR := am (And.intro hr0_0 (And.intro hc0_0 (And.intro hr0_1 (And.intro hc0_1 (And.intro hr0_2 hc0_2)))))
 have HM := am hm_
 clear hr0_0 hc0_0 hr0_1 hc0_1 hr0_2 hc0_2 hm_
 have H : (impl_PageOk.l0 k s0_1 (s0_1.length : Int) 0 s0_0 s0_1 s0_2 s0_3 s0_4) = some (r1, r2, r3) := h
 clear h
 have H' := am H
 clear H
 go_enter Tryz.func33, Tryz.ntmps33
 go_wp2_with (first | ((with_reducible refine gd_ 1 ?_); refine bx_ 1 (cs := #[.slice A0_0 s0_0.length c0_0, .slice A0_1 s0_1.length c0_1, .slice A0_2 s0_2.length c0_2, .int .i64 s0_3, .int .i64 s0_4]) 31 ?_; intro g hg w hbox hb; have HI0 := am (pl_box hg hbox hb HR.out.1 HR.out.2.1 HR.out.2.2.1 HR.out.2.2.2.1 HR.out.2.2.2.2.1 HR.out.2.2.2.2.2); have HB := am hb; have HK := am (KeepBut.refl w g none); have HM_ := am HM.out; have HL := am hb.size; have HW0 := am hb.size; obtain ⟨⟨_, _, _, _, _⟩, _, _, _, _, _⟩ := Op.cells5 hbox; clear hb hbox hg; skip))
 go_loopg [10] k (fun kq v10 w' => ∃ (x10_1 : Int) (x1003_1 : Int) (x1004_1 : Int), v10 = .int .i64 x10_1 ∧ Aside0 (impl_PageOk.l0 kq s0_1 (s0_1.length : Int) x10_1 s0_0 s0_1 s0_2 x1003_1 x1004_1 = some (r1, r2, r3)) ∧ Aside0 (kq ≤ k) ∧ Aside0 (IsS31 w0 w' g s0_0 s0_1 s0_2 x1003_1 x1004_1) ∧ Aside0 (KeepBut w w' g none) ∧ Aside0 (Below w0.heap.size w0 w'))
 case atStart => exact ⟨(0), (s0_3), (s0_4), ab6, H', ⟨Nat.le_refl _⟩, ⟨z23_0 HI0⟩, ⟨z23_1⟩, ⟨ab1⟩⟩
 case round =>
  clear H'
  (try clear p2); (try clear hcz2_0); (try clear hcz2_1); (try clear hcz2_2); (try clear hcz2_3); (try clear hcz2_4); (try clear hfz2_3); (try clear hfz2_4)
  obtain ⟨x10_1, x1003_1, x1004_1, rfl, HA, HK1, HI0, HK, HB⟩ := hrel
  cases gk with
  | zero => exact absurd HA.out (by simp [impl_PageOk.l0])
  | succ k1 =>
   have H := HA.out
   clear HA
   simp only [impl_PageOk.l0] at H
   replace H := ir_ H; rcases H with ⟨c3b0, H⟩ | ⟨c3b0, H⟩
   ·replace H := iq_ H; obtain ⟨c4b0, H⟩ := H
    replace H := iq_ H; obtain ⟨c5b0, H⟩ := H
    replace H := Option.bind_eq_some_iff.mp H
    obtain ⟨⟨t342, t343, t344⟩, A60, H⟩ := H
    try dsimp only at H
    have A6 := am A60
    clear A60
    replace H := ib_ H; rcases H with ⟨rfl, H⟩ | ⟨rfl, H⟩
    ·replace H := Option.bind_eq_some_iff.mp H
     obtain ⟨⟨t345, t346, t347⟩, A80, H⟩ := H
     try dsimp only at H
     have A8 := am A80
     clear A80
     replace H := ie_ H; rcases H with ⟨c9b0, c9b1, H⟩ | ⟨c9, c9b0, c9b1, H⟩
     ·have H' := am H
      clear H
      obtain ⟨ASz10_0, cSz10_0, ASz10_1, cSz10_1, ASz10_2, cSz10_2, HGz10, hgz10, HSz10_0, HSz10_1, HSz10_2⟩ := HI0.out
      obtain ⟨⟨_, _, _, _, _⟩, _, _, _, _, _⟩ := Op.cells5 HGz10
      clear HGz10 hgz10
      have p341 : 0 ≤ (x10_1 : Int) := of_decide_eq_true ab4
      have q341 : x10_1 < (s0_1.length : Int) := of_decide_eq_true ab4
      obtain ⟨ad341, e341, hx341_0⟩ := Kd.at_int HR.out.2.2.1 x10_1 p341 q341
      cases e341
      replace hx341_0 := pc_ HB hx341_0
      replace p341 := eq_true p341
      replace q341 := eq_true q341
      go_wp2_with (first | ((with_reducible refine gf_ 61 ?_); refine gc_ Tryz.func61 (impl_Page_isTag.calls g s0_0 s0_1 s0_2 x1003_1 x1004_1 (rd s0_1 x10_1) true t343 t344 w0 _ ?side1 ?side2 A6.out) ?_; (case side1 => exact (z23_0 HI0)); (case side2 => exact (z23_2)); rintro w11 ⟨hi, hb, hk⟩; replace HK := am (KeepBut.trans (z23_1) hk (.inl rfl)); replace HB := am hb; replace HI0 := am hi; (try clear hb); (try clear hk); (try clear hi); obtain ⟨ASz12_0, cSz12_0, ASz12_1, cSz12_1, ASz12_2, cSz12_2, HGz12, hgz12, HSz12_0, HSz12_1, HSz12_2⟩ := HI0.out; obtain ⟨⟨_, _, _, _, _⟩, _, _, _, _, _⟩ := Op.cells5 HGz12; clear HGz12) | (go_at_call 62; (with_reducible refine (impl_PageOk.ix k1 g s0_0 s0_1 s0_2 t343 t344 (rd s0_1 x10_1) t345 t346 t347 w0 _ ASz12_1 cSz12_1 ?side1 ?side2 HSz12_1 hgz12.2.2.1 A8.out).mono ?_); (case side1 => exact (z23_0 HI0)); (case side2 => exact (z23_2)); rintro e w13 ⟨rfl, hi, hb, hk⟩; replace HK := am (KeepBut.trans (z23_1) hk (.inl rfl)); replace HB := am hb; replace HI0 := am hi; (try clear hb); (try clear hk); (try clear hi)))
      go_roundg k1
      case measure => have := HK1.out; omega
      case rel => exact ⟨(wrap64 (x10_1 + 1)), (t346), (t347), ab6, H', ⟨by have := HK1.out; omega⟩, ⟨z23_0 HI0⟩, ⟨z23_1⟩, ⟨ab1⟩⟩
     ·simp only [Option.some.injEq, Prod.mk.injEq] at H
      obtain ⟨rfl, rfl, rfl⟩ := H
      obtain ⟨ASz14_0, cSz14_0, ASz14_1, cSz14_1, ASz14_2, cSz14_2, HGz14, hgz14, HSz14_0, HSz14_1, HSz14_2⟩ := HI0.out
      obtain ⟨⟨_, _, _, _, _⟩, _, _, _, _, _⟩ := Op.cells5 HGz14
      clear HGz14 hgz14
      have p341 : 0 ≤ (x10_1 : Int) := of_decide_eq_true ab4
      have q341 : x10_1 < (s0_1.length : Int) := of_decide_eq_true ab4
      obtain ⟨ad341, e341, hx341_0⟩ := Kd.at_int HR.out.2.2.1 x10_1 p341 q341
      cases e341
      replace hx341_0 := pc_ HB hx341_0
      replace p341 := eq_true p341
      replace q341 := eq_true q341
      go_wp2_with (first | ((with_reducible refine gf_ 61 ?_); refine gc_ Tryz.func61 (impl_Page_isTag.calls g s0_0 s0_1 s0_2 x1003_1 x1004_1 (rd s0_1 x10_1) true t343 t344 w0 _ ?side1 ?side2 A6.out) ?_; (case side1 => exact (z23_0 HI0)); (case side2 => exact (z23_2)); rintro w15 ⟨hi, hb, hk⟩; replace HK := am (KeepBut.trans (z23_1) hk (.inl rfl)); replace HB := am hb; replace HI0 := am hi; (try clear hb); (try clear hk); (try clear hi); obtain ⟨ASz16_0, cSz16_0, ASz16_1, cSz16_1, ASz16_2, cSz16_2, HGz16, hgz16, HSz16_0, HSz16_1, HSz16_2⟩ := HI0.out; obtain ⟨⟨_, _, _, _, _⟩, _, _, _, _, _⟩ := Op.cells5 HGz16; clear HGz16) | (go_at_call 62; (with_reducible refine (impl_PageOk.ix k1 g s0_0 s0_1 s0_2 t343 t344 (rd s0_1 x10_1) t345 t346 t347 w0 _ ASz16_1 cSz16_1 ?side1 ?side2 HSz16_1 hgz16.2.2.1 A8.out).mono ?_); (case side1 => exact (z23_0 HI0)); (case side2 => exact (z23_2)); rintro e w17 ⟨rfl, hi, hb, hk⟩; replace HK := am (KeepBut.trans (z23_1) hk (.inl rfl)); replace HB := am hb; replace HI0 := am hi; (try clear hb); (try clear hk); (try clear hi)))
      go_ret
      exact ⟨ab7, ab1⟩
    ·simp only [Option.some.injEq, Prod.mk.injEq] at H
     obtain ⟨rfl, rfl, rfl⟩ := H
     obtain ⟨ASz18_0, cSz18_0, ASz18_1, cSz18_1, ASz18_2, cSz18_2, HGz18, hgz18, HSz18_0, HSz18_1, HSz18_2⟩ := HI0.out
     obtain ⟨⟨_, _, _, _, _⟩, _, _, _, _, _⟩ := Op.cells5 HGz18
     clear HGz18 hgz18
     have p341 : 0 ≤ (x10_1 : Int) := of_decide_eq_true ab4
     have q341 : x10_1 < (s0_1.length : Int) := of_decide_eq_true ab4
     obtain ⟨ad341, e341, hx341_0⟩ := Kd.at_int HR.out.2.2.1 x10_1 p341 q341
     cases e341
     replace hx341_0 := pc_ HB hx341_0
     replace p341 := eq_true p341
     replace q341 := eq_true q341
     go_wp2_with (first | ((with_reducible refine gf_ 61 ?_); refine gc_ Tryz.func61 (impl_Page_isTag.calls g s0_0 s0_1 s0_2 x1003_1 x1004_1 (rd s0_1 x10_1) false t343 t344 w0 _ ?side1 ?side2 A6.out) ?_; (case side1 => exact (z23_0 HI0)); (case side2 => exact (z23_2)); rintro w19 ⟨hi, hb, hk⟩; replace HK := am (KeepBut.trans (z23_1) hk (.inl rfl)); replace HB := am hb; replace HI0 := am hi; (try clear hb); (try clear hk); (try clear hi)))
     go_ret
     exact ⟨ab7, ab1⟩
   ·have H' := am H
    clear H
    obtain ⟨ASz20_0, cSz20_0, ASz20_1, cSz20_1, ASz20_2, cSz20_2, HGz20, hgz20, HSz20_0, HSz20_1, HSz20_2⟩ := HI0.out
    obtain ⟨⟨_, _, _, _, _⟩, _, _, _, _, _⟩ := Op.cells5 HGz20
    clear HGz20 hgz20
    go_wp2
    go_loopg [30] k1 (fun kq v30 w' => ∃ (x30_2 : Int), v30 = .int .i64 x30_2 ∧ Aside0 (impl_PageOk.l1 kq s0_2 (s0_2.length : Int) x30_2 s0_0 s0_1 s0_2 x1003_1 x1004_1 = some (r1, r2, r3)) ∧ Aside0 (kq ≤ k1) ∧ Aside0 (IsS31 w0 w' g s0_0 s0_1 s0_2 x1003_1 x1004_1) ∧ Aside0 (KeepBut w w' g none) ∧ Aside0 (Below w0.heap.size w0 w'))
    case atStart => exact ⟨(0), ab6, H', ⟨Nat.le_refl _⟩, ⟨z23_0 HI0⟩, ⟨z23_1⟩, ⟨ab1⟩⟩
    case round =>
     clear H'
     (try clear p2); (try clear c3); (try clear c3b0); (try clear p3); (try clear q3); (try clear hx3); (try clear c4); (try clear c4b0); (try clear c5); (try clear c5b0); (try clear p6); (try clear c7); (try clear c9); (try clear c9b0); (try clear c9b1); (try clear hcz10_0); (try clear hcz10_1); (try clear hcz10_2); (try clear hcz10_3); (try clear hcz10_4); (try clear hcz12_0); (try clear hcz12_1); (try clear hcz12_2); (try clear hcz12_3); (try clear hcz12_4); (try clear hcz14_0); (try clear hcz14_1); (try clear hcz14_2); (try clear hcz14_3); (try clear hcz14_4); (try clear hcz16_0); (try clear hcz16_1); (try clear hcz16_2); (try clear hcz16_3); (try clear hcz16_4); (try clear hcz18_0); (try clear hcz18_1); (try clear hcz18_2); (try clear hcz18_3); (try clear hcz18_4); (try clear hcz20_0); (try clear hcz20_1); (try clear hcz20_2); (try clear hcz20_3); (try clear hcz20_4); (try clear hcz2_0); (try clear hcz2_1); (try clear hcz2_2); (try clear hcz2_3); (try clear hcz2_4); (try clear hfz10_3); (try clear hfz10_4); (try clear hfz12_3); (try clear hfz12_4); (try clear hfz14_3); (try clear hfz14_4); (try clear hfz16_3); (try clear hfz16_4); (try clear hfz18_3); (try clear hfz18_4); (try clear hfz20_3); (try clear hfz20_4); (try clear hfz2_3); (try clear hfz2_4); (try clear hx341_0); (try clear p2); (try clear p341); (try clear q341)
     obtain ⟨x30_2, rfl, HA, HK2, HI0, HK, HB⟩ := hrel
     cases gk with
     | zero => exact absurd HA.out (by simp [impl_PageOk.l1])
     | succ k2 =>
      have H := HA.out
      clear HA
      simp only [impl_PageOk.l1] at H
      replace H := ir_ H; rcases H with ⟨c21b0, H⟩ | ⟨c21b0, H⟩
      ·replace H := iq_ H; obtain ⟨c22b0, H⟩ := H
       replace H := iq_ H; obtain ⟨c23b0, H⟩ := H
       replace H := ie_ H; rcases H with ⟨c24b0, c24b1, H⟩ | ⟨c24, c24b0, c24b1, H⟩
       ·have H' := am H
        clear H
        obtain ⟨ASz25_0, cSz25_0, ASz25_1, cSz25_1, ASz25_2, cSz25_2, HGz25, hgz25, HSz25_0, HSz25_1, HSz25_2⟩ := HI0.out
        obtain ⟨⟨_, _, _, _, _⟩, _, _, _, _, _⟩ := Op.cells5 HGz25
        clear HGz25 hgz25
        have p348 : 0 ≤ (x30_2 : Int) := of_decide_eq_true ab4
        have q348 : x30_2 < (s0_2.length : Int) := of_decide_eq_true ab4
        obtain ⟨ad348, e348, hx348_0⟩ := Kd.at_int HSz20_2 x30_2 p348 q348
        cases e348
        replace hx348_0 := pc_ HB hx348_0
        replace p348 := eq_true p348
        replace q348 := eq_true q348
        go_wp2
        go_roundg k2
        case measure => have := HK1.out; have := HK2.out; omega
        case rel => exact ⟨(wrap64 (x30_2 + 1)), ab6, H', ⟨by have := HK1.out; have := HK2.out; omega⟩, ⟨z23_0 HI0⟩, ⟨z23_1⟩, ⟨ab1⟩⟩
       ·replace H := Option.bind_eq_some_iff.mp H
        obtain ⟨⟨t349, t350, t351⟩, A260, H⟩ := H
        obtain ⟨rfl, rfl⟩ := impl_Page_isFormat.stays A260
        try dsimp only at H
        have A26 := am A260
        clear A260
        replace H := ib_ H; rcases H with ⟨rfl, H⟩ | ⟨rfl, H⟩
        ·have H' := am H
         clear H
         obtain ⟨ASz28_0, cSz28_0, ASz28_1, cSz28_1, ASz28_2, cSz28_2, HGz28, hgz28, HSz28_0, HSz28_1, HSz28_2⟩ := HI0.out
         obtain ⟨⟨_, _, _, _, _⟩, _, _, _, _, _⟩ := Op.cells5 HGz28
         clear HGz28 hgz28
         have p348 : 0 ≤ (x30_2 : Int) := of_decide_eq_true ab4
         have q348 : x30_2 < (s0_2.length : Int) := of_decide_eq_true ab4
         obtain ⟨ad348, e348, hx348_0⟩ := Kd.at_int HSz20_2 x30_2 p348 q348
         cases e348
         replace hx348_0 := pc_ HB hx348_0
         replace p348 := eq_true p348
         replace q348 := eq_true q348
         go_wp2_with (first | (go_at_call 63; (with_reducible refine (impl_Page_isFormat.calls g s0_0 s0_1 s0_2 x1003_1 x1004_1 (rd s0_2 x30_2) true x1003_1 x1004_1 w0 _ ?side1 ?side2 M_ HM_.out A26.out).mono ?_); (case side1 => exact (z23_0 HI0)); (case side2 => exact (z23_2)); rintro e w29 ⟨rfl, hi, hb, hk⟩; replace HK := am (KeepBut.trans (z23_1) hk (.inl rfl)); replace HB := am hb; replace HI0 := am hi; (try clear hb); (try clear hk); (try clear hi)))
         go_roundg k2
         case measure => have := HK1.out; have := HK2.out; omega
         case rel => exact ⟨(wrap64 (x30_2 + 1)), ab6, H', ⟨by have := HK1.out; have := HK2.out; omega⟩, ⟨z23_0 HI0⟩, ⟨z23_1⟩, ⟨ab1⟩⟩
        ·simp only [Option.some.injEq, Prod.mk.injEq] at H
         obtain ⟨rfl, rfl, rfl⟩ := H
         obtain ⟨ASz30_0, cSz30_0, ASz30_1, cSz30_1, ASz30_2, cSz30_2, HGz30, hgz30, HSz30_0, HSz30_1, HSz30_2⟩ := HI0.out
         obtain ⟨⟨_, _, _, _, _⟩, _, _, _, _, _⟩ := Op.cells5 HGz30
         clear HGz30 hgz30
         have p348 : 0 ≤ (x30_2 : Int) := of_decide_eq_true ab4
         have q348 : x30_2 < (s0_2.length : Int) := of_decide_eq_true ab4
         obtain ⟨ad348, e348, hx348_0⟩ := Kd.at_int HSz20_2 x30_2 p348 q348
         cases e348
         replace hx348_0 := pc_ HB hx348_0
         replace p348 := eq_true p348
         replace q348 := eq_true q348
         go_wp2_with (first | (go_at_call 63; (with_reducible refine (impl_Page_isFormat.calls g s0_0 s0_1 s0_2 x1003_1 x1004_1 (rd s0_2 x30_2) false x1003_1 x1004_1 w0 _ ?side1 ?side2 M_ HM_.out A26.out).mono ?_); (case side1 => exact (z23_0 HI0)); (case side2 => exact (z23_2)); rintro e w31 ⟨rfl, hi, hb, hk⟩; replace HK := am (KeepBut.trans (z23_1) hk (.inl rfl)); replace HB := am hb; replace HI0 := am hi; (try clear hb); (try clear hk); (try clear hi)))
         go_ret
         exact ⟨ab7, ab1⟩
      ·by_cases c32 : (s0_1.length : Int) ≤ 40
       ·rw [if_pos c32] at H
        have c32b0 := decide_eq_true c32
        have c32b1 : decide (s0_1.length ≤ 40) = true := decide_eq_true (by omega)
        clear c32
        by_cases c33 : (s0_2.length : Int) ≤ 120
        ·rw [if_pos c33] at H
         have c33b0 := decide_eq_true c33
         have c33b1 : decide (s0_2.length ≤ 120) = true := decide_eq_true (by omega)
         clear c33
         replace H := Option.bind_eq_some_iff.mp H
         obtain ⟨⟨t352, t353, t354⟩, A340, H⟩ := H
         try dsimp only at H
         have A34 := am A340
         clear A340
         replace H := ib_ H; rcases H with ⟨rfl, H⟩ | ⟨rfl, H⟩
         ·replace H := Option.bind_eq_some_iff.mp H
          obtain ⟨⟨t355, t356, t357⟩, A360, H⟩ := H
          try dsimp only at H
          have A36 := am A360
          clear A360
          replace H := ib_ H; rcases H with ⟨rfl, H⟩ | ⟨rfl, H⟩
          ·replace H := Option.bind_eq_some_iff.mp H
           obtain ⟨⟨t358, t359, t360⟩, A380, H⟩ := H
           try dsimp only at H
           have A38 := am A380
           clear A380
           simp only [Option.some.injEq, Prod.mk.injEq] at H
           obtain ⟨rfl, rfl, rfl⟩ := H
           obtain ⟨ASz39_0, cSz39_0, ASz39_1, cSz39_1, ASz39_2, cSz39_2, HGz39, hgz39, HSz39_0, HSz39_1, HSz39_2⟩ := HI0.out
           obtain ⟨⟨_, _, _, _, _⟩, _, _, _, _, _⟩ := Op.cells5 HGz39
           clear HGz39 hgz39
           go_wp2_with (first | (go_at_call 64; (with_reducible refine (impl_Page_isNamed.calls g s0_0 s0_1 s0_2 x1003_1 x1004_1 x1003_1 (⟨#[104, 101, 97, 100]⟩ : ByteArray) true t353 t354 w0 _ ?side1 ?side2 A34.out).mono ?_); (case side1 => exact (z23_0 HI0)); (case side2 => exact (z23_2)); rintro e w40 ⟨rfl, hi, hb, hk⟩; replace HK := am (KeepBut.trans (z23_1) hk (.inl rfl)); replace HB := am hb; replace HI0 := am hi; (try clear hb); (try clear hk); (try clear hi); obtain ⟨ASz41_0, cSz41_0, ASz41_1, cSz41_1, ASz41_2, cSz41_2, HGz41, hgz41, HSz41_0, HSz41_1, HSz41_2⟩ := HI0.out; obtain ⟨⟨_, _, _, _, _⟩, _, _, _, _, _⟩ := Op.cells5 HGz41; clear HGz41 hgz41) | (go_at_call 64; (with_reducible refine (impl_Page_isNamed.calls g s0_0 s0_1 s0_2 t353 t354 t354 (⟨#[98, 111, 100, 121]⟩ : ByteArray) true t356 t357 w0 _ ?side1 ?side2 A36.out).mono ?_); (case side1 => exact (z23_0 HI0)); (case side2 => exact (z23_2)); rintro e w42 ⟨rfl, hi, hb, hk⟩; replace HK := am (KeepBut.trans (z23_1) hk (.inl rfl)); replace HB := am hb; replace HI0 := am hi; (try clear hb); (try clear hk); (try clear hi); obtain ⟨ASz43_0, cSz43_0, ASz43_1, cSz43_1, ASz43_2, cSz43_2, HGz43, hgz43, HSz43_0, HSz43_1, HSz43_2⟩ := HI0.out; obtain ⟨⟨_, _, _, _, _⟩, _, _, _, _, _⟩ := Op.cells5 HGz43; clear HGz43) | (go_at_call 65; (with_reducible refine (impl_PageOk.tr k2 g s0_0 s0_1 s0_2 t356 t357 t358 t359 t360 w0 _ ASz43_0 cSz43_0 ?side1 ?side2 HSz43_0 hgz43.2.1 A38.out).mono ?_); (case side1 => exact (z23_0 HI0)); (case side2 => exact (z23_2)); rintro e w44 ⟨rfl, hi, hb, hk⟩; replace HK := am (KeepBut.trans (z23_1) hk (.inl rfl)); replace HB := am hb; replace HI0 := am hi; (try clear hb); (try clear hk); (try clear hi)))
           go_ret
           exact ⟨ab7, ab1⟩
          ·simp only [Option.some.injEq, Prod.mk.injEq] at H
           obtain ⟨rfl, rfl, rfl⟩ := H
           obtain ⟨ASz45_0, cSz45_0, ASz45_1, cSz45_1, ASz45_2, cSz45_2, HGz45, hgz45, HSz45_0, HSz45_1, HSz45_2⟩ := HI0.out
           obtain ⟨⟨_, _, _, _, _⟩, _, _, _, _, _⟩ := Op.cells5 HGz45
           clear HGz45 hgz45
           go_wp2_with (first | (go_at_call 64; (with_reducible refine (impl_Page_isNamed.calls g s0_0 s0_1 s0_2 x1003_1 x1004_1 x1003_1 (⟨#[104, 101, 97, 100]⟩ : ByteArray) true t353 t354 w0 _ ?side1 ?side2 A34.out).mono ?_); (case side1 => exact (z23_0 HI0)); (case side2 => exact (z23_2)); rintro e w46 ⟨rfl, hi, hb, hk⟩; replace HK := am (KeepBut.trans (z23_1) hk (.inl rfl)); replace HB := am hb; replace HI0 := am hi; (try clear hb); (try clear hk); (try clear hi); obtain ⟨ASz47_0, cSz47_0, ASz47_1, cSz47_1, ASz47_2, cSz47_2, HGz47, hgz47, HSz47_0, HSz47_1, HSz47_2⟩ := HI0.out; obtain ⟨⟨_, _, _, _, _⟩, _, _, _, _, _⟩ := Op.cells5 HGz47; clear HGz47 hgz47) | (go_at_call 64; (with_reducible refine (impl_Page_isNamed.calls g s0_0 s0_1 s0_2 t353 t354 t354 (⟨#[98, 111, 100, 121]⟩ : ByteArray) false t356 t357 w0 _ ?side1 ?side2 A36.out).mono ?_); (case side1 => exact (z23_0 HI0)); (case side2 => exact (z23_2)); rintro e w48 ⟨rfl, hi, hb, hk⟩; replace HK := am (KeepBut.trans (z23_1) hk (.inl rfl)); replace HB := am hb; replace HI0 := am hi; (try clear hb); (try clear hk); (try clear hi)))
           go_ret
           exact ⟨ab7, ab1⟩
         ·simp only [Option.some.injEq, Prod.mk.injEq] at H
          obtain ⟨rfl, rfl, rfl⟩ := H
          obtain ⟨ASz49_0, cSz49_0, ASz49_1, cSz49_1, ASz49_2, cSz49_2, HGz49, hgz49, HSz49_0, HSz49_1, HSz49_2⟩ := HI0.out
          obtain ⟨⟨_, _, _, _, _⟩, _, _, _, _, _⟩ := Op.cells5 HGz49
          clear HGz49 hgz49
          go_wp2_with (first | (go_at_call 64; (with_reducible refine (impl_Page_isNamed.calls g s0_0 s0_1 s0_2 x1003_1 x1004_1 x1003_1 (⟨#[104, 101, 97, 100]⟩ : ByteArray) false t353 t354 w0 _ ?side1 ?side2 A34.out).mono ?_); (case side1 => exact (z23_0 HI0)); (case side2 => exact (z23_2)); rintro e w50 ⟨rfl, hi, hb, hk⟩; replace HK := am (KeepBut.trans (z23_1) hk (.inl rfl)); replace HB := am hb; replace HI0 := am hi; (try clear hb); (try clear hk); (try clear hi)))
          go_ret
          exact ⟨ab7, ab1⟩
        ·rw [if_neg c33] at H
         have c33b0 := decide_eq_false c33
         have c33b1 : decide (s0_2.length ≤ 120) = false := decide_eq_false (by omega)
         clear c33
         simp only [Option.some.injEq, Prod.mk.injEq] at H
         obtain ⟨rfl, rfl, rfl⟩ := H
         obtain ⟨ASz51_0, cSz51_0, ASz51_1, cSz51_1, ASz51_2, cSz51_2, HGz51, hgz51, HSz51_0, HSz51_1, HSz51_2⟩ := HI0.out
         obtain ⟨⟨_, _, _, _, _⟩, _, _, _, _, _⟩ := Op.cells5 HGz51
         clear HGz51 hgz51
         go_wp2
         go_ret
         exact ⟨ab7, ab1⟩
       ·rw [if_neg c32] at H
        have c32b0 := decide_eq_false c32
        have c32b1 : decide (s0_1.length ≤ 40) = false := decide_eq_false (by omega)
        clear c32
        simp only [Option.some.injEq, Prod.mk.injEq] at H
        obtain ⟨rfl, rfl, rfl⟩ := H
        obtain ⟨ASz52_0, cSz52_0, ASz52_1, cSz52_1, ASz52_2, cSz52_2, HGz52, hgz52, HSz52_0, HSz52_1, HSz52_2⟩ := HI0.out
        obtain ⟨⟨_, _, _, _, _⟩, _, _, _, _, _⟩ := Op.cells5 HGz52
        clear HGz52 hgz52
        go_wp2
        go_ret
        exact ⟨ab7, ab1⟩
def impl_PageOk.f (k : Nat) (s0_0 : List (S53)) (s0_1 : List Int) (s0_2 : List Int) (s0_3 : Int) (s0_4 : Int) : Option Bool := (impl_PageOk.gf k s0_0 s0_1 s0_2 s0_3 s0_4).bind fun t => some t.1
theorem impl_PageOk.calls (k : Nat) (A0_0 : Option Addr) (c0_0 : Nat) (s0_0 : List (S53)) (A0_1 : Option Addr) (c0_1 : Nat) (s0_1 : List Int) (A0_2 : Option Addr) (c0_2 : Nat) (s0_2 : List Int) (s0_3 : Int) (s0_4 : Int) (r : Bool) (w0 : World) (hr0_0 : Kd.C k53 w0 A0_0 s0_0.length s0_0) (hc0_0 : s0_0.length ≤ c0_0) (hr0_1 : Kd.C (Kd.int .i64) w0 A0_1 s0_1.length s0_1) (hc0_1 : s0_1.length ≤ c0_1) (hr0_2 : Kd.C (Kd.int .i64) w0 A0_2 s0_2.length s0_2) (hc0_2 : s0_2.length ≤ c0_2) (M_ : Int) (hm_ : w0.cell? ⟨0, 0, none⟩ = some (.int .i64 M_)) (h : impl_PageOk.f k s0_0 s0_1 s0_2 s0_3 s0_4 = some r) :
  Calls Tryz.prog 33 #[.agg #[.slice A0_0 s0_0.length c0_0, .slice A0_1 s0_1.length c0_1, .slice A0_2 s0_2.length c0_2, .int .i64 s0_3, .int .i64 s0_4]] w0 fun e w' => e = .returned (.bool r) ∧ Below w0.heap.size w0 w' := by
 obtain ⟨⟨t1, t2, t3⟩, ht, hq⟩ := Option.bind_eq_some_iff.mp h
 obtain rfl : t1 = r := by simpa using hq
 exact impl_PageOk.gcalls k A0_0 c0_0 s0_0 A0_1 c0_1 s0_1 A0_2 c0_2 s0_2 s0_3 s0_4 t1 t2 t3 w0 hr0_0 hc0_0 hr0_1 hc0_1 hr0_2 hc0_2 M_ hm_ ht
theorem z24_0 {q0 p : Prop} (g0 : Aside0 q0) (h : Aside0 q0 → p := by intro g0_; repeat (first | (with_reducible first | exact g0_.out | apply IsS31.alloc | apply IsS31.drewN | apply IsS31.drew | apply IsS31.set_3 | apply IsS31.set_4) | exact g0_.out)) : p := h g0
theorem z24_1 {p : Prop} (h : p := by repeat (first | (with_reducible first | exact HK.out | apply KeepBut.set_ | apply keep_drewN | apply keep_drew | apply keep_alloc) | exact HK.out)) : p := h
def impl_Page_nameOf.f (s0_0 : List (S53)) (s0_1 : List Int) (s0_2 : List Int) (s0_3 : Int) (s0_4 : Int) (a1 : Int) : Option (ByteArray × Int × Int) := if 0 ≤ a1 then (if a1 < (s0_1.length : Int) then ((impl_inRange.f (rd s0_1 a1) 0 (wrap64 ((s0_0.length : Int) - 1))).bind fun t435 => (if t435 = true then (if 0 ≤ (rd s0_1 a1) then (if (rd s0_1 a1) < (s0_0.length : Int) then (some ((rd_T53 s0_0 (rd s0_1 a1)).f2, s0_3, s0_4)) else (none)) else (none)) else (some ((⟨#[]⟩ : ByteArray), s0_3, s0_4)))) else (none)) else (none)
theorem impl_Page_nameOf.calls (g : Nat) (s0_0 : List (S53)) (s0_1 : List Int) (s0_2 : List Int) (s0_3 : Int) (s0_4 : Int) (a1 : Int) (r1 : ByteArray) (r2 : Int) (r3 : Int) (w0 w : World) (hI : IsS31 w0 w g s0_0 s0_1 s0_2 s0_3 s0_4) (hB : Below w0.heap.size w0 w) (h : impl_Page_nameOf.f s0_0 s0_1 s0_2 s0_3 s0_4 a1 = some (r1, r2, r3)) :
  Calls Tryz.prog 114 #[.pointer (some ⟨g, 0, none⟩), .int .i64 a1] w fun e w' => e = .returned (.string r1) ∧ IsS31 w0 w' g s0_0 s0_1 s0_2 r2 r3 ∧ Below w0.heap.size w0 w' ∧ KeepBut w w' g none := by
 have HI0 := am hI
 have HK := am (KeepBut.refl w g none)
 have HL := am hB.size
 clear hI
 have HW0 := am hB.size
 have HB := am hB
 clear hB
 have H : (if 0 ≤ a1 then (if a1 < (s0_1.length : Int) then ((impl_inRange.f (rd s0_1 a1) 0 (wrap64 ((s0_0.length : Int) - 1))).bind fun t435 => (if t435 = true then (if 0 ≤ (rd s0_1 a1) then (if (rd s0_1 a1) < (s0_0.length : Int) then (some ((rd_T53 s0_0 (rd s0_1 a1)).f2, s0_3, s0_4)) else (none)) else (none)) else (some ((⟨#[]⟩ : ByteArray), s0_3, s0_4)))) else (none)) else (none)) = some (r1, r2, r3) := h
 clear h
 replace H := iq_ H; obtain ⟨c3b0, H⟩ := H
 replace H := iq_ H; obtain ⟨c4b0, H⟩ := H
 replace H := bi_ H; obtain ⟨t435, A5, H⟩ := H
 replace H := ib_ H; rcases H with ⟨rfl, H⟩ | ⟨rfl, H⟩
 ·replace H := iq_ H; obtain ⟨c7b0, H⟩ := H
  replace H := iq_ H; obtain ⟨c8b0, H⟩ := H
  simp only [Option.some.injEq, Prod.mk.injEq] at H
  obtain ⟨rfl, rfl, rfl⟩ := H
  obtain ⟨ASz9_0, cSz9_0, ASz9_1, cSz9_1, ASz9_2, cSz9_2, HGz9, hgz9, HSz9_0, HSz9_1, HSz9_2⟩ := HI0.out
  obtain ⟨⟨_, _, _, _, _⟩, _, _, _, _, _⟩ := Op.cells5 HGz9
  clear HGz9 hgz9
  have p434 : 0 ≤ (a1 : Int) := of_decide_eq_true ab4
  have q434 : a1 < (s0_1.length : Int) := of_decide_eq_true ab4
  obtain ⟨ad434, e434, hx434_0⟩ := Kd.at_int HSz9_1 a1 p434 q434
  cases e434
  replace hx434_0 := pc_ HB hx434_0
  replace p434 := eq_true p434
  replace q434 := eq_true q434
  have p436 : 0 ≤ (a1 : Int) := of_decide_eq_true ab4; have q436 : a1 < (s0_1.length : Int) := of_decide_eq_true ab4; obtain ⟨ad436, e436, hx436_0⟩ := Kd.at_int HSz9_1 a1 p436 q436; obtain rfl : ad434 = ad436 := (by injection e436); replace hx436_0 := pc_ HB hx436_0; replace p436 := eq_true p436; replace q436 := eq_true q436; have p437 : 0 ≤ ((rd s0_1 a1) : Int) := of_decide_eq_true ab4; have q437 : (rd s0_1 a1) < (s0_0.length : Int) := of_decide_eq_true ab4; obtain ⟨ad437, A437_3, c437_3, A437_6, c437_6, e437, hx437_0, hx437_1, hx437_2, hx437_3, hx437_4, hx437_5, hx437_6, hl437_3, hi437_3, hl437_6, hi437_6⟩ := at_T53 HSz9_0 (rd s0_1 a1) p437 q437; cases e437; replace hx437_0 := pc_ HB hx437_0; replace hx437_1 := pc_ HB hx437_1; replace hx437_2 := pc_ HB hx437_2; replace hx437_3 := pc_ HB hx437_3; replace hx437_4 := pc_ HB hx437_4; replace hx437_5 := pc_ HB hx437_5; replace hx437_6 := pc_ HB hx437_6; have HR437_3 := am hi437_3; have HC437_3 := am hl437_3; clear hi437_3 hl437_3; have HR437_6 := am hi437_6; have HC437_6 := am hl437_6; clear hi437_6 hl437_6; replace p437 := eq_true p437; replace q437 := eq_true q437
  go_enter Tryz.func114, Tryz.ntmps114
  go_wp2_with (first | (go_at_call 87; (with_reducible refine (impl_inRange.calls (rd s0_1 a1) 0 (wrap64 ((s0_0.length : Int) - 1)) true _ A5.out).mono ?_); rintro e w' ⟨rfl, ⟨nd, rfl⟩⟩; (try first | exact ⟨rfl, _, World.drewN_drewN _ _ _⟩ | exact ⟨rfl, _, Eq.trans (World.drewN_drewN _ _ _) (congrArg (World.drewN _) (Nat.add_assoc _ _ _))⟩)))
  repeat (go_quiet (first | (go_at_call 87; (with_reducible refine (impl_inRange.calls (rd s0_1 a1) 0 (wrap64 ((s0_0.length : Int) - 1)) true _ A5.out).mono ?_); rintro e w' ⟨rfl, ⟨nd, rfl⟩⟩; (try first | exact ⟨rfl, _, World.drewN_drewN _ _ _⟩ | exact ⟨rfl, _, Eq.trans (World.drewN_drewN _ _ _) (congrArg (World.drewN _) (Nat.add_assoc _ _ _))⟩))); try go_wp2_with (first | (go_at_call 87; (with_reducible refine (impl_inRange.calls (rd s0_1 a1) 0 (wrap64 ((s0_0.length : Int) - 1)) true _ A5.out).mono ?_); rintro e w' ⟨rfl, ⟨nd, rfl⟩⟩; (try first | exact ⟨rfl, _, World.drewN_drewN _ _ _⟩ | exact ⟨rfl, _, Eq.trans (World.drewN_drewN _ _ _) (congrArg (World.drewN _) (Nat.add_assoc _ _ _))⟩))))
  go_ret
  exact ⟨ab7, (z24_0 HI0), ab1, z24_1⟩
 ·simp only [Option.some.injEq, Prod.mk.injEq] at H
  obtain ⟨rfl, rfl, rfl⟩ := H
  obtain ⟨ASz10_0, cSz10_0, ASz10_1, cSz10_1, ASz10_2, cSz10_2, HGz10, hgz10, HSz10_0, HSz10_1, HSz10_2⟩ := HI0.out
  obtain ⟨⟨_, _, _, _, _⟩, _, _, _, _, _⟩ := Op.cells5 HGz10
  clear HGz10 hgz10
  have p434 : 0 ≤ (a1 : Int) := of_decide_eq_true ab4
  have q434 : a1 < (s0_1.length : Int) := of_decide_eq_true ab4
  obtain ⟨ad434, e434, hx434_0⟩ := Kd.at_int HSz10_1 a1 p434 q434
  cases e434
  replace hx434_0 := pc_ HB hx434_0
  replace p434 := eq_true p434
  replace q434 := eq_true q434
  go_enter Tryz.func114, Tryz.ntmps114
  go_wp2_with (first | (go_at_call 87; (with_reducible refine (impl_inRange.calls (rd s0_1 a1) 0 (wrap64 ((s0_0.length : Int) - 1)) false _ A5.out).mono ?_); rintro e w' ⟨rfl, ⟨nd, rfl⟩⟩; (try first | exact ⟨rfl, _, World.drewN_drewN _ _ _⟩ | exact ⟨rfl, _, Eq.trans (World.drewN_drewN _ _ _) (congrArg (World.drewN _) (Nat.add_assoc _ _ _))⟩)))
  repeat (go_quiet (first | (go_at_call 87; (with_reducible refine (impl_inRange.calls (rd s0_1 a1) 0 (wrap64 ((s0_0.length : Int) - 1)) false _ A5.out).mono ?_); rintro e w' ⟨rfl, ⟨nd, rfl⟩⟩; (try first | exact ⟨rfl, _, World.drewN_drewN _ _ _⟩ | exact ⟨rfl, _, Eq.trans (World.drewN_drewN _ _ _) (congrArg (World.drewN _) (Nat.add_assoc _ _ _))⟩))); try go_wp2_with (first | (go_at_call 87; (with_reducible refine (impl_inRange.calls (rd s0_1 a1) 0 (wrap64 ((s0_0.length : Int) - 1)) false _ A5.out).mono ?_); rintro e w' ⟨rfl, ⟨nd, rfl⟩⟩; (try first | exact ⟨rfl, _, World.drewN_drewN _ _ _⟩ | exact ⟨rfl, _, Eq.trans (World.drewN_drewN _ _ _) (congrArg (World.drewN _) (Nat.add_assoc _ _ _))⟩))))
  go_ret
  exact ⟨ab7, (z24_0 HI0), ab1, z24_1⟩
def impl_Page_lastName.f (s0_0 : List (S53)) (s0_1 : List Int) (s0_2 : List Int) (s0_3 : Int) (s0_4 : Int) : Option (ByteArray × Int × Int) := if (s0_1.length : Int) = 0 then (some ((⟨#[]⟩ : ByteArray), s0_3, s0_4)) else ((impl_Page_nameOf.f s0_0 s0_1 s0_2 s0_3 s0_4 (wrap64 ((s0_1.length : Int) - 1))).bind fun bt438 => (some (bt438.1, bt438.2.1, bt438.2.2)))
theorem impl_Page_lastName.calls (g : Nat) (s0_0 : List (S53)) (s0_1 : List Int) (s0_2 : List Int) (s0_3 : Int) (s0_4 : Int) (r1 : ByteArray) (r2 : Int) (r3 : Int) (w0 w : World) (hI : IsS31 w0 w g s0_0 s0_1 s0_2 s0_3 s0_4) (hB : Below w0.heap.size w0 w) (h : impl_Page_lastName.f s0_0 s0_1 s0_2 s0_3 s0_4 = some (r1, r2, r3)) :
  Calls Tryz.prog 108 #[.pointer (some ⟨g, 0, none⟩)] w fun e w' => e = .returned (.string r1) ∧ IsS31 w0 w' g s0_0 s0_1 s0_2 r2 r3 ∧ Below w0.heap.size w0 w' ∧ KeepBut w w' g none := by
 have HI0 := am hI
 have HK := am (KeepBut.refl w g none)
 have HL := am hB.size
 clear hI
 have HW0 := am hB.size
 have HB := am hB
 clear hB
 have H : (if (s0_1.length : Int) = 0 then (some ((⟨#[]⟩ : ByteArray), s0_3, s0_4)) else ((impl_Page_nameOf.f s0_0 s0_1 s0_2 s0_3 s0_4 (wrap64 ((s0_1.length : Int) - 1))).bind fun bt438 => (some (bt438.1, bt438.2.1, bt438.2.2)))) = some (r1, r2, r3) := h
 clear h
 replace H := ie_ H; rcases H with ⟨c2b0, c2b1, H⟩ | ⟨c2, c2b0, c2b1, H⟩
 ·simp only [Option.some.injEq, Prod.mk.injEq] at H
  obtain ⟨rfl, rfl, rfl⟩ := H
  obtain ⟨ASz3_0, cSz3_0, ASz3_1, cSz3_1, ASz3_2, cSz3_2, HGz3, hgz3, HSz3_0, HSz3_1, HSz3_2⟩ := HI0.out
  obtain ⟨⟨_, _, _, _, _⟩, _, _, _, _, _⟩ := Op.cells5 HGz3
  clear HGz3 hgz3
  go_enter Tryz.func108, Tryz.ntmps108
  go_wp2
  go_ret
  exact ⟨ab7, (z24_0 HI0), ab1, z24_1⟩
 ·have c2b2 : ¬ (s0_1 = []) := fun h_ => c2 (by rw [h_]; rfl)
  replace H := Option.bind_eq_some_iff.mp H
  obtain ⟨⟨t438, t439, t440⟩, A40, H⟩ := H
  try dsimp only at H
  have A4 := am A40
  clear A40
  simp only [Option.some.injEq, Prod.mk.injEq] at H
  obtain ⟨rfl, rfl, rfl⟩ := H
  obtain ⟨ASz5_0, cSz5_0, ASz5_1, cSz5_1, ASz5_2, cSz5_2, HGz5, hgz5, HSz5_0, HSz5_1, HSz5_2⟩ := HI0.out
  obtain ⟨⟨_, _, _, _, _⟩, _, _, _, _, _⟩ := Op.cells5 HGz5
  clear HGz5 hgz5
  go_enter Tryz.func108, Tryz.ntmps108
  go_wp2_with (first | ((with_reducible refine gf_ 114 ?_); refine gc_ Tryz.func114 (impl_Page_nameOf.calls g s0_0 s0_1 s0_2 s0_3 s0_4 (wrap64 ((s0_1.length : Int) - 1)) t438 t439 t440 w0 _ ?side1 ?side2 A4.out) ?_; (case side1 => exact (z24_0 HI0)); (case side2 => exact (by repeat (first | (with_reducible first | exact HB.out | apply below_alloc | apply pw_below_drewN | apply below_drew1) | exact HB.out))); rintro w6 ⟨hi, hb, hk⟩; replace HK := am (KeepBut.trans (z24_1) hk (.inl rfl)); replace HB := am hb; replace HI0 := am hi; (try clear hb); (try clear hk); (try clear hi)))
  go_ret
  exact ⟨ab7, (z24_0 HI0), ab1, z24_1⟩
def impl_Page_inTable.f (s0_0 : List (S53)) (s0_1 : List Int) (s0_2 : List Int) (s0_3 : Int) (s0_4 : Int) : Option (Bool × Int × Int) := (impl_Page_lastName.f s0_0 s0_1 s0_2 s0_3 s0_4).bind fun bt441 => ((impl_isOneOf.f bt441.1 (⟨#[116, 97, 98, 108, 101, 32, 116, 98, 111, 100, 121, 32, 116, 114]⟩ : ByteArray)).bind fun t444 => (some (t444, bt441.2.1, bt441.2.2)))
theorem impl_Page_inTable.calls (g : Nat) (s0_0 : List (S53)) (s0_1 : List Int) (s0_2 : List Int) (s0_3 : Int) (s0_4 : Int) (r1 : Bool) (r2 : Int) (r3 : Int) (w0 w : World) (hI : IsS31 w0 w g s0_0 s0_1 s0_2 s0_3 s0_4) (hB : Below w0.heap.size w0 w) (M_ : Int) (hm_ : w0.cell? ⟨0, 0, none⟩ = some (.int .i64 M_)) (h : impl_Page_inTable.f s0_0 s0_1 s0_2 s0_3 s0_4 = some (r1, r2, r3)) :
  Calls Tryz.prog 94 #[.pointer (some ⟨g, 0, none⟩)] w fun e w' => e = .returned (.bool r1) ∧ IsS31 w0 w' g s0_0 s0_1 s0_2 r2 r3 ∧ Below w0.heap.size w0 w' ∧ KeepBut w w' g none := by
 have HI0 := am hI
 have HK := am (KeepBut.refl w g none)
 have HL := am hB.size
 clear hI
 have HW0 := am hB.size
 have HB := am hB
 clear hB
 have HM_ := am hm_
 clear hm_
 have H : ((impl_Page_lastName.f s0_0 s0_1 s0_2 s0_3 s0_4).bind fun bt441 => ((impl_isOneOf.f bt441.1 (⟨#[116, 97, 98, 108, 101, 32, 116, 98, 111, 100, 121, 32, 116, 114]⟩ : ByteArray)).bind fun t444 => (some (t444, bt441.2.1, bt441.2.2)))) = some (r1, r2, r3) := h
 clear h
 replace H := Option.bind_eq_some_iff.mp H
 obtain ⟨⟨t441, t442, t443⟩, A20, H⟩ := H
 try dsimp only at H
 have A2 := am A20
 clear A20
 replace H := bi_ H; obtain ⟨t444, A3, H⟩ := H
 simp only [Option.some.injEq, Prod.mk.injEq] at H
 obtain ⟨rfl, rfl, rfl⟩ := H
 go_enter Tryz.func94, Tryz.ntmps94
 go_wp2_with (first | ((with_reducible refine gf_ 108 ?_); refine gc_ Tryz.func108 (impl_Page_lastName.calls g s0_0 s0_1 s0_2 s0_3 s0_4 t441 t442 t443 w0 _ ?side1 ?side2 A2.out) ?_; (case side1 => exact (z24_0 HI0)); (case side2 => exact (by repeat (first | (with_reducible first | exact HB.out | apply below_alloc | apply pw_below_drewN | apply below_drew1) | exact HB.out))); rintro w4 ⟨hi, hb, hk⟩; replace HK := am (KeepBut.trans (z24_1) hk (.inl rfl)); replace HB := am hb; replace HI0 := am hi; (try clear hb); (try clear hk); (try clear hi)) | ((with_reducible refine gf_ 106 ?_); refine gc_ Tryz.func106 (impl_isOneOf.calls t441 (⟨#[116, 97, 98, 108, 101, 32, 116, 98, 111, 100, 121, 32, 116, 114]⟩ : ByteArray) t444 _ M_ (pw_cell_below ab1 HM_.out) A3.out) ?_; rintro w' ⟨nd, rfl⟩))
 go_ret
 exact ⟨ab7, (z24_0 HI0), ab1, z24_1⟩
def impl_Page_last.f (s0_0 : List (S53)) (s0_1 : List Int) (s0_2 : List Int) (s0_3 : Int) (s0_4 : Int) : Option (Int × Int × Int) := if (s0_1.length : Int) = 0 then (some (0, s0_3, s0_4)) else (if 0 ≤ (wrap64 ((s0_1.length : Int) - 1)) then (if (wrap64 ((s0_1.length : Int) - 1)) < (s0_1.length : Int) then (some (rd s0_1 (wrap64 ((s0_1.length : Int) - 1)), s0_3, s0_4)) else (none)) else (none))
theorem impl_Page_last.calls (g : Nat) (s0_0 : List (S53)) (s0_1 : List Int) (s0_2 : List Int) (s0_3 : Int) (s0_4 : Int) (r1 : Int) (r2 : Int) (r3 : Int) (w0 w : World) (hI : IsS31 w0 w g s0_0 s0_1 s0_2 s0_3 s0_4) (hB : Below w0.heap.size w0 w) (h : impl_Page_last.f s0_0 s0_1 s0_2 s0_3 s0_4 = some (r1, r2, r3)) :
  Calls Tryz.prog 95 #[.pointer (some ⟨g, 0, none⟩)] w fun e w' => e = .returned (.int .i64 r1) ∧ IsS31 w0 w' g s0_0 s0_1 s0_2 r2 r3 ∧ Below w0.heap.size w0 w' ∧ KeepBut w w' g none := by
 have HI0 := am hI
 have HK := am (KeepBut.refl w g none)
 have HL := am hB.size
 clear hI
 have HW0 := am hB.size
 have HB := am hB
 clear hB
 have H : (if (s0_1.length : Int) = 0 then (some (0, s0_3, s0_4)) else (if 0 ≤ (wrap64 ((s0_1.length : Int) - 1)) then (if (wrap64 ((s0_1.length : Int) - 1)) < (s0_1.length : Int) then (some (rd s0_1 (wrap64 ((s0_1.length : Int) - 1)), s0_3, s0_4)) else (none)) else (none))) = some (r1, r2, r3) := h
 clear h
 replace H := ie_ H; rcases H with ⟨c2b0, c2b1, H⟩ | ⟨c2, c2b0, c2b1, H⟩
 ·simp only [Option.some.injEq, Prod.mk.injEq] at H
  obtain ⟨rfl, rfl, rfl⟩ := H
  obtain ⟨ASz3_0, cSz3_0, ASz3_1, cSz3_1, ASz3_2, cSz3_2, HGz3, hgz3, HSz3_0, HSz3_1, HSz3_2⟩ := HI0.out
  obtain ⟨⟨_, _, _, _, _⟩, _, _, _, _, _⟩ := Op.cells5 HGz3
  clear HGz3 hgz3
  go_enter Tryz.func95, Tryz.ntmps95
  go_wp2
  repeat (go_quiet (fail); try go_wp2)
  go_ret
  exact ⟨ab7, (z24_0 HI0), ab1, z24_1⟩
 ·have c2b2 : ¬ (s0_1 = []) := fun h_ => c2 (by rw [h_]; rfl)
  obtain ⟨ji4, hji4⟩ : ∃ j_ : Int, (wrap64 ((s0_1.length : Int) - 1)) = j_ := ⟨_, rfl⟩
  replace H : (if 0 ≤ (ji4) then (if (ji4) < (s0_1.length : Int) then (some (rd s0_1 (ji4), s0_3, s0_4)) else (none)) else (none)) = some (r1, r2, r3) := by first | (rw [hji4] at H; exact H) | (simp only [hji4] at H ⊢; exact H)
  have hji4w : (IntKind.i64.wrap ((s0_1.length : Int) - 1)) = ji4 := (i64_w _).trans hji4
  replace H := iq_ H; obtain ⟨c5b0, H⟩ := H
  replace H := iq_ H; obtain ⟨c6b0, H⟩ := H
  simp only [Option.some.injEq, Prod.mk.injEq] at H
  obtain ⟨rfl, rfl, rfl⟩ := H
  obtain ⟨ASz7_0, cSz7_0, ASz7_1, cSz7_1, ASz7_2, cSz7_2, HGz7, hgz7, HSz7_0, HSz7_1, HSz7_2⟩ := HI0.out
  obtain ⟨⟨_, _, _, _, _⟩, _, _, _, _, _⟩ := Op.cells5 HGz7
  clear HGz7 hgz7
  have p445 : 0 ≤ ((ji4) : Int) := of_decide_eq_true ab4
  have q445 : (ji4) < (s0_1.length : Int) := of_decide_eq_true ab4
  obtain ⟨ad445, e445, hx445_0⟩ := Kd.at_int HSz7_1 (ji4) p445 q445
  cases e445
  replace hx445_0 := pc_ HB hx445_0
  replace p445 := eq_true p445
  replace q445 := eq_true q445
  go_enter Tryz.func95, Tryz.ntmps95
  go_wp2
  repeat (go_quiet (fail); try go_wp2)
  go_ret
  exact ⟨by first | rfl | (simp [errW_none, errW_some] <;> rfl) | (simp only [← hji4]; first | rfl | (simp [errW_none, errW_some] <;> rfl)) | (simp [*, errW_none, errW_some] <;> rfl), (z24_0 HI0), ab1, z24_1⟩
theorem z25_0 {q0 p : Prop} (g0 : Aside0 q0) (h : Aside0 q0 → p := by intro g0_; repeat (first | (with_reducible first | exact g0_.out | apply IsS31.alloc | apply IsS31.drewN | apply IsS31.drew | apply IsS31.set_3 | apply IsS31.set_4) | exact g0_.out)) : p := h g0
theorem z25_1 {p : Prop} (h : p := by repeat (first | (with_reducible first | exact HK.out | apply KeepBut.set_ | apply keep_drewN | apply keep_drew | apply keep_alloc) | exact HK.out)) : p := h
theorem z25_2 {p : Prop} (h : p := by repeat (first | (with_reducible first | exact HB.out | apply below_alloc | apply pw_below_drewN | apply below_drew1) | exact HB.out)) : p := h
def impl_Page_openAt (name : ByteArray) (s0_0 : List (S53)) (s0_1 : List Int) (s0_2 : List Int) (s0_3 : Int) (s0_4 : Int) : Nat → Option Int
 | 0 => some (-1)
 | j + 1 => (impl_Page_nameOf.f s0_0 s0_1 s0_2 s0_3 s0_4 (j : Int)).bind fun t => if t.1.toList == name.toList then some (j : Int) else impl_Page_openAt name s0_0 s0_1 s0_2 s0_3 s0_4 j
theorem impl_Page_nameOf.stays {s0_0 : List (S53)} {s0_1 : List Int} {s0_2 : List Int} {s0_3 : Int} {s0_4 : Int} {a1 : Int} {r1 : ByteArray} {r2 r3 : Int} (h : impl_Page_nameOf.f s0_0 s0_1 s0_2 s0_3 s0_4 a1 = some (r1, r2, r3)) : r2 = s0_3 ∧ r3 = s0_4 := by
 unfold impl_Page_nameOf.f at h
 split at h
 ·split at h
  ·obtain ⟨t, _, h⟩ := Option.bind_eq_some_iff.mp h
   repeat' split at h
   all_goals simp only [Option.some.injEq, Prod.mk.injEq, reduceCtorEq] at h
   all_goals exact ⟨h.2.1.symm, h.2.2.symm⟩
  ·exact absurd h (by simp)
 ·exact absurd h (by simp)
def impl_Page_tableOpen.f (s0_0 : List (S53)) (s0_1 : List Int) (s0_2 : List Int) (s0_3 : Int) (s0_4 : Int) : Option (Int × Int × Int) := (impl_Page_openAt (⟨#[116, 97, 98, 108, 101]⟩ : ByteArray) s0_0 s0_1 s0_2 s0_3 s0_4 s0_1.length).bind fun t => some (t, s0_3, s0_4)
theorem lit_isName (n name : ByteArray) (b : Nat) (q : Bool) (w : World) (hq : (n.toList == name.toList) = q) (hc : w.cell? ⟨b, 0, none⟩ = some (.string name)) :
  Calls Tryz.prog 118 #[.string n, .pointer (some ⟨b, 0, none⟩)] w fun e w' => e = .returned (.bool q) ∧ Below w.heap.size w w' := by
 subst hq
 have HB := am (Below.refl w.heap.size w)
 go_enter Tryz.func118, Tryz.ntmps118
 go_wp2
 go_ret
 exact ⟨rfl, ab1⟩
theorem impl_isName.calls (name : ByteArray) (w : World) :
  Calls Tryz.prog 110 #[.string name] w fun e w' => ∃ b, e = .returned (.func (.func 118) #[] #[.pointer (some ⟨b, 0, none⟩)]) ∧ w'.heap[b]? = some (.cells #[.string name] 9 (0, 0)) ∧ Below w.heap.size w w' := by
 have HB := am (Below.refl w.heap.size w)
 go_enter Tryz.func110, Tryz.ntmps110
 go_wp2_with (first | ((with_reducible refine gd_ 1 ?_); refine bx_ 1 (cs := #[.string name]) 9 ?_; intro g hg w1 hbox hb; have BK := am hbox; have n0_ := am hb; clear HB; have HB := n0_; clear n0_ hb hbox hg; skip))
 go_ret
 exact ⟨_, rfl, BK.out, ab1⟩
theorem impl_Page_innermost.calls (name : ByteArray) (b : Nat) (g : Nat) (s0_0 : List (S53)) (s0_1 : List Int) (s0_2 : List Int) (s0_3 : Int) (s0_4 : Int) (r : Int) (w0 w : World) (hI : IsS31 w0 w g s0_0 s0_1 s0_2 s0_3 s0_4) (hB : Below w0.heap.size w0 w) (hb : w.heap[b]? = some (.cells #[.string name] 9 (0, 0))) (h : impl_Page_openAt name s0_0 s0_1 s0_2 s0_3 s0_4 s0_1.length = some r) :
  Calls Tryz.prog 109 #[.pointer (some ⟨g, 0, none⟩), .func (.func 118) #[] #[.pointer (some ⟨b, 0, none⟩)]] w fun e w' => e = .returned (.int .i64 r) ∧ IsS31 w0 w' g s0_0 s0_1 s0_2 s0_3 s0_4 ∧ Below w0.heap.size w0 w' ∧ KeepBut w w' g none := by
 have HI0 := am hI
 have HB := am hB
 have HK := am (KeepBut.refl w g none)
 have HBK := am hb
 have HNE := am (hI.ne_blk hb (by decide))
 have HA := am h
 clear hI hB hb h
 obtain ⟨A0, c0, A1, c1, A2, c2, hG, hgz, hR0, hR1, hR2⟩ := HI0.out
 have hlen : s0_1.length ≤ 9223372036854775807 := by have := hR1.2.1; omega
 have HLEN := am hlen
 have hcz_1 := cellS31_1 hG
 clear hG hgz hR0 hR1 hR2
 go_enter Tryz.func109, Tryz.ntmps109
 go_wp2
 go_loopw [5] (fun v5 wr => ∃ (j : Nat), v5 = .int .i64 ((j : Int) - 1) ∧ Aside0 (j ≤ s0_1.length) ∧ Aside0 (impl_Page_openAt name s0_0 s0_1 s0_2 s0_3 s0_4 j = some r) ∧ Aside0 (IsS31 w0 wr g s0_0 s0_1 s0_2 s0_3 s0_4) ∧ Aside0 (Below w0.heap.size w0 wr) ∧ Aside0 (KeepBut w wr g none)) (fun v5 _ => (intOf v5 + 1).toNat)
 case atStart => exact ⟨s0_1.length, by go_num, ⟨Nat.le_refl _⟩, HA, ⟨z25_0 HI0⟩, ⟨ab1⟩, ⟨z25_1⟩⟩
 case round =>
  clear hcz_1 HI0 HB HK HA
  obtain ⟨j, rfl, HJ, HA, HI0, HB, HK⟩ := hrel
  cases j with
  | zero =>
   have HE := am (Option.some.inj HA.out)
   go_wp2
   go_ret
   exact ⟨by rw [← HE.out]; rfl, (z25_0 HI0), ab1, z25_1⟩
  | succ j =>
   have hA := HA.out
   unfold impl_Page_openAt at hA
   obtain ⟨⟨t1, t2, t3⟩, ht, hA⟩ := Option.bind_eq_some_iff.mp hA
   obtain ⟨rfl, rfl⟩ := impl_Page_nameOf.stays ht
   have HT := am ht
   clear ht HA
   have hj : ((j + 1 : Nat) : Int) - 1 = (j : Int) := by omega
   simp only [hj]
   have hcb := fun (w1 : World) (hk : KeepBut w w1 g none) => (blk_cell ((hk.2 b (Array.getElem?_eq_some_iff.mp HBK.out).1 (fun h => HNE.out h.symm) (by simp)).trans HBK.out) 0).trans (rfl : _ = some (Value.string name))
   have HCB := am hcb
   clear hcb
   by_cases hq : (t1.toList == name.toList) = true
   ·rw [if_pos hq] at hA
    have HE := am (Option.some.inj hA)
    have HQ := am hq
    clear hA hq
    go_wp2_with (first | (go_at_call 114; (with_reducible refine (impl_Page_nameOf.calls g s0_0 s0_1 s0_2 t2 t3 (j : Int) t1 t2 t3 w0 _ ?side1 ?side2 HT.out).mono ?_); (case side1 => exact (z25_0 HI0)); (case side2 => exact z25_2); rintro e w1 ⟨rfl, hi, hb, hk⟩; have n0_ := am (KeepBut.trans (z25_1) hk (.inl rfl)); clear HK HB HI0; have HK := n0_; have HB := am hb; have HI0 := am hi; clear n0_ hi hb hk) | (go_at_call 118; (with_reducible refine (lit_isName t1 name b true _ HQ.out (HCB.out _ (z25_1))).mono ?_); rintro e w2 ⟨rfl, hb⟩; have n0_ := am (KeepBut.trans (z25_1) (KeepBut.of_below hb g none) (.inl rfl)); have n1_ := am (below_step ab1 hb); have n2_ := am (IsS31.below (z25_0 HI0) hb); clear HK HB HI0; have HK := n0_; have HB := n1_; have HI0 := n2_; clear n0_ n1_ n2_ hb))
    go_ret
    exact ⟨by rw [← HE.out]; rfl, (z25_0 HI0), ab1, z25_1⟩
   ·rw [if_neg hq] at hA
    have HE := am hA
    have HQ := am (Bool.eq_false_iff.mpr hq)
    clear hA hq
    go_wp2_with (first | (go_at_call 114; (with_reducible refine (impl_Page_nameOf.calls g s0_0 s0_1 s0_2 t2 t3 (j : Int) t1 t2 t3 w0 _ ?side1 ?side2 HT.out).mono ?_); (case side1 => exact (z25_0 HI0)); (case side2 => exact z25_2); rintro e w1 ⟨rfl, hi, hb, hk⟩; have n0_ := am (KeepBut.trans (z25_1) hk (.inl rfl)); clear HK HB HI0; have HK := n0_; have HB := am hb; have HI0 := am hi; clear n0_ hi hb hk) | (go_at_call 118; (with_reducible refine (lit_isName t1 name b false _ HQ.out (HCB.out _ (z25_1))).mono ?_); rintro e w2 ⟨rfl, hb⟩; have n0_ := am (KeepBut.trans (z25_1) (KeepBut.of_below hb g none) (.inl rfl)); have n1_ := am (below_step ab1 hb); have n2_ := am (IsS31.below (z25_0 HI0) hb); clear HK HB HI0; have HK := n0_; have HB := n1_; have HI0 := n2_; clear n0_ n1_ n2_ hb))
    have hw : wrap64 ((j : Int) - 1) = (j : Int) - 1 := by have := HJ.out; have := HLEN.out; unfold wrap64; omega
    go_roundw
    case rel => exact ⟨j, by rw [hw], ⟨by have := HJ.out; omega⟩, HE, ⟨z25_0 HI0⟩, ⟨ab1⟩, ⟨z25_1⟩⟩
    case measure => rw [hw]; simp [intOf]
theorem impl_Page_tableOpen.calls (g : Nat) (s0_0 : List (S53)) (s0_1 : List Int) (s0_2 : List Int) (s0_3 : Int) (s0_4 : Int) (r1 r2 r3 : Int) (w0 w : World) (hI : IsS31 w0 w g s0_0 s0_1 s0_2 s0_3 s0_4) (hB : Below w0.heap.size w0 w) (h : impl_Page_tableOpen.f s0_0 s0_1 s0_2 s0_3 s0_4 = some (r1, r2, r3)) :
  Calls Tryz.prog 96 #[.pointer (some ⟨g, 0, none⟩)] w fun e w' => e = .returned (.int .i64 r1) ∧ IsS31 w0 w' g s0_0 s0_1 s0_2 r2 r3 ∧ Below w0.heap.size w0 w' ∧ KeepBut w w' g none := by
 obtain ⟨t, ht, hq⟩ := Option.bind_eq_some_iff.mp h
 obtain ⟨rfl, rfl, rfl⟩ : t = r1 ∧ s0_3 = r2 ∧ s0_4 = r3 := by simpa using hq
 clear h hq
 have HI0 := am hI
 have HB := am hB
 have HK := am (KeepBut.refl w g none)
 have HT := am ht
 clear hI hB ht
 go_enter Tryz.func96, Tryz.ntmps96
 go_wp2_with (first | (go_at_call 110; (refine (impl_isName.calls (⟨#[116, 97, 98, 108, 101]⟩ : ByteArray) _).mono ?_); rintro e w1 ⟨b, rfl, hbk, hb⟩; have HBK := am hbk; have n0_ := am (KeepBut.trans (z25_1) (KeepBut.of_below hb g none) (.inl rfl)); have n1_ := am (below_step ab1 hb); have n2_ := am (IsS31.below (z25_0 HI0) hb); clear HK HB HI0; have HK := n0_; have HB := n1_; have HI0 := n2_; clear n0_ n1_ n2_ hb hbk) | (go_at_call 109; (refine (impl_Page_innermost.calls (⟨#[116, 97, 98, 108, 101]⟩ : ByteArray) _ g s0_0 s0_1 s0_2 s0_3 s0_4 t w0 _ ?side1 ?side2 HBK.out HT.out).mono ?_); (case side1 => exact (z25_0 HI0)); (case side2 => exact z25_2); rintro e w2 ⟨rfl, hi, hb, hk⟩; have n0_ := am (KeepBut.trans (z25_1) hk (.inl rfl)); clear HK HB HI0; have HK := n0_; have HB := am hb; have HI0 := am hi; clear n0_ hi hb hk))
 go_ret
 exact ⟨rfl, (z25_0 HI0), ab1, z25_1⟩
theorem z26_0 {q0 p : Prop} (g0 : Aside0 q0) (h : Aside0 q0 → p := by intro g0_; repeat (first | (with_reducible first | exact g0_.out | apply IsS31.alloc | apply IsS31.drewN | apply IsS31.drew | apply IsS31.set_3 | apply IsS31.set_4) | exact g0_.out)) : p := h g0
theorem z26_1 {p : Prop} (h : p := by repeat (first | (with_reducible first | exact HB.out | apply below_alloc | apply pw_below_drewN | apply below_drew1) | exact HB.out)) : p := h
theorem z26_2 {p : Prop} (h : p := by repeat (first | (with_reducible first | exact HK.out | apply KeepBut.set_ | apply keep_drewN | apply keep_drew | apply keep_alloc) | exact HK.out)) : p := h
def impl_Page_place.f (k : Nat) (s0_0 : List (S53)) (s0_1 : List Int) (s0_2 : List Int) (s0_3 : Int) (s0_4 : Int) : Option (Int × Int × Int × Int) := (impl_Page_inTable.f s0_0 s0_1 s0_2 s0_3 s0_4).bind fun bt361 => (if bt361.1 = true then ((impl_Page_tableOpen.f s0_0 s0_1 s0_2 bt361.2.1 bt361.2.2).bind fun bt367 => (if bt367.1 < 0 then ((impl_Page_last.f s0_0 s0_1 s0_2 bt367.2.1 bt367.2.2).bind fun bt370 => (some (bt370.1, (-1), bt370.2.1, bt370.2.2))) else (if 0 ≤ bt367.1 then (if bt367.1 < (s0_1.length : Int) then (if 0 ≤ (rd s0_1 bt367.1) then (if (rd s0_1 bt367.1) < (s0_0.length : Int) then (if 0 ≤ ((rd_T53 s0_0 (rd s0_1 bt367.1)).f5) then (if ((rd_T53 s0_0 (rd s0_1 bt367.1)).f5) < (s0_0.length : Int) then ((slices_Index_int_int.f k ((rd_T53 s0_0 ((rd_T53 s0_0 (rd s0_1 bt367.1)).f5)).f6) (rd s0_1 bt367.1)).bind fun t376 => (some ((rd_T53 s0_0 (rd s0_1 bt367.1)).f5, t376, bt367.2.1, bt367.2.2))) else (none)) else (none)) else (none)) else (none)) else (none)) else (none)))) else ((impl_Page_last.f s0_0 s0_1 s0_2 bt361.2.1 bt361.2.2).bind fun bt364 => (some (bt364.1, (-1), bt364.2.1, bt364.2.2))))
theorem impl_Page_place.calls (k : Nat) (g : Nat) (s0_0 : List (S53)) (s0_1 : List Int) (s0_2 : List Int) (s0_3 : Int) (s0_4 : Int) (r1 : Int) (r2 : Int) (r3 : Int) (r4 : Int) (w0 w : World) (hI : IsS31 w0 w g s0_0 s0_1 s0_2 s0_3 s0_4) (hB : Below w0.heap.size w0 w) (M_ : Int) (hm_ : w0.cell? ⟨0, 0, none⟩ = some (.int .i64 M_)) (h : impl_Page_place.f k s0_0 s0_1 s0_2 s0_3 s0_4 = some (r1, r2, r3, r4)) :
  Calls Tryz.prog 66 #[.pointer (some ⟨g, 0, none⟩)] w fun e w' => e = .returned (.tuple #[.int .i64 r1, .int .i64 r2]) ∧ IsS31 w0 w' g s0_0 s0_1 s0_2 r3 r4 ∧ Below w0.heap.size w0 w' ∧ KeepBut w w' g none := by
 have HI0 := am hI
 have HK := am (KeepBut.refl w g none)
 have HL := am hB.size
 clear hI
 have HW0 := am hB.size
 have HB := am hB
 clear hB
 have HM_ := am hm_
 clear hm_
 have H : ((impl_Page_inTable.f s0_0 s0_1 s0_2 s0_3 s0_4).bind fun bt361 => (if bt361.1 = true then ((impl_Page_tableOpen.f s0_0 s0_1 s0_2 bt361.2.1 bt361.2.2).bind fun bt367 => (if bt367.1 < 0 then ((impl_Page_last.f s0_0 s0_1 s0_2 bt367.2.1 bt367.2.2).bind fun bt370 => (some (bt370.1, (-1), bt370.2.1, bt370.2.2))) else (if 0 ≤ bt367.1 then (if bt367.1 < (s0_1.length : Int) then (if 0 ≤ (rd s0_1 bt367.1) then (if (rd s0_1 bt367.1) < (s0_0.length : Int) then (if 0 ≤ ((rd_T53 s0_0 (rd s0_1 bt367.1)).f5) then (if ((rd_T53 s0_0 (rd s0_1 bt367.1)).f5) < (s0_0.length : Int) then ((slices_Index_int_int.f k ((rd_T53 s0_0 ((rd_T53 s0_0 (rd s0_1 bt367.1)).f5)).f6) (rd s0_1 bt367.1)).bind fun t376 => (some ((rd_T53 s0_0 (rd s0_1 bt367.1)).f5, t376, bt367.2.1, bt367.2.2))) else (none)) else (none)) else (none)) else (none)) else (none)) else (none)))) else ((impl_Page_last.f s0_0 s0_1 s0_2 bt361.2.1 bt361.2.2).bind fun bt364 => (some (bt364.1, (-1), bt364.2.1, bt364.2.2))))) = some (r1, r2, r3, r4) := h
 clear h
 replace H := Option.bind_eq_some_iff.mp H
 obtain ⟨⟨t361, t362, t363⟩, A20, H⟩ := H
 try dsimp only at H
 have A2 := am A20
 clear A20
 replace H := ib_ H; rcases H with ⟨rfl, H⟩ | ⟨rfl, H⟩
 ·replace H := Option.bind_eq_some_iff.mp H
  obtain ⟨⟨t367, t368, t369⟩, A40, H⟩ := H
  try dsimp only at H
  have A4 := am A40
  clear A40
  replace H := ir_ H; rcases H with ⟨c5b0, H⟩ | ⟨c5b0, H⟩
  ·replace H := Option.bind_eq_some_iff.mp H
   obtain ⟨⟨t370, t371, t372⟩, A60, H⟩ := H
   try dsimp only at H
   have A6 := am A60
   clear A60
   simp only [Option.some.injEq, Prod.mk.injEq] at H
   obtain ⟨rfl, rfl, rfl, rfl⟩ := H
   go_enter Tryz.func66, Tryz.ntmps66
   go_wp2_with (first | ((with_reducible refine gf_ 94 ?_); refine gc_ Tryz.func94 (impl_Page_inTable.calls g s0_0 s0_1 s0_2 s0_3 s0_4 true t362 t363 w0 _ ?side1 ?side2 M_ HM_.out A2.out) ?_; (case side1 => exact (z26_0 HI0)); (case side2 => exact (z26_1)); rintro w7 ⟨hi, hb, hk⟩; replace HK := am (KeepBut.trans (z26_2) hk (.inl rfl)); replace HB := am hb; replace HI0 := am hi; (try clear hb); (try clear hk); (try clear hi)) | ((with_reducible refine gf_ 96 ?_); refine gc_ Tryz.func96 (impl_Page_tableOpen.calls g s0_0 s0_1 s0_2 t362 t363 t367 t368 t369 w0 _ ?side1 ?side2 A4.out) ?_; (case side1 => exact (z26_0 HI0)); (case side2 => exact (z26_1)); rintro w8 ⟨hi, hb, hk⟩; replace HK := am (KeepBut.trans (z26_2) hk (.inl rfl)); replace HB := am hb; replace HI0 := am hi; (try clear hb); (try clear hk); (try clear hi)) | ((with_reducible refine gf_ 95 ?_); refine gc_ Tryz.func95 (impl_Page_last.calls g s0_0 s0_1 s0_2 t368 t369 t370 t371 t372 w0 _ ?side1 ?side2 A6.out) ?_; (case side1 => exact (z26_0 HI0)); (case side2 => exact (z26_1)); rintro w9 ⟨hi, hb, hk⟩; replace HK := am (KeepBut.trans (z26_2) hk (.inl rfl)); replace HB := am hb; replace HI0 := am hi; (try clear hb); (try clear hk); (try clear hi)))
   go_ret2
   exact ⟨ab7, (z26_0 HI0), ab1, z26_2⟩
  ·replace H := iq_ H; obtain ⟨c10b0, H⟩ := H
   replace H := iq_ H; obtain ⟨c11b0, H⟩ := H
   replace H := iq_ H; obtain ⟨c12b0, H⟩ := H
   replace H := iq_ H; obtain ⟨c13b0, H⟩ := H
   replace H := iq_ H; obtain ⟨c14b0, H⟩ := H
   replace H := iq_ H; obtain ⟨c15b0, H⟩ := H
   replace H := bi_ H; obtain ⟨t376, A16, H⟩ := H
   simp only [Option.some.injEq, Prod.mk.injEq] at H
   obtain ⟨rfl, rfl, rfl, rfl⟩ := H
   go_enter Tryz.func66, Tryz.ntmps66
   go_wp2_with (first | ((with_reducible refine gf_ 94 ?_); refine gc_ Tryz.func94 (impl_Page_inTable.calls g s0_0 s0_1 s0_2 s0_3 s0_4 true t362 t363 w0 _ ?side1 ?side2 M_ HM_.out A2.out) ?_; (case side1 => exact (z26_0 HI0)); (case side2 => exact (z26_1)); rintro w17 ⟨hi, hb, hk⟩; replace HK := am (KeepBut.trans (z26_2) hk (.inl rfl)); replace HB := am hb; replace HI0 := am hi; (try clear hb); (try clear hk); (try clear hi)) | ((with_reducible refine gf_ 96 ?_); refine gc_ Tryz.func96 (impl_Page_tableOpen.calls g s0_0 s0_1 s0_2 t362 t363 t367 t368 t369 w0 _ ?side1 ?side2 A4.out) ?_; (case side1 => exact (z26_0 HI0)); (case side2 => exact (z26_1)); rintro w18 ⟨hi, hb, hk⟩; replace HK := am (KeepBut.trans (z26_2) hk (.inl rfl)); replace HB := am hb; replace HI0 := am hi; (try clear hb); (try clear hk); (try clear hi); obtain ⟨ASz19_0, cSz19_0, ASz19_1, cSz19_1, ASz19_2, cSz19_2, HGz19, hgz19, HSz19_0, HSz19_1, HSz19_2⟩ := HI0.out; obtain ⟨⟨_, _, _, _, _⟩, _, _, _, _, _⟩ := Op.cells5 HGz19; clear HGz19 hgz19; have p373 : 0 ≤ (t367 : Int) := of_decide_eq_true ab4; have q373 : t367 < (s0_1.length : Int) := of_decide_eq_true ab4; obtain ⟨ad373, e373, hx373_0⟩ := Kd.at_int HSz19_1 t367 p373 q373; cases e373; replace hx373_0 := pc_ HB hx373_0; replace p373 := eq_true p373; replace q373 := eq_true q373; have p374 : 0 ≤ ((rd s0_1 t367) : Int) := of_decide_eq_true ab4; have q374 : (rd s0_1 t367) < (s0_0.length : Int) := of_decide_eq_true ab4; obtain ⟨ad374, A374_3, c374_3, A374_6, c374_6, e374, hx374_0, hx374_1, hx374_2, hx374_3, hx374_4, hx374_5, hx374_6, hl374_3, hi374_3, hl374_6, hi374_6⟩ := at_T53 HSz19_0 (rd s0_1 t367) p374 q374; cases e374; replace hx374_0 := pc_ HB hx374_0; replace hx374_1 := pc_ HB hx374_1; replace hx374_2 := pc_ HB hx374_2; replace hx374_3 := pc_ HB hx374_3; replace hx374_4 := pc_ HB hx374_4; replace hx374_5 := pc_ HB hx374_5; replace hx374_6 := pc_ HB hx374_6; have HR374_3 := am hi374_3; have HC374_3 := am hl374_3; clear hi374_3 hl374_3; have HR374_6 := am hi374_6; have HC374_6 := am hl374_6; clear hi374_6 hl374_6; replace p374 := eq_true p374; replace q374 := eq_true q374; have p375 : 0 ≤ (((rd_T53 s0_0 (rd s0_1 t367)).f5) : Int) := of_decide_eq_true ab4; have q375 : ((rd_T53 s0_0 (rd s0_1 t367)).f5) < (s0_0.length : Int) := of_decide_eq_true ab4; obtain ⟨ad375, A375_3, c375_3, A375_6, c375_6, e375, hx375_0, hx375_1, hx375_2, hx375_3, hx375_4, hx375_5, hx375_6, hl375_3, hi375_3, hl375_6, hi375_6⟩ := at_T53 HSz19_0 ((rd_T53 s0_0 (rd s0_1 t367)).f5) p375 q375; obtain rfl : ad374 = ad375 := (by injection e375); replace hx375_0 := pc_ HB hx375_0; replace hx375_1 := pc_ HB hx375_1; replace hx375_2 := pc_ HB hx375_2; replace hx375_3 := pc_ HB hx375_3; replace hx375_4 := pc_ HB hx375_4; replace hx375_5 := pc_ HB hx375_5; replace hx375_6 := pc_ HB hx375_6; have HR375_3 := am hi375_3; have HC375_3 := am hl375_3; clear hi375_3 hl375_3; have HR375_6 := am hi375_6; have HC375_6 := am hl375_6; clear hi375_6 hl375_6; replace p375 := eq_true p375; replace q375 := eq_true q375) | ((with_reducible refine gf_ 62 ?_); refine gc_ Tryz.func62 (slices_Index_int_int.calls k _ _ ((rd_T53 s0_0 ((rd_T53 s0_0 (rd s0_1 t367)).f5)).f6) (rd s0_1 t367) t376 _ (Kd.C_below HR375_6.out ab1) HC375_6.out A16.out) ?_; rintro w' ⟨nd, rfl⟩))
   go_ret2
   exact ⟨ab7, (z26_0 HI0), ab1, z26_2⟩
 ·replace H := Option.bind_eq_some_iff.mp H
  obtain ⟨⟨t364, t365, t366⟩, A200, H⟩ := H
  try dsimp only at H
  have A20 := am A200
  clear A200
  simp only [Option.some.injEq, Prod.mk.injEq] at H
  obtain ⟨rfl, rfl, rfl, rfl⟩ := H
  go_enter Tryz.func66, Tryz.ntmps66
  go_wp2_with (first | ((with_reducible refine gf_ 94 ?_); refine gc_ Tryz.func94 (impl_Page_inTable.calls g s0_0 s0_1 s0_2 s0_3 s0_4 false t362 t363 w0 _ ?side1 ?side2 M_ HM_.out A2.out) ?_; (case side1 => exact (z26_0 HI0)); (case side2 => exact (z26_1)); rintro w21 ⟨hi, hb, hk⟩; replace HK := am (KeepBut.trans (z26_2) hk (.inl rfl)); replace HB := am hb; replace HI0 := am hi; (try clear hb); (try clear hk); (try clear hi)) | ((with_reducible refine gf_ 95 ?_); refine gc_ Tryz.func95 (impl_Page_last.calls g s0_0 s0_1 s0_2 t362 t363 t364 t365 t366 w0 _ ?side1 ?side2 A20.out) ?_; (case side1 => exact (z26_0 HI0)); (case side2 => exact (z26_1)); rintro w22 ⟨hi, hb, hk⟩; replace HK := am (KeepBut.trans (z26_2) hk (.inl rfl)); replace HB := am hb; replace HI0 := am hi; (try clear hb); (try clear hk); (try clear hi)))
  go_ret2
  exact ⟨ab7, (z26_0 HI0), ab1, z26_2⟩
section
open Go.Proofs.YtekkalnafngfeaaGreatW.PrintMore
theorem typed_own {α : Type} {d : Kd α} {e base : Nat} {ok : Nat → Prop} {w : World} {v : Value} {xs : List α} (hE : d.E = []) (h : d.R e w base ok v xs) (k : Nat) (hk : v.ownBlock = some k) : ∃ cells, w.heap[k]? = some (.cells cells e (0, 0)) := by
 obtain ⟨_, _, _, q, hq, cells, hc⟩ := (Kd.R_bound h).1 k hk
 rw [hE, List.mem_singleton] at hq
 subst hq
 exact ⟨cells, hc⟩
/-- A row of elements of one type is as it was behind a call that wrote another one's own block. -/
theorem other_type {α β : Type} {d : Kd α} {d2 : Kd β} {e e2 base : Nat} {ok ok2 S : Nat → Prop} {w w1 : World} {v v2 : Value} {xs : List α} {ys : List β} (hE : d.E = []) (hE2 : d2.E = []) (hne : e ≠ e2) (h : d.R e w base ok v xs) (h2 : d2.R e2 w base ok2 v2 ys) (hk : Kept w w1 (fun k => some k = v2.ownBlock ∧ S k)) : d.R e w1 base ok v xs := by
 refine Kd.R_mono (Kd.R_step (Kd.R_bound h) (fun k hk1 hlt => hk.2 k hlt (fun hp => ?_))) (fun k hk => hk.1)
 obtain ⟨_, _, _, q, hq, cells, hc⟩ := hk1
 rw [hE, List.mem_singleton] at hq
 subst hq
 obtain ⟨cells2, hc2⟩ := typed_own hE2 h2 k hp.1.symm
 rw [hc] at hc2
 injection hc2 with hc2
 injection hc2 with _ h3 _
 exact hne h3
/-- The attributes of item i, lent. -/
theorem S_attrs {w : World} {base : Nat} {ok : Nat → Prop} {g n cap : Nat} {xs : List S53} (hS : Kd.S k53 53 w base ok (.slice (some ⟨g, 0, none⟩) n cap) xs) (i : Int) (h0 : 0 ≤ i) (h1 : i < n) :
  ∃ v3, w.cell? ⟨g, i.toNat * 7 + 3, none⟩ = some v3 ∧ Kd.R k56 56 w base (fun k => some k = v3.ownBlock ∧ ok k) v3 (rd_T53 xs i).f3 ∧
   ∀ (w1 : World) (ok2 : Nat → Prop) (r2 : List S56), Kd.R k56 56 w1 base ok2 v3 r2 → Kept w w1 (fun k => some k = v3.ownBlock ∧ ok k) →
    Kd.S k53 53 w1 base ok (.slice (some ⟨g, 0, none⟩) n cap) (xs.set i.toNat (⟨(rd_T53 xs i).f0, (rd_T53 xs i).f1, (rd_T53 xs i).f2, r2, (rd_T53 xs i).f4, (rd_T53 xs i).f5, (rd_T53 xs i).f6⟩ : S53)) := by
 obtain ⟨oki, c, hcl, hM, hcc, hoki, hH⟩ := Kd.S_lend hS z53 i h0 h1
 obtain ⟨v3, v6, rfl, g3, g6⟩ := k53_openM hM
 refine ⟨v3, hcc 3 v3 rfl, Kd.R_mono (Kd.R_tight2 rfl g3) (fun k hk => ⟨hk.1, (hoki k hk.2).1⟩), fun w1 ok2 r2 hr hk => ?_⟩
 have hH1 := Kd.H_step (w1 := w1) hH (fun k hok hn hlt => hk.2 k hlt (fun hp => hn (g3.1 k hp.1.symm)))
 have g3' := Kd.R_mono (Kd.R_tight rfl hr) (fun k hk => g3.1 k hk.symm)
 have g6' := other_type rfl rfl (by decide) g6 g3 hk
 exact Kd.H_back hH1 (k53_mkM w1 base oki (⟨(rd_T53 xs i).f0, (rd_T53 xs i).f1, (rd_T53 xs i).f2, r2, (rd_T53 xs i).f4, (rd_T53 xs i).f5, (rd_T53 xs i).f6⟩ : S53) g3' g6') (fun _ hk => hk)
/-- The kids of item i, lent. -/
theorem S_kids {w : World} {base : Nat} {ok : Nat → Prop} {g n cap : Nat} {xs : List S53} (hS : Kd.S k53 53 w base ok (.slice (some ⟨g, 0, none⟩) n cap) xs) (i : Int) (h0 : 0 ≤ i) (h1 : i < n) :
  ∃ v6, w.cell? ⟨g, i.toNat * 7 + 6, none⟩ = some v6 ∧ Kd.R (Kd.int .i64) 3 w base (fun k => some k = v6.ownBlock ∧ ok k) v6 (rd_T53 xs i).f6 ∧
   ∀ (w1 : World) (ok2 : Nat → Prop) (r2 : List Int), Kd.R (Kd.int .i64) 3 w1 base ok2 v6 r2 → Kept w w1 (fun k => some k = v6.ownBlock ∧ ok k) →
    Kd.S k53 53 w1 base ok (.slice (some ⟨g, 0, none⟩) n cap) (xs.set i.toNat (⟨(rd_T53 xs i).f0, (rd_T53 xs i).f1, (rd_T53 xs i).f2, (rd_T53 xs i).f3, (rd_T53 xs i).f4, (rd_T53 xs i).f5, r2⟩ : S53)) := by
 obtain ⟨oki, c, hcl, hM, hcc, hoki, hH⟩ := Kd.S_lend hS z53 i h0 h1
 obtain ⟨v3, v6, rfl, g3, g6⟩ := k53_openM hM
 refine ⟨v6, hcc 6 v6 rfl, Kd.R_mono (Kd.R_tight2 rfl g6) (fun k hk => ⟨hk.1, (hoki k hk.2).1⟩), fun w1 ok2 r2 hr hk => ?_⟩
 have hH1 := Kd.H_step (w1 := w1) hH (fun k hok hn hlt => hk.2 k hlt (fun hp => hn (g6.1 k hp.1.symm)))
 have g6' := Kd.R_mono (Kd.R_tight rfl hr) (fun k hk => g6.1 k hk.symm)
 have g3' := other_type rfl rfl (by decide) g3 g6 hk
 exact Kd.H_back hH1 (k53_mkM w1 base oki (⟨(rd_T53 xs i).f0, (rd_T53 xs i).f1, (rd_T53 xs i).f2, (rd_T53 xs i).f3, (rd_T53 xs i).f4, (rd_T53 xs i).f5, r2⟩ : S53) g3' g6') (fun _ hk => hk)
/-- A plain field of item i is written: the cells of the item as they were are told to the caller. -/
theorem S_put {w : World} {base : Nat} {ok : Nat → Prop} {g n cap : Nat} {xs : List S53} (hS : Kd.S k53 53 w base ok (.slice (some ⟨g, 0, none⟩) n cap) xs) (i : Int) (h0 : 0 ≤ i) (h1 : i < n) (j : Nat) (hj : j < 7) (u : Value) (x' : S53)
  (hM' : ∀ (ok' : Nat → Prop) (v3 v6 : Value), Kd.R k56 56 w base ok' v3 (rd_T53 xs i).f3 → Kd.R (Kd.int .i64) 3 w base ok' v6 (rd_T53 xs i).f6 →
   k53.M w base ok' x' ((([.int .i64 (rd_T53 xs i).f0, .int .i64 (rd_T53 xs i).f1, .string (rd_T53 xs i).f2, v3, .string (rd_T53 xs i).f4, .int .i64 (rd_T53 xs i).f5, v6] : List Value).take j) ++ [u] ++ (([.int .i64 (rd_T53 xs i).f0, .int .i64 (rd_T53 xs i).f1, .string (rd_T53 xs i).f2, v3, .string (rd_T53 xs i).f4, .int .i64 (rd_T53 xs i).f5, v6] : List Value).drop (j + 1)))) :
  Kd.S k53 53 (w.setCell ⟨g, i.toNat * 7 + j, none⟩ u) base ok (.slice (some ⟨g, 0, none⟩) n cap) (xs.set i.toNat x') ∧ w.grownBy (w.setCell ⟨g, i.toNat * 7 + j, none⟩ u) (some g) := by
 obtain ⟨oki, c, hcl, hM, hcc, hfr, hoki, hH⟩ := Kd.S_elem hS z53 i h0 h1
 obtain ⟨v3, v6, rfl, g3, g6⟩ := k53_openM hM
 exact Kd.S_seg (okg := fun _ => False) (okp := oki) (Kd.H_mono hH (fun k hk => ⟨hk, fun h => h⟩)) h0 h1 (seg := [u]) (j := j) hj (x' := x') (hM' oki v3 v6 g3 g6) (fun k hk => Or.inl hk) (fun k hk => hk.elim)
theorem S_put0 {w : World} {base : Nat} {ok : Nat → Prop} {g n cap : Nat} {xs : List S53} (hS : Kd.S k53 53 w base ok (.slice (some ⟨g, 0, none⟩) n cap) xs) (i : Int) (h0 : 0 ≤ i) (h1 : i < n) (a : Int) :
  Kd.S k53 53 (w.setCell ⟨g, i.toNat * 7 + 0, none⟩ (.int .i64 a)) base ok (.slice (some ⟨g, 0, none⟩) n cap) (xs.set i.toNat (⟨a, (rd_T53 xs i).f1, (rd_T53 xs i).f2, (rd_T53 xs i).f3, (rd_T53 xs i).f4, (rd_T53 xs i).f5, (rd_T53 xs i).f6⟩ : S53)) ∧ w.grownBy (w.setCell ⟨g, i.toNat * 7 + 0, none⟩ (.int .i64 a)) (some g) :=
 S_put hS i h0 h1 0 (by decide) (.int .i64 a) (⟨a, (rd_T53 xs i).f1, (rd_T53 xs i).f2, (rd_T53 xs i).f3, (rd_T53 xs i).f4, (rd_T53 xs i).f5, (rd_T53 xs i).f6⟩ : S53) (fun ok' v3 v6 g3 g6 => k53_mkM w base ok' (⟨a, (rd_T53 xs i).f1, (rd_T53 xs i).f2, (rd_T53 xs i).f3, (rd_T53 xs i).f4, (rd_T53 xs i).f5, (rd_T53 xs i).f6⟩ : S53) g3 g6)
theorem S_put1 {w : World} {base : Nat} {ok : Nat → Prop} {g n cap : Nat} {xs : List S53} (hS : Kd.S k53 53 w base ok (.slice (some ⟨g, 0, none⟩) n cap) xs) (i : Int) (h0 : 0 ≤ i) (h1 : i < n) (a : Int) :
  Kd.S k53 53 (w.setCell ⟨g, i.toNat * 7 + 1, none⟩ (.int .i64 a)) base ok (.slice (some ⟨g, 0, none⟩) n cap) (xs.set i.toNat (⟨(rd_T53 xs i).f0, a, (rd_T53 xs i).f2, (rd_T53 xs i).f3, (rd_T53 xs i).f4, (rd_T53 xs i).f5, (rd_T53 xs i).f6⟩ : S53)) ∧ w.grownBy (w.setCell ⟨g, i.toNat * 7 + 1, none⟩ (.int .i64 a)) (some g) :=
 S_put hS i h0 h1 1 (by decide) (.int .i64 a) (⟨(rd_T53 xs i).f0, a, (rd_T53 xs i).f2, (rd_T53 xs i).f3, (rd_T53 xs i).f4, (rd_T53 xs i).f5, (rd_T53 xs i).f6⟩ : S53) (fun ok' v3 v6 g3 g6 => k53_mkM w base ok' (⟨(rd_T53 xs i).f0, a, (rd_T53 xs i).f2, (rd_T53 xs i).f3, (rd_T53 xs i).f4, (rd_T53 xs i).f5, (rd_T53 xs i).f6⟩ : S53) g3 g6)
theorem S_put2 {w : World} {base : Nat} {ok : Nat → Prop} {g n cap : Nat} {xs : List S53} (hS : Kd.S k53 53 w base ok (.slice (some ⟨g, 0, none⟩) n cap) xs) (i : Int) (h0 : 0 ≤ i) (h1 : i < n) (a : ByteArray) :
  Kd.S k53 53 (w.setCell ⟨g, i.toNat * 7 + 2, none⟩ (.string a)) base ok (.slice (some ⟨g, 0, none⟩) n cap) (xs.set i.toNat (⟨(rd_T53 xs i).f0, (rd_T53 xs i).f1, a, (rd_T53 xs i).f3, (rd_T53 xs i).f4, (rd_T53 xs i).f5, (rd_T53 xs i).f6⟩ : S53)) ∧ w.grownBy (w.setCell ⟨g, i.toNat * 7 + 2, none⟩ (.string a)) (some g) :=
 S_put hS i h0 h1 2 (by decide) (.string a) (⟨(rd_T53 xs i).f0, (rd_T53 xs i).f1, a, (rd_T53 xs i).f3, (rd_T53 xs i).f4, (rd_T53 xs i).f5, (rd_T53 xs i).f6⟩ : S53) (fun ok' v3 v6 g3 g6 => k53_mkM w base ok' (⟨(rd_T53 xs i).f0, (rd_T53 xs i).f1, a, (rd_T53 xs i).f3, (rd_T53 xs i).f4, (rd_T53 xs i).f5, (rd_T53 xs i).f6⟩ : S53) g3 g6)
theorem S_put4 {w : World} {base : Nat} {ok : Nat → Prop} {g n cap : Nat} {xs : List S53} (hS : Kd.S k53 53 w base ok (.slice (some ⟨g, 0, none⟩) n cap) xs) (i : Int) (h0 : 0 ≤ i) (h1 : i < n) (a : ByteArray) :
  Kd.S k53 53 (w.setCell ⟨g, i.toNat * 7 + 4, none⟩ (.string a)) base ok (.slice (some ⟨g, 0, none⟩) n cap) (xs.set i.toNat (⟨(rd_T53 xs i).f0, (rd_T53 xs i).f1, (rd_T53 xs i).f2, (rd_T53 xs i).f3, a, (rd_T53 xs i).f5, (rd_T53 xs i).f6⟩ : S53)) ∧ w.grownBy (w.setCell ⟨g, i.toNat * 7 + 4, none⟩ (.string a)) (some g) :=
 S_put hS i h0 h1 4 (by decide) (.string a) (⟨(rd_T53 xs i).f0, (rd_T53 xs i).f1, (rd_T53 xs i).f2, (rd_T53 xs i).f3, a, (rd_T53 xs i).f5, (rd_T53 xs i).f6⟩ : S53) (fun ok' v3 v6 g3 g6 => k53_mkM w base ok' (⟨(rd_T53 xs i).f0, (rd_T53 xs i).f1, (rd_T53 xs i).f2, (rd_T53 xs i).f3, a, (rd_T53 xs i).f5, (rd_T53 xs i).f6⟩ : S53) g3 g6)
theorem S_put5 {w : World} {base : Nat} {ok : Nat → Prop} {g n cap : Nat} {xs : List S53} (hS : Kd.S k53 53 w base ok (.slice (some ⟨g, 0, none⟩) n cap) xs) (i : Int) (h0 : 0 ≤ i) (h1 : i < n) (a : Int) :
  Kd.S k53 53 (w.setCell ⟨g, i.toNat * 7 + 5, none⟩ (.int .i64 a)) base ok (.slice (some ⟨g, 0, none⟩) n cap) (xs.set i.toNat (⟨(rd_T53 xs i).f0, (rd_T53 xs i).f1, (rd_T53 xs i).f2, (rd_T53 xs i).f3, (rd_T53 xs i).f4, a, (rd_T53 xs i).f6⟩ : S53)) ∧ w.grownBy (w.setCell ⟨g, i.toNat * 7 + 5, none⟩ (.int .i64 a)) (some g) :=
 S_put hS i h0 h1 5 (by decide) (.int .i64 a) (⟨(rd_T53 xs i).f0, (rd_T53 xs i).f1, (rd_T53 xs i).f2, (rd_T53 xs i).f3, (rd_T53 xs i).f4, a, (rd_T53 xs i).f6⟩ : S53) (fun ok' v3 v6 g3 g6 => k53_mkM w base ok' (⟨(rd_T53 xs i).f0, (rd_T53 xs i).f1, (rd_T53 xs i).f2, (rd_T53 xs i).f3, (rd_T53 xs i).f4, a, (rd_T53 xs i).f6⟩ : S53) g3 g6)
theorem rd_set (xs : List S53) (x : S53) (i : Int) (h0 : 0 ≤ i) (h1 : i < (xs.length : Int)) : rd_T53 (xs.set i.toNat x) i = x := by
 unfold rd_T53
 rw [List.getD_eq_getElem?_getD, List.getElem?_set_self (by omega)]
 rfl
theorem S_next1 {w : World} {base : Nat} {ok : Nat → Prop} {g n cap : Nat} {xs : List S53} {x : S53} {i : Int} (hS : Kd.S k53 53 w base ok (.slice (some ⟨g, 0, none⟩) n cap) (xs.set i.toNat x)) (h0 : 0 ≤ i) (h1 : i < n) (hl : i < (xs.length : Int)) (a : Int) :
  Kd.S k53 53 (w.setCell ⟨g, i.toNat * 7 + 1, none⟩ (.int .i64 a)) base ok (.slice (some ⟨g, 0, none⟩) n cap) (xs.set i.toNat (⟨x.f0, a, x.f2, x.f3, x.f4, x.f5, x.f6⟩ : S53)) ∧ w.grownBy (w.setCell ⟨g, i.toNat * 7 + 1, none⟩ (.int .i64 a)) (some g) := by
 have h := S_put1 hS i h0 h1 a
 rw [rd_set xs x i h0 hl, List.set_set] at h
 exact h
theorem S_next2 {w : World} {base : Nat} {ok : Nat → Prop} {g n cap : Nat} {xs : List S53} {x : S53} {i : Int} (hS : Kd.S k53 53 w base ok (.slice (some ⟨g, 0, none⟩) n cap) (xs.set i.toNat x)) (h0 : 0 ≤ i) (h1 : i < n) (hl : i < (xs.length : Int)) (a : ByteArray) :
  Kd.S k53 53 (w.setCell ⟨g, i.toNat * 7 + 2, none⟩ (.string a)) base ok (.slice (some ⟨g, 0, none⟩) n cap) (xs.set i.toNat (⟨x.f0, x.f1, a, x.f3, x.f4, x.f5, x.f6⟩ : S53)) ∧ w.grownBy (w.setCell ⟨g, i.toNat * 7 + 2, none⟩ (.string a)) (some g) := by
 have h := S_put2 hS i h0 h1 a
 rw [rd_set xs x i h0 hl, List.set_set] at h
 exact h
theorem S_next4 {w : World} {base : Nat} {ok : Nat → Prop} {g n cap : Nat} {xs : List S53} {x : S53} {i : Int} (hS : Kd.S k53 53 w base ok (.slice (some ⟨g, 0, none⟩) n cap) (xs.set i.toNat x)) (h0 : 0 ≤ i) (h1 : i < n) (hl : i < (xs.length : Int)) (a : ByteArray) :
  Kd.S k53 53 (w.setCell ⟨g, i.toNat * 7 + 4, none⟩ (.string a)) base ok (.slice (some ⟨g, 0, none⟩) n cap) (xs.set i.toNat (⟨x.f0, x.f1, x.f2, x.f3, a, x.f5, x.f6⟩ : S53)) ∧ w.grownBy (w.setCell ⟨g, i.toNat * 7 + 4, none⟩ (.string a)) (some g) := by
 have h := S_put4 hS i h0 h1 a
 rw [rd_set xs x i h0 hl, List.set_set] at h
 exact h
theorem S_next5 {w : World} {base : Nat} {ok : Nat → Prop} {g n cap : Nat} {xs : List S53} {x : S53} {i : Int} (hS : Kd.S k53 53 w base ok (.slice (some ⟨g, 0, none⟩) n cap) (xs.set i.toNat x)) (h0 : 0 ≤ i) (h1 : i < n) (hl : i < (xs.length : Int)) (a : Int) :
  Kd.S k53 53 (w.setCell ⟨g, i.toNat * 7 + 5, none⟩ (.int .i64 a)) base ok (.slice (some ⟨g, 0, none⟩) n cap) (xs.set i.toNat (⟨x.f0, x.f1, x.f2, x.f3, x.f4, a, x.f6⟩ : S53)) ∧ w.grownBy (w.setCell ⟨g, i.toNat * 7 + 5, none⟩ (.int .i64 a)) (some g) := by
 have h := S_put5 hS i h0 h1 a
 rw [rd_set xs x i h0 hl, List.set_set] at h
 exact h
theorem S_attrs' {w : World} {base : Nat} {ok : Nat → Prop} {g n cap : Nat} {xs : List S53} {x : S53} {i : Int} (hS : Kd.S k53 53 w base ok (.slice (some ⟨g, 0, none⟩) n cap) (xs.set i.toNat x)) (h0 : 0 ≤ i) (h1 : i < n) (hl : i < (xs.length : Int)) :
  ∃ v3, w.cell? ⟨g, i.toNat * 7 + 3, none⟩ = some v3 ∧ Kd.R k56 56 w base (fun k => some k = v3.ownBlock ∧ ok k) v3 x.f3 ∧
   ∀ (w1 : World) (ok2 : Nat → Prop) (r2 : List S56), Kd.R k56 56 w1 base ok2 v3 r2 → Kept w w1 (fun k => some k = v3.ownBlock ∧ ok k) →
    Kd.S k53 53 w1 base ok (.slice (some ⟨g, 0, none⟩) n cap) (xs.set i.toNat (⟨x.f0, x.f1, x.f2, r2, x.f4, x.f5, x.f6⟩ : S53)) := by
 obtain ⟨v3, hc, hr, hb⟩ := S_attrs hS i h0 h1
 rw [rd_set xs x i h0 hl] at hr hb
 refine ⟨v3, hc, hr, fun w1 ok2 r2 h2 hk => ?_⟩
 have h := hb w1 ok2 r2 h2 hk
 rw [List.set_set] at h
 exact h
theorem S_kids' {w : World} {base : Nat} {ok : Nat → Prop} {g n cap : Nat} {xs : List S53} {x : S53} {i : Int} (hS : Kd.S k53 53 w base ok (.slice (some ⟨g, 0, none⟩) n cap) (xs.set i.toNat x)) (h0 : 0 ≤ i) (h1 : i < n) (hl : i < (xs.length : Int)) :
  ∃ v6, w.cell? ⟨g, i.toNat * 7 + 6, none⟩ = some v6 ∧ Kd.R (Kd.int .i64) 3 w base (fun k => some k = v6.ownBlock ∧ ok k) v6 x.f6 ∧
   ∀ (w1 : World) (ok2 : Nat → Prop) (r2 : List Int), Kd.R (Kd.int .i64) 3 w1 base ok2 v6 r2 → Kept w w1 (fun k => some k = v6.ownBlock ∧ ok k) →
    Kd.S k53 53 w1 base ok (.slice (some ⟨g, 0, none⟩) n cap) (xs.set i.toNat (⟨x.f0, x.f1, x.f2, x.f3, x.f4, x.f5, r2⟩ : S53)) := by
 obtain ⟨v6, hc, hr, hb⟩ := S_kids hS i h0 h1
 rw [rd_set xs x i h0 hl] at hr hb
 refine ⟨v6, hc, hr, fun w1 ok2 r2 h2 hk => ?_⟩
 have h := hb w1 ok2 r2 h2 hk
 rw [List.set_set] at h
 exact h
/-- What a store into field j of item i meets. -/
theorem S_cells {w : World} {base : Nat} {ok : Nat → Prop} {g n cap : Nat} {xs : List S53} (hS : Kd.S k53 53 w base ok (.slice (some ⟨g, 0, none⟩) n cap) xs) (i : Int) (h0 : 0 ≤ i) (h1 : i < n) (j : Nat) (hj : j < 7) :
  (∃ v, w.cell? ⟨g, i.toNat * 7 + j, none⟩ = some v) ∧ w.frozen? ⟨g, i.toNat * 7 + j, none⟩ = false := by
 obtain ⟨oki, c, hcl, hM, hcc, hfr, _, _⟩ := Kd.S_elem hS z53 i h0 h1
 obtain ⟨v3, v6, rfl, _, _⟩ := k53_openM hM
 refine ⟨?_, hfr j⟩
 match j, hj with
 | 0, _ => exact ⟨_, hcc 0 _ rfl⟩
 | 1, _ => exact ⟨_, hcc 1 _ rfl⟩
 | 2, _ => exact ⟨_, hcc 2 _ rfl⟩
 | 3, _ => exact ⟨_, hcc 3 _ rfl⟩
 | 4, _ => exact ⟨_, hcc 4 _ rfl⟩
 | 5, _ => exact ⟨_, hcc 5 _ rfl⟩
 | 6, _ => exact ⟨_, hcc 6 _ rfl⟩
def laws_markItemS.l0 : Nat → List S53 → Int → Int → Option (Int × List S53)
 | 0, _, _, _ => none
 | k + 1, x0, x1, x5 => if x5 < (x0.length : Int) then (if 0 ≤ x5 then ((laws_markText.f k (wrap64 (wrap64 (x1 + 1) + 1))).bind fun t => (laws_markAttrS.f k (rd_T53 x0 x5).f3 (wrap64 (wrap64 (wrap64 (x1 + 1) + 1) + 1))).bind fun b => (laws_markText.f k b.1).bind fun t2 => (laws_markIntS.f k (rd_T53 x0 x5).f6 (wrap64 (wrap64 (b.1 + 1) + 1))).bind fun d => laws_markItemS.l0 k (x0.set x5.toNat (⟨x1, wrap64 (x1 + 1), t, b.2, t2, wrap64 (b.1 + 1), d.2⟩ : S53)) d.1 (wrap64 (x5 + 1))) else none) else some (x1, x0)
def laws_markItemS.g (k : Nat) (l0 : List S53) (a1 : Int) : Option (Int × List S53) := laws_markItemS.l0 k l0 a1 0
theorem laws_markItemS.calls_g (k : Nat) (P0_ : Nat → Prop) (u9000_ : Value) (l0 : List S53) (a1 : Int) (r1 : Int) (r2 : List S53) (w0 w : World) (hB : Below w0.heap.size w0 w) (ho0 : Kd.S k53 53 w w0.heap.size P0_ u9000_ l0) (h : laws_markItemS.g k l0 a1 = some (r1, r2)) :
  Calls Tryz.prog 38 #[u9000_, .int .i64 a1] w fun e w' => e = .returned (.int .i64 r1) ∧ Kd.S k53 53 w' w0.heap.size (fun k_ => (P0_ k_ ∨ w.heap.size ≤ k_)) u9000_ r2 ∧ Below w0.heap.size w0 w' ∧ Kept w w' (fun k_ => P0_ k_) := by
 have HO0 := am (show Kd.S k53 53 w w0.heap.size (fun k_ => (P0_ k_ ∨ w.heap.size ≤ k_)) u9000_ l0 from Kd.S_mono ho0 (fun k_ hk => (.inl hk)))
 have HK := am (Kept.refl w (fun k_ => P0_ k_))
 have HW0 := am hB.size
 have HB := am hB
 clear hB
 have H : (laws_markItemS.l0 k l0 a1 0) = some (r1, r2) := h
 clear h
 have H' := am H
 clear H
 go_enter Tryz.func38, Tryz.ntmps38
 go_wp2
 go_loopg [1, 5] k (fun kq v1 v5 w' => ∃ (x0_1 : List S53) (x1_1 : Int) (x5_1 : Int), v1 = .int .i64 x1_1 ∧ v5 = .int .i64 x5_1 ∧ Aside0 (laws_markItemS.l0 kq x0_1 x1_1 x5_1 = some (r1, r2)) ∧ Aside0 (kq ≤ k) ∧ Aside0 (Kd.S k53 53 w' w0.heap.size (fun k_ => (P0_ k_ ∨ w.heap.size ≤ k_)) u9000_ x0_1) ∧ Aside0 (Kept w w' (fun k_ => P0_ k_)) ∧ Aside0 (Below w0.heap.size w0 w'))
 case atStart => exact ⟨l0, a1, 0, rfl, rfl, H', ⟨Nat.le_refl _⟩, HO0, HK, HB⟩
 case round =>
  clear H'
  obtain ⟨x0_1, x1_1, x5_1, rfl, rfl, HA, HK1, HO_0, HK, HB⟩ := hrel
  cases gk with
  | zero => exact absurd HA.out (by simp [laws_markItemS.l0])
  | succ k1 =>
   have H := HA.out
   clear HA
   simp only [laws_markItemS.l0] at H
   by_cases c3 : x5_1 < (x0_1.length : Int)
   ·rw [if_pos c3] at H
    by_cases c5 : 0 ≤ x5_1
    case neg => rw [if_neg c5] at H; exact absurd H (by simp)
    rw [if_pos c5] at H
    obtain ⟨t, A4, H⟩ := Option.bind_eq_some_iff.mp H
    obtain ⟨⟨b1, b2⟩, A5, H⟩ := Option.bind_eq_some_iff.mp H
    obtain ⟨t2, A6, H⟩ := Option.bind_eq_some_iff.mp H
    obtain ⟨⟨d1, d2⟩, A7, H⟩ := Option.bind_eq_some_iff.mp H
    try dsimp only at A4 A5 A6 A7 H
    replace A4 := am A4
    replace A5 := am A5
    replace A6 := am A6
    replace A7 := am A7
    have H' := am H
    clear H
    obtain ⟨Ao9, co9, eo9⟩ := Kd.S_slice HO_0.out
    subst eo9
    obtain ⟨go6, co6, eo6, gb6, gl6, cl6, HG6⟩ := Kd.R_form (Kd.S_R HO_0.out) (by omega)
    (first | cases eo6 | (injection eo6 with ea_ en_ ec_; (first | subst ea_ | (injection ea_ with ea_; subst ea_)); subst ec_; clear en_))
    have GB6 := am gb6
    clear gb6 gl6 HG6
    have OK6 := am (show (P0_ go6 ∨ w.heap.size ≤ go6) from ((Kd.S_R HO_0.out).1 _ rfl))
    have C3 := am c3
    have C5 := am c5
    have c3b0 := decide_eq_true c3
    have c5b0 := decide_eq_true c5
    replace c3 := eq_true c3
    replace c5 := eq_true c5
    obtain ⟨⟨vc0, hx0⟩, hf0⟩ := S_cells HO_0.out x5_1 C5.out C3.out 0 (by decide)
    replace hx0 : wr.cell? ⟨go6, x5_1.toNat * 7, none⟩ = some vc0 := hx0; replace hf0 : wr.frozen? ⟨go6, x5_1.toNat * 7, none⟩ = false := hf0
    go_wp2_with (first | ((with_reducible refine gate_store (t := 3) (p := 16) rfl ?_); refine store_event (t := 3) (p := 16) (v := ?vo_w11) (w1 := (wr.setCell ⟨go6, x5_1.toNat * 7, none⟩ (.int .i64 x1_1))) ?hg ?ho ?hn ?hr ?_; (case ho => rfl); (case hg => rfl); (case hn => rfl); (case hr => first | (go_simp; done) | (go_simp; rfl)); intro w11 hw; have HP := S_put0 HO_0.out x5_1 C5.out C3.out (x1_1); have hg : wr.grownBy w11 (some go6) := (by rw [hw]; exact HP.2); have n0_ := am (show Kd.S k53 53 w11 w0.heap.size (fun k_ => (P0_ k_ ∨ w.heap.size ≤ k_)) (.slice (some ⟨go6, 0, none⟩) x0_1.length co9) (x0_1.set x5_1.toNat (⟨x1_1, (rd_T53 x0_1 x5_1).f1, (rd_T53 x0_1 x5_1).f2, (rd_T53 x0_1 x5_1).f3, (rd_T53 x0_1 x5_1).f4, (rd_T53 x0_1 x5_1).f5, (rd_T53 x0_1 x5_1).f6⟩ : S53)) from (by rw [hw]; exact HP.1)); clear HP; have n1_ := am ((by rw [hw]; exact below_set (HB.out) GB6.out : Below w0.heap.size w0 w11)); have n2_ := am (Kept.of_grown (S := (fun k_ => P0_ k_)) hg HK.out (fun k_ e_ => (by cases e_; exact OK6.out))); clear HO_0; clear HB; clear HK; have HO_0 := n0_; have HB := n1_; have HK := n2_; clear n0_ n1_ n2_; clear hg hw; clear hx0 hf0; obtain ⟨⟨vc1, hx1⟩, hf1⟩ := S_cells HO_0.out x5_1 C5.out C3.out 1 (by decide); replace hx1 : w11.cell? ⟨go6, x5_1.toNat * 7 + 1, none⟩ = some vc1 := hx1; replace hf1 : w11.frozen? ⟨go6, x5_1.toNat * 7 + 1, none⟩ = false := hf1) | ((with_reducible refine gate_store (t := 3) (p := 23) rfl ?_); refine store_event (t := 3) (p := 23) (v := ?vo_w12) (w1 := (w11.setCell ⟨go6, x5_1.toNat * 7 + 1, none⟩ (.int .i64 (wrap64 (x1_1 + 1))))) ?hg ?ho ?hn ?hr ?_; (case ho => rfl); (case hg => rfl); (case hn => rfl); (case hr => first | (go_simp; done) | (go_simp; rfl)); intro w12 hw; have HP := S_next1 HO_0.out C5.out C3.out C3.out ((wrap64 (x1_1 + 1))); have hg : w11.grownBy w12 (some go6) := (by rw [hw]; exact HP.2); have n0_ := am (show Kd.S k53 53 w12 w0.heap.size (fun k_ => (P0_ k_ ∨ w.heap.size ≤ k_)) (.slice (some ⟨go6, 0, none⟩) x0_1.length co9) (x0_1.set x5_1.toNat (⟨x1_1, (wrap64 (x1_1 + 1)), (rd_T53 x0_1 x5_1).f2, (rd_T53 x0_1 x5_1).f3, (rd_T53 x0_1 x5_1).f4, (rd_T53 x0_1 x5_1).f5, (rd_T53 x0_1 x5_1).f6⟩ : S53)) from (by rw [hw]; exact HP.1)); clear HP; have n1_ := am ((by rw [hw]; exact below_set (HB.out) GB6.out : Below w0.heap.size w0 w12)); have n2_ := am (Kept.of_grown (S := (fun k_ => P0_ k_)) hg HK.out (fun k_ e_ => (by cases e_; exact OK6.out))); clear HO_0; clear HB; clear HK; have HO_0 := n0_; have HB := n1_; have HK := n2_; clear n0_ n1_ n2_; clear hg hw; clear hx1 hf1) | ((with_reducible refine gate_callee (f := 40) rfl ?_); refine goesL_ (some 29) rfl rfl Tryz.func40 (by kernel_rfl) rfl #[.int .i64 (wrap64 (wrap64 (x1_1 + 1) + 1))] rfl (by (try simp only [List.map_toArray, List.map_cons, List.map_nil]); first | done | rfl) ?_; (with_reducible refine (laws_markText.calls k1 (wrap64 (wrap64 (x1_1 + 1) + 1)) t _ A4.out).mono ?_); rintro e w13 ⟨rfl, hb⟩; refine ⟨_, rfl, ?_⟩; replace HO_0 := am (Kd.S_below HO_0.out hb); replace HK := am (Kept.below (S := (fun k_ => P0_ k_)) HK.out hb); replace HB := am (below_step HB.out hb); clear hb; obtain ⟨⟨vc2, hx2⟩, hf2⟩ := S_cells HO_0.out x5_1 C5.out C3.out 2 (by decide); replace hx2 : w13.cell? ⟨go6, x5_1.toNat * 7 + 2, none⟩ = some vc2 := hx2; replace hf2 : w13.frozen? ⟨go6, x5_1.toNat * 7 + 2, none⟩ = false := hf2) | ((with_reducible refine gate_store (t := 9) (p := 31) rfl ?_); refine store_event (t := 9) (p := 31) (v := ?vo_w14) (w1 := (w13.setCell ⟨go6, x5_1.toNat * 7 + 2, none⟩ (.string t))) ?hg ?ho ?hn ?hr ?_; (case ho => rfl); (case hg => rfl); (case hn => rfl); (case hr => first | (go_simp; done) | (go_simp; rfl)); intro w14 hw; have HP := S_next2 HO_0.out C5.out C3.out C3.out (t); have hg : w13.grownBy w14 (some go6) := (by rw [hw]; exact HP.2); have n0_ := am (show Kd.S k53 53 w14 w0.heap.size (fun k_ => (P0_ k_ ∨ w.heap.size ≤ k_)) (.slice (some ⟨go6, 0, none⟩) x0_1.length co9) (x0_1.set x5_1.toNat (⟨x1_1, (wrap64 (x1_1 + 1)), t, (rd_T53 x0_1 x5_1).f3, (rd_T53 x0_1 x5_1).f4, (rd_T53 x0_1 x5_1).f5, (rd_T53 x0_1 x5_1).f6⟩ : S53)) from (by rw [hw]; exact HP.1)); clear HP; have n1_ := am ((by rw [hw]; exact below_set (HB.out) GB6.out : Below w0.heap.size w0 w14)); have n2_ := am (Kept.of_grown (S := (fun k_ => P0_ k_)) hg HK.out (fun k_ e_ => (by cases e_; exact OK6.out))); clear HO_0; clear HB; clear HK; have HO_0 := n0_; have HB := n1_; have HK := n2_; clear n0_ n1_ n2_; clear hg hw; clear hx2 hf2; obtain ⟨v3, hx3, hv_, hn_⟩ := S_attrs' HO_0.out C5.out C3.out C3.out; have HV3 := am hv_; have HN3 := am hn_; clear hv_ hn_) | ((with_reducible refine gate_callee (f := 15) rfl ?_); refine goesL_ (some 40) rfl rfl Tryz.func15 (by kernel_rfl) rfl #[v3, .int .i64 (wrap64 (wrap64 (wrap64 (x1_1 + 1) + 1) + 1))] rfl (by (try simp only [List.map_toArray, List.map_cons, List.map_nil]); first | done | rfl) ?_; (with_reducible refine (laws_markAttrS.calls k1 (fun k => some k = (v3 : Value).ownBlock ∧ (P0_ k ∨ w.heap.size ≤ k)) v3 ((rd_T53 x0_1 x5_1).f3) (wrap64 (wrap64 (wrap64 (x1_1 + 1) + 1) + 1)) b1 b2 w0 _ ?side1 ?side2 A5.out).mono ?_); (case side1 => exact HB.out); (case side2 => exact HV3.out); rintro e w15 ⟨rfl, hy0, hb, hkp⟩; refine ⟨_, rfl, ?_⟩; replace HO_0 := am (HN3.out _ _ _ hy0 hkp); replace HK := am (HK.out.then_ hkp (fun k_ h_ => h_.2)); replace HB := am hb; clear hb hkp hy0; clear HV3 HN3 hx3) | ((with_reducible refine gate_callee (f := 40) rfl ?_); refine goesL_ (some 44) rfl rfl Tryz.func40 (by kernel_rfl) rfl #[.int .i64 (b1)] rfl (by (try simp only [List.map_toArray, List.map_cons, List.map_nil]); first | done | rfl) ?_; (with_reducible refine (laws_markText.calls k1 (b1) t2 _ A6.out).mono ?_); rintro e w16 ⟨rfl, hb⟩; refine ⟨_, rfl, ?_⟩; replace HO_0 := am (Kd.S_below HO_0.out hb); replace HK := am (Kept.below (S := (fun k_ => P0_ k_)) HK.out hb); replace HB := am (below_step HB.out hb); clear hb; obtain ⟨⟨vc4, hx4⟩, hf4⟩ := S_cells HO_0.out x5_1 C5.out C3.out 4 (by decide); replace hx4 : w16.cell? ⟨go6, x5_1.toNat * 7 + 4, none⟩ = some vc4 := hx4; replace hf4 : w16.frozen? ⟨go6, x5_1.toNat * 7 + 4, none⟩ = false := hf4) | ((with_reducible refine gate_store (t := 9) (p := 46) rfl ?_); refine store_event (t := 9) (p := 46) (v := ?vo_w17) (w1 := (w16.setCell ⟨go6, x5_1.toNat * 7 + 4, none⟩ (.string t2))) ?hg ?ho ?hn ?hr ?_; (case ho => rfl); (case hg => rfl); (case hn => rfl); (case hr => first | (go_simp; done) | (go_simp; rfl)); intro w17 hw; have HP := S_next4 HO_0.out C5.out C3.out C3.out (t2); have hg : w16.grownBy w17 (some go6) := (by rw [hw]; exact HP.2); have n0_ := am (show Kd.S k53 53 w17 w0.heap.size (fun k_ => (P0_ k_ ∨ w.heap.size ≤ k_)) (.slice (some ⟨go6, 0, none⟩) x0_1.length co9) (x0_1.set x5_1.toNat (⟨x1_1, (wrap64 (x1_1 + 1)), t, b2, t2, (rd_T53 x0_1 x5_1).f5, (rd_T53 x0_1 x5_1).f6⟩ : S53)) from (by rw [hw]; exact HP.1)); clear HP; have n1_ := am ((by rw [hw]; exact below_set (HB.out) GB6.out : Below w0.heap.size w0 w17)); have n2_ := am (Kept.of_grown (S := (fun k_ => P0_ k_)) hg HK.out (fun k_ e_ => (by cases e_; exact OK6.out))); clear HO_0; clear HB; clear HK; have HO_0 := n0_; have HB := n1_; have HK := n2_; clear n0_ n1_ n2_; clear hg hw; clear hx4 hf4; obtain ⟨⟨vc5, hx5⟩, hf5⟩ := S_cells HO_0.out x5_1 C5.out C3.out 5 (by decide); replace hx5 : w17.cell? ⟨go6, x5_1.toNat * 7 + 5, none⟩ = some vc5 := hx5; replace hf5 : w17.frozen? ⟨go6, x5_1.toNat * 7 + 5, none⟩ = false := hf5) | ((with_reducible refine gate_store (t := 3) (p := 53) rfl ?_); refine store_event (t := 3) (p := 53) (v := ?vo_w18) (w1 := (w17.setCell ⟨go6, x5_1.toNat * 7 + 5, none⟩ (.int .i64 (wrap64 (b1 + 1))))) ?hg ?ho ?hn ?hr ?_; (case ho => rfl); (case hg => rfl); (case hn => rfl); (case hr => first | (go_simp; done) | (go_simp; rfl)); intro w18 hw; have HP := S_next5 HO_0.out C5.out C3.out C3.out ((wrap64 (b1 + 1))); have hg : w17.grownBy w18 (some go6) := (by rw [hw]; exact HP.2); have n0_ := am (show Kd.S k53 53 w18 w0.heap.size (fun k_ => (P0_ k_ ∨ w.heap.size ≤ k_)) (.slice (some ⟨go6, 0, none⟩) x0_1.length co9) (x0_1.set x5_1.toNat (⟨x1_1, (wrap64 (x1_1 + 1)), t, b2, t2, (wrap64 (b1 + 1)), (rd_T53 x0_1 x5_1).f6⟩ : S53)) from (by rw [hw]; exact HP.1)); clear HP; have n1_ := am ((by rw [hw]; exact below_set (HB.out) GB6.out : Below w0.heap.size w0 w18)); have n2_ := am (Kept.of_grown (S := (fun k_ => P0_ k_)) hg HK.out (fun k_ e_ => (by cases e_; exact OK6.out))); clear HO_0; clear HB; clear HK; have HO_0 := n0_; have HB := n1_; have HK := n2_; clear n0_ n1_ n2_; clear hg hw; clear hx5 hf5; obtain ⟨v6, hx6, hv_, hn_⟩ := S_kids' HO_0.out C5.out C3.out C3.out; have HV6 := am hv_; have HN6 := am hn_; clear hv_ hn_) | ((with_reducible refine gate_callee (f := 39) rfl ?_); refine goesL_ (some 62) rfl rfl Tryz.func39 (by kernel_rfl) rfl #[v6, .int .i64 (wrap64 (wrap64 (b1 + 1) + 1))] rfl (by (try simp only [List.map_toArray, List.map_cons, List.map_nil]); first | done | rfl) ?_; (with_reducible refine (laws_markIntS.calls k1 (fun k => some k = (v6 : Value).ownBlock ∧ (P0_ k ∨ w.heap.size ≤ k)) v6 ((rd_T53 x0_1 x5_1).f6) (wrap64 (wrap64 (b1 + 1) + 1)) d1 d2 w0 _ ?side1 ?side2 A7.out).mono ?_); (case side1 => exact HB.out); (case side2 => exact HV6.out); rintro e w19 ⟨rfl, hy0, hb, hkp⟩; refine ⟨_, rfl, ?_⟩; replace HO_0 := am (HN6.out _ _ _ hy0 hkp); replace HK := am (HK.out.then_ hkp (fun k_ h_ => h_.2)); replace HB := am hb; clear hb hkp hy0; clear HV6 HN6 hx6))
    go_roundg k1
    case measure => have := HK1.out; omega
    case rel => exact ⟨_, d1, wrap64 (x5_1 + 1), ab6, ab6, H', ⟨by have := HK1.out; omega⟩, HO_0, HK, HB⟩
   ·rw [if_neg c3] at H
    have c3b0 := decide_eq_false c3
    clear c3
    simp only [Option.some.injEq, Prod.mk.injEq] at H
    obtain ⟨rfl, rfl⟩ := H
    obtain ⟨Ao16, co16, eo16⟩ := Kd.S_slice HO_0.out
    subst eo16
    go_wp2
    go_ret
    exact ⟨by first | rfl | (simp; done), HO_0.out, HB.out, HK.out⟩
end
theorem sets_blk {t : TypeId} {b : Nat} : ∀ (vs : List Value) (o : Nat) (w : World) (cs : Array Value), w.heap[b]? = some (.cells cs t (0, 0)) → ∃ cs', (w.setCells b o vs).heap[b]? = some (.cells cs' t (0, 0)) ∧ cs'.size = cs.size
 | [], _, _, cs, h => ⟨cs, h, rfl⟩
 | v :: r, o, w, cs, h => by
  obtain ⟨cs', h1, h2⟩ := sets_blk r (o + 1) (w.setCell ⟨b, o, none⟩ v) _ (blk_set h o v)
  exact ⟨cs', h1, by rw [h2, Array.size_setIfInBounds]⟩
theorem sets_far {b k : Nat} (hk : k ≠ b) : ∀ (vs : List Value) (o : Nat) (w : World), (w.setCells b o vs).heap[k]? = w.heap[k]?
 | [], _, _ => rfl
 | v :: r, o, w => by
  rw [World.setCells, sets_far hk r (o + 1)]
  exact Below.heap_setCell w ⟨b, o, none⟩ v k hk
theorem sets_size {b : Nat} : ∀ (vs : List Value) (o : Nat) (w : World), (w.setCells b o vs).heap.size = w.heap.size
 | [], _, _ => rfl
 | v :: r, o, w => by rw [World.setCells, sets_size r (o + 1), World.size_setCell]
theorem sets_same {b : Nat} : ∀ (vs : List Value) (o : Nat) (w : World), (w.setCells b o vs).os = w.os ∧ (w.setCells b o vs).tape = w.tape ∧ (w.setCells b o vs).output = w.output
 | [], _, _ => ⟨rfl, rfl, rfl⟩
 | v :: r, o, w => by
  obtain ⟨h1, h2, h3⟩ := sets_same r (o + 1) (w.setCell ⟨b, o, none⟩ v)
  exact ⟨h1, h2, h3⟩
/-- A row of whole numbers, by its cells. -/
theorem row_of_cells {w : World} {base b n cap : Nat} {ok : Nat → Prop} {cur : Array Value} {zs : List Int} (hb : w.heap[b]? = some (.cells cur 3 (0, 0))) (hbase : base ≤ b) (hok : ok b) (hz : zs.length = n) (hn : n ≤ cap) (hc : cap ≤ maxLen) (hs : cur.size = cap)
  (hcell : ∀ j (h : j < zs.length), w.cell? ⟨b, j, none⟩ = some (.int .i64 zs[j])) : Kd.R (Kd.int .i64) 3 w base ok (.slice (some ⟨b, 0, none⟩) n cap) zs := by
 subst hz
 refine Kd.R_of_own ⟨by rw [encs_length, Nat.mul_one], .inr ⟨b, cap, cur, rfl, hbase, hb, hn, hc, by rw [hs, Nat.mul_one], ?_⟩⟩ (fun k hk => by
  have : b = k := by simpa [Value.ownBlock] using hk
  subst this
  exact hok)
 apply List.ext_getElem?
 intro j
 rw [Nat.mul_one]
 by_cases hj : j < zs.length
 ·rw [List.getElem?_take, if_pos hj, Array.getElem?_toList, ← blk_cell hb j, hcell j hj]
  unfold encs
  rw [List.getElem?_map, List.getElem?_eq_getElem hj]
  rfl
 ·rw [List.getElem?_eq_none (by rw [List.length_take]; omega), List.getElem?_eq_none (by rw [encs_length]; omega)]
/-- The list with k put in at i, number by number. -/
theorem ins_at (xs : List Int) (i : Nat) (k : Int) (hi : i ≤ xs.length) (j : Nat) (h : j < (xs.take i ++ k :: xs.drop i).length) :
  (xs.take i ++ k :: xs.drop i)[j] = if j < i then xs.getD j 0 else if j = i then k else xs.getD (j - 1) 0 := by
 have hl : j < xs.length + 1 := by rw [List.length_append, List.length_take, List.length_cons, List.length_drop, Nat.min_eq_left hi] at h; omega
 by_cases hj : j < i
 ·rw [if_pos hj, List.getElem_append_left (by rw [List.length_take]; omega), List.getElem_take, List.getD_eq_getElem?_getD, List.getElem?_eq_getElem (by omega)]
  rfl
 ·rw [if_neg hj, List.getElem_append_right (by rw [List.length_take]; omega)]
  by_cases e : j = i
  ·subst e
   rw [if_pos rfl]
   simp [List.length_take, Nat.min_eq_left hi]
  ·rw [if_neg e]
   have e2 : j - (xs.take i).length = (j - i - 1) + 1 := by rw [List.length_take, Nat.min_eq_left hi]; omega
   simp only [e2, List.getElem_cons_succ, List.getElem_drop]
   rw [List.getD_eq_getElem?_getD, List.getElem?_eq_getElem (by omega)]
   show _ = xs[j - 1]
   congr 1
   omega
theorem ins_length (xs : List Int) (i : Nat) (k : Int) (hi : i ≤ xs.length) : (xs.take i ++ k :: xs.drop i).length = xs.length + 1 := by
 rw [List.length_append, List.length_take, List.length_cons, List.length_drop, Nat.min_eq_left hi]; omega
/-- A row of one's own: nil, or a block. -/
theorem own_form {w : World} {base : Nat} {ok : Nat → Prop} {v : Value} {xs : List Int} (h : Kd.R (Kd.int .i64) 3 w base ok v xs) :
  (v = .slice none 0 0 ∧ xs = []) ∨ ∃ b cap cur, v = .slice (some ⟨b, 0, none⟩) xs.length cap ∧ base ≤ b ∧ ok b ∧ w.heap[b]? = some (.cells cur 3 (0, 0)) ∧ xs.length ≤ cap ∧ cap ≤ maxLen ∧ cur.size = cap ∧ ∀ j, j < xs.length → w.cell? ⟨b, j, none⟩ = some (.int .i64 (xs.getD j 0)) := by
 obtain ⟨_, h2⟩ := Kd.own_of_R h
 rcases h2 with ⟨rfl, h3⟩ | ⟨b, cap, cur, rfl, hb, hh, hn, hc, hs, ht⟩
 ·exact .inl ⟨rfl, List.eq_nil_of_length_eq_zero h3⟩
 ·refine .inr ⟨b, cap, cur, rfl, hb, h.1 b (by simp [Value.ownBlock]), hh, hn, hc, by rw [hs, Nat.mul_one], fun j hj => ?_⟩
  rw [blk_cell hh j]
  have e : (cur.toList.take (xs.length * 1))[j]? = (encs (Value.int .i64) xs)[j]? := by rw [ht]
  rw [Nat.mul_one, List.getElem?_take, if_pos hj, Array.getElem?_toList] at e
  rw [e]
  unfold encs
  rw [List.getElem?_map, List.getElem?_eq_getElem hj, List.getD_eq_getElem?_getD, List.getElem?_eq_getElem hj]
  rfl
section
variable {w w' : World} {base b cap i vb : Nat} {ok : Nat → Prop} {cur : Array Value} {xs : List Int} {k : Int}
/-- In place: what lies behind i moved on by one, k put in. -/
theorem ins_shift (hh : w.heap[b]? = some (.cells cur 3 (0, 0))) (hs : cur.size = cap) (hn : xs.length + 1 ≤ cap) (hc : cap ≤ maxLen) (hb : base ≤ b) (hok : ok b) (hi : i ≤ xs.length) (hcell : ∀ j, j < xs.length → w.cell? ⟨b, j, none⟩ = some (.int .i64 (xs.getD j 0)))
  (vs : List Value) (hvs : vs = (xs.drop i).map (Value.int .i64)) : Kd.R (Kd.int .i64) 3 ((w.setCells b (i + 1) vs).setCells b i [.int .i64 k]) base ok (.slice (some ⟨b, 0, none⟩) (xs.length + 1) cap) (xs.take i ++ k :: xs.drop i) ∧ w.grownBy ((w.setCells b (i + 1) vs).setCells b i [.int .i64 k]) (some b) := by
 subst hvs
 have hsome : ∀ (W : World) (cs : Array Value), W.heap[b]? = some (.cells cs 3 (0, 0)) → cs.size = cap → ∀ j, j < cap → (W.cell? ⟨b, j, none⟩).isSome = true := by
  intro W cs h1 h2 j hj
  rw [blk_cell h1 j, Array.getElem?_eq_getElem (by omega)]
  rfl
 obtain ⟨c1, h1, s1⟩ := sets_blk ((xs.drop i).map (Value.int .i64)) (i + 1) w cur hh
 obtain ⟨c2, h2, s2⟩ := sets_blk [.int .i64 k] i (w.setCells b (i + 1) ((xs.drop i).map (Value.int .i64))) c1 h1
 refine ⟨row_of_cells h2 hb hok (ins_length xs i k hi) hn hc (by omega) (fun j hj => ?_), ?_⟩
 ·rw [ins_at xs i k hi j hj]
  rw [ins_length xs i k hi] at hj
  by_cases e : j = i
  ·subst e
   rw [if_neg (Nat.lt_irrefl _), if_pos rfl]
   exact World.cell?_setCells_in b [.int .i64 k] j _ (fun q hq => hsome _ c1 h1 (by omega) (j + q) (by simp at hq; omega)) 0 (by simp)
  ·rw [World.cell?_setCells_out b [.int .i64 k] i _ _ (fun _ _ => by show j < i ∨ i + 1 ≤ j; omega)]
   by_cases hj2 : j < i
   ·rw [if_pos hj2, World.cell?_setCells_out b _ (i + 1) w _ (fun _ _ => by show j < i + 1 ∨ _; omega)]
    exact hcell j (by omega)
   ·rw [if_neg hj2, if_neg e]
    have hq : j - (i + 1) < ((xs.drop i).map (Value.int .i64)).length := by rw [List.length_map, List.length_drop]; omega
    have := World.cell?_setCells_in b ((xs.drop i).map (Value.int .i64)) (i + 1) w (fun q hq2 => hsome w cur hh hs (i + 1 + q) (by rw [List.length_map, List.length_drop] at hq2; omega)) (j - (i + 1)) hq
    rw [show i + 1 + (j - (i + 1)) = j by omega] at this
    rw [this, List.getElem_map, List.getElem_drop, List.getD_eq_getElem?_getD, List.getElem?_eq_getElem (by omega)]
    congr 2
    show _ = xs[j - 1]
    congr 1
    omega
 ·obtain ⟨o1, t1, p1⟩ := sets_same (b := b) ((xs.drop i).map (Value.int .i64)) (i + 1) w
  obtain ⟨o2, t2, p2⟩ := sets_same (b := b) [.int .i64 k] i (w.setCells b (i + 1) ((xs.drop i).map (Value.int .i64)))
  refine ⟨o2.trans o1, t2.trans t1, p2.trans p1, by rw [sets_size, sets_size]; exact Nat.le_refl _, fun q _ hne => ?_⟩
  have hqb : q ≠ b := fun e => hne (by rw [e])
  rw [sets_far hqb, sets_far hqb]
/-- In a new block, whose first i cells hold what they held: k put in, then what lies behind it. -/
theorem ins_fresh {W : World} (hh : W.heap[b]? = some (.cells cur 3 (0, 0))) (hs : cur.size = cap) (hn : xs.length + 1 ≤ cap) (hc : cap ≤ maxLen) (hb : base ≤ b) (hok : ok b) (hi : i ≤ xs.length) (hcell : ∀ j, j < i → W.cell? ⟨b, j, none⟩ = some (.int .i64 (xs.getD j 0))) :
  Kd.R (Kd.int .i64) 3 ((W.setCells b i [.int .i64 k]).drew.setCells b (i + 1) ((xs.drop i).map (Value.int .i64))) base ok (.slice (some ⟨b, 0, none⟩) (xs.length + 1) cap) (xs.take i ++ k :: xs.drop i) := by
 have hsome : ∀ (W : World) (cs : Array Value), W.heap[b]? = some (.cells cs 3 (0, 0)) → cs.size = cap → ∀ j, j < cap → (W.cell? ⟨b, j, none⟩).isSome = true := by
  intro W cs h1 h2 j hj
  rw [blk_cell h1 j, Array.getElem?_eq_getElem (by omega)]
  rfl
 obtain ⟨c1, h1, s1⟩ := sets_blk [.int .i64 k] i W cur hh
 have h1' : (W.setCells b i [.int .i64 k]).drew.heap[b]? = some (.cells c1 3 (0, 0)) := h1
 obtain ⟨c2, h2, s2⟩ := sets_blk ((xs.drop i).map (Value.int .i64)) (i + 1) (W.setCells b i [.int .i64 k]).drew c1 h1'
 refine row_of_cells h2 hb hok (ins_length xs i k hi) hn hc (by omega) (fun j hj => ?_)
 rw [ins_at xs i k hi j hj]
 rw [ins_length xs i k hi] at hj
 by_cases hj2 : j ≤ i
 ·rw [World.cell?_setCells_out b _ (i + 1) _ _ (fun _ _ => by show j < i + 1 ∨ _; omega)]
  show (W.setCells b i [.int .i64 k]).cell? ⟨b, j, none⟩ = _
  by_cases e : j = i
  ·subst e
   rw [if_neg (Nat.lt_irrefl _), if_pos rfl]
   exact World.cell?_setCells_in b [.int .i64 k] j _ (fun q hq => hsome _ cur hh hs (j + q) (by simp at hq; omega)) 0 (by simp)
  ·rw [World.cell?_setCells_out b [.int .i64 k] i _ _ (fun _ _ => by show j < i ∨ i + 1 ≤ j; omega), if_pos (by omega)]
   exact hcell j (by omega)
 ·rw [if_neg (by omega), if_neg (by omega)]
  have hq : j - (i + 1) < ((xs.drop i).map (Value.int .i64)).length := by rw [List.length_map, List.length_drop]; omega
  have := World.cell?_setCells_in b ((xs.drop i).map (Value.int .i64)) (i + 1) (W.setCells b i [.int .i64 k]).drew (fun q hq2 => hsome _ c1 h1' (by omega) (i + 1 + q) (by rw [List.length_map, List.length_drop] at hq2; omega)) (j - (i + 1)) hq
  rw [show i + 1 + (j - (i + 1)) = j by omega] at this
  rw [this, List.getElem_map, List.getElem_drop, List.getD_eq_getElem?_getD, List.getElem?_eq_getElem (by omega)]
  congr 2
  show _ = xs[j - 1]
  congr 1
  omega
end
theorem AppendOwn_size (n : Nat) : (Builtin.zeroCells (Value.int .i64 0).cells n).size = n := by rw [size_zeroCells]; show n * 1 = n; omega
theorem alloc_size (w : World) (o : Obj) : w.heap.size < (w.alloc o).heap.size := by
 show w.heap.size < (w.heap.push o).size
 rw [Array.size_push]; omega
theorem app_at (l : List Value) (Z : Array Value) (j : Nat) (h : j < l.length) : (l.toArray ++ Z)[j]? = some l[j] := by
 rw [Array.getElem?_append_left (by rw [List.size_toArray]; exact h), List.getElem?_toArray, List.getElem?_eq_getElem h]
/-- slices.Insert(s, i, k): the row with k put in at i; it is the old block, or a new one; no other block is touched. -/
theorem insert_calls {P : Program} {ρ : Ren} (L : Lays2.n21 P ρ) (h3 : ρ.t 3 = 3) {w : World} {base : Nat} {ok : Nat → Prop} {v : Value} {xs : List Int} {i : Nat} {k : Int} {vb : Nat} (hi : i ≤ xs.length) (hl : xs.length < 17592186044415) (HO : Kd.R (Kd.int .i64) 3 w base ok v xs)
  (hbase : base ≤ w.heap.size) (hv : w.heap[vb]? = some (.cells #[.int .i64 k] 3 (0, 0))) (hne : some vb ≠ v.ownBlock) (hok : ∀ q, w.heap.size ≤ q → ok q) :
  Calls P (ρ.f 21) #[v, .int .i64 i, .slice (some ⟨vb, 0, none⟩) 1 1] w fun e w' => ∃ v1, e = .returned v1 ∧ Kd.R (Kd.int .i64) 3 w' base ok v1 (xs.take i ++ k :: xs.drop i) ∧ (v1.ownBlock = v.ownBlock ∨ ∃ b, v1.ownBlock = some b ∧ w.heap.size ≤ b) ∧
   (∀ q, q < w.heap.size → some q ≠ v.ownBlock → w'.heap[q]? = w.heap[q]?) ∧ w.heap.size ≤ w'.heap.size ∧ w'.os = w.os ∧ w'.tape = w.tape ∧ w'.output = w.output := by
 have hvs : ∀ j u, ([.int .i64 k] : List Value)[j]? = some u → w.cell? ⟨vb, 0 + j, none⟩ = some u := by
  intro j u hj
  rw [Nat.zero_add, blk_cell hv j]
  rw [show (#[Value.int .i64 k] : Array Value) = [Value.int .i64 k].toArray from rfl, List.getElem?_toArray]
  exact hj
 have h1v : ∀ u ∈ ([.int .i64 k] : List Value), u.oneCell' = true := by intro u hu; rw [List.mem_singleton] at hu; subst hu; rfl
 have hml : xs.length + 1 ≤ maxLen := by unfold maxLen; omega
 rcases own_form HO with ⟨rfl, rfl⟩ | ⟨b, cap, cur, rfl, hb, hbok, hh, hn, hc, hs, hcell⟩
 ·obtain rfl : i = 0 := by simpa using hi
  have hg := grownCap_ge w (0 + 1) 0 (ρ.t 3)
  have hgl := grownCap_le_maxLen w (0 + 1) 0 (ρ.t 3) (by unfold maxLen; omega)
  refine (Any2.slices_Insert_int_end_grow L none 0 0 vb 0 1 1 [] [.int .i64 k] w (by omega) (Nat.le_refl _) (by omega) (by omega) rfl rfl (fun _ => rfl) (fun a ha => by cases ha) hvs h1v).mono ?_
  rintro e w' ⟨rfl, rfl⟩
  rw [h3] at hg hgl ⊢
  generalize hG : grownCap w (0 + 1) 0 3 = G at *
  have hh' : (w.drew.alloc (.cells (([] ++ [Value.int .i64 k]).toArray ++ Builtin.zeroCells (Value.int .i64 0).cells (G - (0 + 1))) 3 (0, 0))).heap[w.heap.size]? = _ := blk_new w.drew _
  refine ⟨_, rfl, row_of_cells (zs := [k]) hh' hbase (hok _ (Nat.le_refl _)) rfl hg hgl ?_ (fun j hj => ?_), .inr ⟨w.heap.size, by simp [Value.ownBlock], Nat.le_refl _⟩, fun q hq _ => (Below.heap_alloc w.drew _ q hq), ?_, rfl, rfl, rfl⟩
  ·rw [Array.size_append, AppendOwn_size]; show 1 + _ = G; omega
  ·obtain rfl : j = 0 := by simpa using hj
   rw [blk_cell hh' 0]
   exact app_at ([] ++ [.int .i64 k]) _ 0 (by simp)
  ·exact Nat.le_of_lt (alloc_size w.drew _)
 ·have hxl : (xs.map (Value.int .i64)).length = xs.length := List.length_map ..
  have hcs : ∀ j u, (xs.map (Value.int .i64))[j]? = some u → w.cell? ⟨b, 0 + j, none⟩ = some u := by
   intro j u hj
   rw [List.getElem?_map] at hj
   obtain ⟨q, hq, rfl⟩ := Option.map_eq_some_iff.1 hj
   obtain ⟨hjl, hqe⟩ := List.getElem?_eq_some_iff.1 hq
   rw [Nat.zero_add, hcell j hjl, List.getD_eq_getElem?_getD, hq]
   rfl
  have h1c : ∀ u ∈ xs.map (Value.int .i64), u.oneCell' = true := by
   intro u hu
   obtain ⟨q, _, rfl⟩ := List.mem_map.1 hu
   rfl
  have hdrop : (xs.map (Value.int .i64)).drop i = (xs.drop i).map (Value.int .i64) := (List.map_drop ..).symm
  have hvb : vb ≠ b := fun e => hne (by rw [e]; simp [Value.ownBlock])
  have hbl : b < w.heap.size := blk_lt hh
  have hsome : ∀ j, j < cap → (w.cell? ⟨b, j, none⟩).isSome = true := by
   intro j hj
   rw [blk_cell hh j, Array.getElem?_eq_getElem (by omega)]
   rfl
  have hc63 : cap ≤ 9223372036854775807 := hc
  by_cases hroom : xs.length + 1 ≤ cap
  ·by_cases hin : i < xs.length
   ·refine (Any2.slices_Insert_int_shift L b 0 xs.length cap i vb 0 1 1 (xs.map (Value.int .i64)) [.int .i64 k] w hin (by omega) hroom hc63 hvb hxl rfl hcs (fun j hj => by rw [Nat.zero_add]; exact hsome j (by omega)) (fun j _ => blk_frozen hh _) hvs h1c h1v 3 3 1 cur.size (by simp [World.shape?, hv]) (by simp [World.shape?, hh]) (by omega) (blk_frozen hv 0) (blk_frozen hv 1)).mono ?_
    rintro e w' ⟨rfl, rfl⟩
    simp only [Nat.zero_add, hdrop]
    obtain ⟨r1, r2⟩ := ins_shift (w := w.drew) (k := k) (i := i) hh hs hroom hc hb hbok hi hcell _ rfl
    exact ⟨_, rfl, r1, .inl (by simp [Value.ownBlock]), fun q hq hq2 => r2.block q hq (by simpa [Value.ownBlock] using hq2), r2.size, r2.os, r2.tape, r2.output⟩
   ·obtain rfl : i = xs.length := by omega
    refine (Any2.slices_Insert_int_end_room L b 0 xs.length cap vb 0 1 1 [.int .i64 k] w (by omega) hroom hc63 rfl (fun j hj => by rw [Nat.zero_add]; exact hsome _ (by omega)) (fun j _ => blk_frozen hh _) hvs h1v).mono ?_
    rintro e w' ⟨rfl, rfl⟩
    simp only [Nat.zero_add]
    obtain ⟨r1, r2⟩ := ins_shift (w := w) (k := k) (i := xs.length) hh hs hroom hc hb hbok hi hcell [] (by rw [List.drop_length]; rfl)
    exact ⟨_, rfl, r1, .inl (by simp [Value.ownBlock]), fun q hq hq2 => r2.block q hq (by simpa [Value.ownBlock] using hq2), r2.size, r2.os, r2.tape, r2.output⟩
  ·have hg := grownCap_ge w (xs.length + 1) cap (ρ.t 3)
   have hgl := grownCap_le_maxLen w (xs.length + 1) cap (ρ.t 3) hml
   by_cases hin : i < xs.length
   ·refine (Any2.slices_Insert_int_grow L b 0 xs.length cap i vb 0 1 1 (xs.map (Value.int .i64)) [.int .i64 k] w hin (by omega) hn (by omega) (by omega) hxl rfl hcs hvs h1c h1v).mono ?_
    rintro e w' ⟨rfl, rfl⟩
    rw [h3] at hg hgl ⊢
    generalize grownCap w (xs.length + 1) cap 3 = G at *
    rw [hdrop]
    have hh' := blk_new w (.cells (((xs.map (Value.int .i64)).take i).toArray ++ Builtin.zeroCells (Value.int .i64 0).cells (xs.length + 1 - i) ++ Builtin.zeroCells (Value.int .i64 0).cells (G - (xs.length + 1))) 3 (0, 0))
    refine ⟨_, rfl, ins_fresh (W := (w.alloc _).drew) (base := base) (ok := ok) (k := k) hh' ?_ hg hgl hbase (hok _ (Nat.le_refl _)) hi (fun j hj => ?_), .inr ⟨w.heap.size, by simp [Value.ownBlock], Nat.le_refl _⟩, fun q hq _ => ?_, ?_, ?_, ?_, ?_⟩
    ·rw [Array.size_append, Array.size_append, AppendOwn_size, AppendOwn_size, List.size_toArray, List.length_take, hxl]; omega
    ·rw [show ((w.alloc _).drew.cell? ⟨w.heap.size, j, none⟩) = _ from blk_cell hh' j, Array.append_assoc, app_at _ _ j (by rw [List.length_take, hxl]; omega), List.getElem_take, List.getElem_map, List.getD_eq_getElem?_getD, List.getElem?_eq_getElem (by omega)]
     rfl
    ·rw [sets_far (by omega)]
     show ((w.alloc _).drew.setCells w.heap.size i [.int .i64 k]).heap[q]? = _
     rw [sets_far (by omega)]
     exact Below.heap_alloc w _ q hq
    ·rw [sets_size]
     show _ ≤ ((w.alloc _).drew.setCells w.heap.size i [.int .i64 k]).heap.size
     rw [sets_size]
     exact Nat.le_of_lt (alloc_size w _)
    ·exact (sets_same _ _ _).1.trans (sets_same (b := w.heap.size) [.int .i64 k] i _).1
    ·exact (sets_same _ _ _).2.1.trans (sets_same (b := w.heap.size) [.int .i64 k] i _).2.1
    ·exact (sets_same _ _ _).2.2.trans (sets_same (b := w.heap.size) [.int .i64 k] i _).2.2
   ·obtain rfl : i = xs.length := by omega
    refine (Any2.slices_Insert_int_end_grow L (some ⟨b, 0, none⟩) xs.length cap vb 0 1 1 (xs.map (Value.int .i64)) [.int .i64 k] w (by omega) hn (by omega) (by omega) hxl rfl (fun h => by cases h) (fun a ha j u hj => by
     cases ha
     rw [Addr.add_lit]
     exact hcs j u hj) hvs h1v).mono ?_
    rintro e w' ⟨rfl, rfl⟩
    rw [h3] at hg hgl ⊢
    generalize grownCap w (xs.length + 1) cap 3 = G at *
    have hh' : (w.drew.alloc (.cells ((xs.map (Value.int .i64) ++ [Value.int .i64 k]).toArray ++ Builtin.zeroCells (Value.int .i64 0).cells (G - (xs.length + 1))) 3 (0, 0))).heap[w.heap.size]? = _ := blk_new w.drew _
    refine ⟨_, rfl, row_of_cells hh' hbase (hok _ (Nat.le_refl _)) (ins_length xs _ k hi) hg hgl ?_ (fun j hj => ?_), .inr ⟨w.heap.size, by simp [Value.ownBlock], Nat.le_refl _⟩, fun q hq _ => Below.heap_alloc w.drew _ q hq, Nat.le_of_lt (alloc_size w.drew _), rfl, rfl, rfl⟩
    ·rw [Array.size_append, AppendOwn_size, List.size_toArray, List.length_append, hxl]; show xs.length + 1 + _ = G; omega
    ·have hjl := hj
     rw [ins_length xs _ k hi] at hjl
     rw [blk_cell hh' j, app_at _ _ j (by rw [List.length_append, hxl]; exact hjl), ins_at xs _ k hi j hj]
     by_cases e : j < xs.length
     ·rw [if_pos e, List.getElem_append_left (by rw [hxl]; exact e), List.getElem_map, List.getD_eq_getElem?_getD, List.getElem?_eq_getElem e]
      rfl
     ·obtain rfl : j = xs.length := by omega
      rw [if_neg (Nat.lt_irrefl _), if_pos rfl, List.getElem_append_right (by rw [hxl]; exact Nat.le_refl _)]
      simp
/-- The kids of item i, read; what a call makes of them in their own block or in a new one, stored. -/
theorem S_kids_store {w : World} {base : Nat} {ok : Nat → Prop} {g n cap : Nat} {xs : List S53} (hS : Kd.S k53 53 w base ok (.slice (some ⟨g, 0, none⟩) n cap) xs) (i : Int) (h0 : 0 ≤ i) (h1 : i < n) (hok : ∀ k, w.heap.size ≤ k → ok k) (hg : g < w.heap.size) :
  ∃ (A6 : Option Addr) (c6 : Nat), w.cell? ⟨g, i.toNat * 7 + 6, none⟩ = some (.slice A6 (rd_T53 xs i).f6.length c6) ∧ (∀ j, w.frozen? ⟨g, i.toNat * 7 + j, none⟩ = false) ∧ (rd_T53 xs i).f6.length ≤ c6 ∧
   Kd.R (Kd.int .i64) 3 w base (fun k => (some k = (.slice A6 (rd_T53 xs i).f6.length c6 : Value).ownBlock ∧ ok k ∧ k ≠ g) ∨ w.heap.size ≤ k) (.slice A6 (rd_T53 xs i).f6.length c6) (rd_T53 xs i).f6 ∧
   ∀ (w1 : World) (v1 : Value) (r2 : List Int), Kd.R (Kd.int .i64) 3 w1 base (fun k => (some k = (.slice A6 (rd_T53 xs i).f6.length c6 : Value).ownBlock ∧ ok k ∧ k ≠ g) ∨ w.heap.size ≤ k) v1 r2 → Kept w w1 (fun k => some k = (.slice A6 (rd_T53 xs i).f6.length c6 : Value).ownBlock) →
    Kd.S k53 53 (w1.setCell ⟨g, i.toNat * 7 + 6, none⟩ v1) base ok (.slice (some ⟨g, 0, none⟩) n cap) (xs.set i.toNat (⟨(rd_T53 xs i).f0, (rd_T53 xs i).f1, (rd_T53 xs i).f2, (rd_T53 xs i).f3, (rd_T53 xs i).f4, (rd_T53 xs i).f5, r2⟩ : S53)) ∧ w1.grownBy (w1.setCell ⟨g, i.toNat * 7 + 6, none⟩ v1) (some g) := by
 obtain ⟨oki, c, hcl, hM, hcc, hfr, hoki, hH⟩ := Kd.S_elem hS z53 i h0 h1
 obtain ⟨v3, v6, rfl, g3, g6⟩ := k53_openM hM
 obtain ⟨A6, c6, rfl⟩ := Kd.R_slice g6
 have hle := (Kd.R_reads' g6).2.1
 refine ⟨A6, c6, hcc 6 _ rfl, hfr, hle, Kd.R_mono (Kd.R_tight2 rfl g6) (fun k hk => Or.inl ⟨hk.1, hoki k hk.2⟩), fun w1 v1 r2 hr hk => ?_⟩
 have g3' := other_type (S := fun _ => True) rfl rfl (by decide) g3 g6 (hk.mono (fun k h => ⟨h, trivial⟩))
 have hH1 := Kd.H_step (w1 := w1) (Kd.H_widen hH) (fun k _ hn hlt => hk.2 k hlt (fun hp => hn (Or.inl (g6.1 k hp.symm))))
 obtain ⟨_, hone⟩ := Kd.R_val hr
 obtain ⟨h3, h4⟩ := Kd.H_seg hH1 h0 h1 (seg := [v1]) (j := 6) (by show 6 + 1 ≤ 7; omega) (fun q hq => by rw [List.mem_singleton] at hq; subst hq; exact hone)
 refine ⟨?_, h4⟩
 have G6 := Kd.R_far hr (p := ⟨g, i.toNat * 7 + 6, none⟩) (fun k hk => hk.elim (fun h => h.2.2) (fun h => by show k ≠ g; omega)) v1
 have G3 := Kd.R_far g3' (p := ⟨g, i.toNat * 7 + 6, none⟩) (fun k hk => (hoki k hk).2) v1
 have hM2 := k53_mkM (w1.setCell ⟨g, i.toNat * 7 + 6, none⟩ v1) base (fun k => oki k ∨ ok k ∧ w.heap.size ≤ k) (⟨(rd_T53 xs i).f0, (rd_T53 xs i).f1, (rd_T53 xs i).f2, (rd_T53 xs i).f3, (rd_T53 xs i).f4, (rd_T53 xs i).f5, r2⟩ : S53) (Kd.R_mono G3 (fun k hk => Or.inl hk)) (Kd.R_mono G6 (fun k hk => hk.elim (fun h => Or.inl (g6.1 k h.1.symm)) (fun h => Or.inr ⟨hok k h, h⟩)))
 exact Kd.H_back h3 hM2 (fun k hk => hk)
end Go.Proofs.YtekkalnafngfeaaGreat.P
