-- WRITTEN BY hprint.py, this session's own program, over the kit's printer: not typed by hand; Lean checks it
import Derived.Test.YtgljgbkbjlondaaDoorPr0
import Derived.Test.YtgljgbkbjlondaaDoorPr1
import Derived.Test.YtgljgbkbjlondaaDoorPr2
import Derived.Test.YtgljgbkbjlondaaDoorPr3
import Derived.Test.YtgljgbkbjlondaaDoorPr4
import Derived.Test.YtgljgbkbjlondaaDoorPr6
import Derived.Test.YtgljgbkbjlondaaDoorPr12
import Derived.Test.YtgljgbkbjlondaaDoorPr13
import Derived.Test.YtgljgbkbjlondaaDoorPr15
import Derived.Test.YtgljgbkbjlondaaDoorPr16
import Derived.Test.YtgljgbkbjlondaaDoorPr22
import Derived.Test.YtgljgbkbjlondaaDoorPr24
namespace Go.Proofs.YtgljgbkbjlondaaDoor.P
open Go.RowKit Go.Proofs.YtgljgbkbjlondaaDoorW.PrintWords Go.Proofs.YtgljgbkbjlondaaDoorW.PrintLast Go.Proofs.YtgljgbkbjlondaaDoorW.PrintMore
attribute [local go_sem] max2_int min2_int max_two min_two max_three min_three max_four min_four   -- for this text's walks alone
set_option linter.unusedVariables false
set_option linter.unusedSimpArgs false

/-! ### laws_FnRefs: function 5 -/
mutual
def laws_FnRefs.j0 : Nat → List Int → ByteArray → ByteArray → ByteArray → Int → Int → Bool → Option (Bool)
 | 0, _, _, _, _, _, _, _ => none
 | k + 1, x0, x3, x5, x9, x10, x13, x87 => if x87 = true then (some false) else ((spec_DrawEscape.f k x0).bind fun bt365 => ((impl_Escape.f bt365.1 bt365.2).bind fun t367 => ((impl_Refs.f k t367 bt365.2).bind fun t368 => (if t368.toList = bt365.1.toList then (laws_FnRefs.j1 k x3 x5 x9 x10 x13 false) else ((impl_CleanOk.f k bt365.1).bind fun t369 => (laws_FnRefs.j1 k x3 x5 x9 x10 x13 t369))))))
def laws_FnRefs.j1 : Nat → ByteArray → ByteArray → ByteArray → Int → Int → Bool → Option (Bool)
 | 0, _, _, _, _, _, _ => none
 | k + 1, x3, x5, x9, x10, x13, x103 => if x103 = true then (some false) else (laws_FnRefs.l0 k x3 x5 x9 x10 x13 0)
def laws_FnRefs.l0 : Nat → ByteArray → ByteArray → ByteArray → Int → Int → Int → Option (Bool)
 | 0, _, _, _, _, _, _ => none
 | k + 1, x3, x5, x9, x10, x13, x17 => if x17 < (x3.size : Int) then (if 0 ≤ x17 then (if (bt x3 x17) = 38 then (if x10 = 0 then (some true) else (some (decide ((x9.size : Int) > 0)))) else (laws_FnRefs.l0 k x3 x5 x9 x10 x13 (wrap64 (x17 + 1)))) else (none)) else (if x5.toList = x3.toList then ((impl_Numbered.f x13).bind fun t370 => ((impl_SignOk.f t370).bind fun t371 => (some t371))) else (some false))
end
def laws_FnRefs.f (k : Nat) (l0 : List Int) : Option (Bool) := (laws_big.f l0).bind fun t341 => (if t341 = true then (some true) else ((spec_DrawRefs.f k l0).bind fun bt342 => ((impl_Refs.f k bt342.1 bt342.2).bind fun t344 => ((spec_DrawRef.f k l0).bind fun bt345 => ((impl_Ref.f k bt345.1 bt345.2.1 bt345.2.2).bind fun bt348 => ((spec_Ref.f k bt345.1 bt345.2.1 bt345.2.2).bind fun bt350 => ((spec_DrawNumbered.f k l0).bind fun t352 => ((spec_DrawNameSign.f k l0).bind fun t353 => ((spec_Refs.f k bt342.1 bt342.2).bind fun t354 => (if t344.toList = t354.toList then (if bt348.1.toList = bt350.1.toList then (if bt348.2 = bt350.2 then ((impl_Numbered.f t352).bind fun t355 => ((spec_Numbered.f k t352).bind fun t356 => (if t355 = t356 then ((impl_NameSign.f k t353).bind fun t357 => ((spec_NameSign.f k t353).bind fun t358 => (if t357 = t358 then ((impl_Named.f).bind fun t359 => ((spec_Named.f).bind fun t362 => (laws_FnRefs.j0 k l0 bt342.1 t344 bt348.1 bt348.2 t352 ((t359.length : Int) != (t362.length : Int))))) else (laws_FnRefs.j0 k l0 bt342.1 t344 bt348.1 bt348.2 t352 true)))) else (laws_FnRefs.j0 k l0 bt342.1 t344 bt348.1 bt348.2 t352 true)))) else (laws_FnRefs.j0 k l0 bt342.1 t344 bt348.1 bt348.2 t352 true)) else (laws_FnRefs.j0 k l0 bt342.1 t344 bt348.1 bt348.2 t352 true)) else (laws_FnRefs.j0 k l0 bt342.1 t344 bt348.1 bt348.2 t352 true)))))))))))
theorem laws_FnRefs.mono_l : ∀ k, (∀ y0 y1 y2 y3 y4 y5 y6, LeO (laws_FnRefs.j0 k y0 y1 y2 y3 y4 y5 y6) (laws_FnRefs.j0 (k + 1) y0 y1 y2 y3 y4 y5 y6)) ∧ (∀ y0 y1 y2 y3 y4 y5, LeO (laws_FnRefs.j1 k y0 y1 y2 y3 y4 y5) (laws_FnRefs.j1 (k + 1) y0 y1 y2 y3 y4 y5)) ∧ (∀ y0 y1 y2 y3 y4 y5, LeO (laws_FnRefs.l0 k y0 y1 y2 y3 y4 y5) (laws_FnRefs.l0 (k + 1) y0 y1 y2 y3 y4 y5))
 | 0 => ⟨fun _ _ _ _ _ _ _ r h => by simp [laws_FnRefs.j0] at h, fun _ _ _ _ _ _ r h => by simp [laws_FnRefs.j1] at h, fun _ _ _ _ _ _ r h => by simp [laws_FnRefs.l0] at h⟩
 | k + 1 => by
  obtain ⟨ih0, ih1, ih2⟩ := laws_FnRefs.mono_l k
  refine ⟨?_, ?_, ?_⟩
  ·intro y0 y1 y2 y3 y4 y5 y6
   unfold laws_FnRefs.j0
   repeat' first
   | (with_reducible exact ih0 _ _ _ _ _ _ _)
   | (with_reducible exact ih1 _ _ _ _ _ _)
   | (with_reducible exact ih2 _ _ _ _ _ _)
   | (with_reducible exact impl_CleanOk.mono _ _)
   | (with_reducible exact impl_NameSign.mono _ _)
   | (with_reducible exact impl_Ref.mono _ _ _ _)
   | (with_reducible exact impl_Refs.mono _ _ _)
   | (with_reducible exact spec_DrawEscape.mono _ _)
   | (with_reducible exact spec_DrawNameSign.mono _ _)
   | (with_reducible exact spec_DrawNumbered.mono _ _)
   | (with_reducible exact spec_DrawRef.mono _ _)
   | (with_reducible exact spec_DrawRefs.mono _ _)
   | (with_reducible exact spec_NameSign.mono _ _)
   | (with_reducible exact spec_Numbered.mono _ _)
   | (with_reducible exact spec_Ref.mono _ _ _ _)
   | (with_reducible exact spec_Refs.mono _ _ _)
   | (with_reducible exact LeO.refl _)
   | (with_reducible exact LeO.none _)
   | (with_reducible refine LeO.ite ?_ ?_)
   | (with_reducible refine LeO.bind ?_ (fun _ => ?_))
  ·intro y0 y1 y2 y3 y4 y5
   unfold laws_FnRefs.j1
   repeat' first
   | (with_reducible exact ih0 _ _ _ _ _ _ _)
   | (with_reducible exact ih1 _ _ _ _ _ _)
   | (with_reducible exact ih2 _ _ _ _ _ _)
   | (with_reducible exact impl_CleanOk.mono _ _)
   | (with_reducible exact impl_NameSign.mono _ _)
   | (with_reducible exact impl_Ref.mono _ _ _ _)
   | (with_reducible exact impl_Refs.mono _ _ _)
   | (with_reducible exact spec_DrawEscape.mono _ _)
   | (with_reducible exact spec_DrawNameSign.mono _ _)
   | (with_reducible exact spec_DrawNumbered.mono _ _)
   | (with_reducible exact spec_DrawRef.mono _ _)
   | (with_reducible exact spec_DrawRefs.mono _ _)
   | (with_reducible exact spec_NameSign.mono _ _)
   | (with_reducible exact spec_Numbered.mono _ _)
   | (with_reducible exact spec_Ref.mono _ _ _ _)
   | (with_reducible exact spec_Refs.mono _ _ _)
   | (with_reducible exact LeO.refl _)
   | (with_reducible exact LeO.none _)
   | (with_reducible refine LeO.ite ?_ ?_)
   | (with_reducible refine LeO.bind ?_ (fun _ => ?_))
  ·intro y0 y1 y2 y3 y4 y5
   unfold laws_FnRefs.l0
   repeat' first
   | (with_reducible exact ih0 _ _ _ _ _ _ _)
   | (with_reducible exact ih1 _ _ _ _ _ _)
   | (with_reducible exact ih2 _ _ _ _ _ _)
   | (with_reducible exact impl_CleanOk.mono _ _)
   | (with_reducible exact impl_NameSign.mono _ _)
   | (with_reducible exact impl_Ref.mono _ _ _ _)
   | (with_reducible exact impl_Refs.mono _ _ _)
   | (with_reducible exact spec_DrawEscape.mono _ _)
   | (with_reducible exact spec_DrawNameSign.mono _ _)
   | (with_reducible exact spec_DrawNumbered.mono _ _)
   | (with_reducible exact spec_DrawRef.mono _ _)
   | (with_reducible exact spec_DrawRefs.mono _ _)
   | (with_reducible exact spec_NameSign.mono _ _)
   | (with_reducible exact spec_Numbered.mono _ _)
   | (with_reducible exact spec_Ref.mono _ _ _ _)
   | (with_reducible exact spec_Refs.mono _ _ _)
   | (with_reducible exact LeO.refl _)
   | (with_reducible exact LeO.none _)
   | (with_reducible refine LeO.ite ?_ ?_)
   | (with_reducible refine LeO.bind ?_ (fun _ => ?_))
theorem laws_FnRefs.mono : ∀ a0 k, LeO (laws_FnRefs.f k a0) (laws_FnRefs.f (k + 1) a0) := by
 intro a0 k
 obtain ⟨ih0, ih1, ih2⟩ := laws_FnRefs.mono_l k
 unfold laws_FnRefs.f
 repeat' first
   | (with_reducible exact ih0 _ _ _ _ _ _ _)
   | (with_reducible exact ih1 _ _ _ _ _ _)
   | (with_reducible exact ih2 _ _ _ _ _ _)
   | (with_reducible exact impl_CleanOk.mono _ _)
   | (with_reducible exact impl_NameSign.mono _ _)
   | (with_reducible exact impl_Ref.mono _ _ _ _)
   | (with_reducible exact impl_Refs.mono _ _ _)
   | (with_reducible exact spec_DrawEscape.mono _ _)
   | (with_reducible exact spec_DrawNameSign.mono _ _)
   | (with_reducible exact spec_DrawNumbered.mono _ _)
   | (with_reducible exact spec_DrawRef.mono _ _)
   | (with_reducible exact spec_DrawRefs.mono _ _)
   | (with_reducible exact spec_NameSign.mono _ _)
   | (with_reducible exact spec_Numbered.mono _ _)
   | (with_reducible exact spec_Ref.mono _ _ _ _)
   | (with_reducible exact spec_Refs.mono _ _ _)
   | (with_reducible exact LeO.refl _)
   | (with_reducible exact LeO.none _)
   | (with_reducible refine LeO.ite ?_ ?_)
   | (with_reducible refine LeO.bind ?_ (fun _ => ?_))
set_option maxHeartbeats 8000000 in
set_option maxRecDepth 100000 in
theorem laws_FnRefs.calls (k : Nat) (A0 : Option Addr) (c0 : Nat) (l0 : List Int) (r : Bool) (w : World) (hr0 : Kd.C (Kd.int .u8) w A0 l0.length l0) (hc0 : l0.length ≤ c0) (M_ : Int) (hm_ : w.cell? ⟨0, 0, none⟩ = some (.int .i64 M_)) (h : laws_FnRefs.f k l0 = some r) :
  Calls Tryd.prog 5 #[.slice A0 l0.length c0] w fun e w' => e = .returned (.bool r) ∧ Below w.heap.size w w' := by
 have HR0 := Aside0.mk hr0
 have HC0 := Aside0.mk hc0
 clear hr0 hc0
 have HB := Aside0.mk (Below.refl w.heap.size w)
 have HM_ := Aside0.mk hm_
 clear hm_
 have H : ((laws_big.f l0).bind fun t341 => (if t341 = true then (some true) else ((spec_DrawRefs.f k l0).bind fun bt342 => ((impl_Refs.f k bt342.1 bt342.2).bind fun t344 => ((spec_DrawRef.f k l0).bind fun bt345 => ((impl_Ref.f k bt345.1 bt345.2.1 bt345.2.2).bind fun bt348 => ((spec_Ref.f k bt345.1 bt345.2.1 bt345.2.2).bind fun bt350 => ((spec_DrawNumbered.f k l0).bind fun t352 => ((spec_DrawNameSign.f k l0).bind fun t353 => ((spec_Refs.f k bt342.1 bt342.2).bind fun t354 => (if t344.toList = t354.toList then (if bt348.1.toList = bt350.1.toList then (if bt348.2 = bt350.2 then ((impl_Numbered.f t352).bind fun t355 => ((spec_Numbered.f k t352).bind fun t356 => (if t355 = t356 then ((impl_NameSign.f k t353).bind fun t357 => ((spec_NameSign.f k t353).bind fun t358 => (if t357 = t358 then ((impl_Named.f).bind fun t359 => ((spec_Named.f).bind fun t362 => (laws_FnRefs.j0 k l0 bt342.1 t344 bt348.1 bt348.2 t352 ((t359.length : Int) != (t362.length : Int))))) else (laws_FnRefs.j0 k l0 bt342.1 t344 bt348.1 bt348.2 t352 true)))) else (laws_FnRefs.j0 k l0 bt342.1 t344 bt348.1 bt348.2 t352 true)))) else (laws_FnRefs.j0 k l0 bt342.1 t344 bt348.1 bt348.2 t352 true)) else (laws_FnRefs.j0 k l0 bt342.1 t344 bt348.1 bt348.2 t352 true)) else (laws_FnRefs.j0 k l0 bt342.1 t344 bt348.1 bt348.2 t352 true)))))))))))) = some r := h
 clear h
 replace H := Option.bind_eq_some_iff.mp H
 obtain ⟨t341, A20, H⟩ := H
 try dsimp only at H
 have A2 := Aside0.mk A20
 clear A20
 by_cases c3 : t341 = true
 ·subst c3
  rw [if_pos rfl] at H
  obtain rfl := Option.some.inj H
  go_enter Tryd.func5, Tryd.ntmps5
  go_wp2_with (first | ((with_reducible refine gate_callee (f := 11) rfl ?_); refine goesL_ (some 19) rfl rfl Tryd.func11 (by kernel_rfl) rfl #[.slice A0 l0.length c0] rfl ab5 ?_; (with_reducible refine (laws_big.calls _ _ l0 true _ ?side1 ?side2 A2.out).mono ?_); (case side1 => repeat (first | exact HR0.out | (with_reducible refine Kd.C_alloc ?_ _) | (with_reducible refine Kd.C_drewN ?_ _) | (with_reducible refine Kd.C_drew ?_))); (case side2 => exact HC0.out); rintro e w' ⟨rfl, ⟨nd, rfl⟩⟩; refine ⟨_, rfl, ?_⟩))
  go_ret
  exact ⟨ab7, ab1⟩
 ·replace c3 := Bool.eq_false_iff.mpr c3
  subst c3
  rw [if_neg (show ¬ (false = true) by decide)] at H
  replace H := Option.bind_eq_some_iff.mp H
  obtain ⟨⟨t342, t343⟩, A40, H⟩ := H
  try dsimp only at H
  have A4 := Aside0.mk A40
  clear A40
  replace H := Option.bind_eq_some_iff.mp H
  obtain ⟨t344, A50, H⟩ := H
  try dsimp only at H
  have A5 := Aside0.mk A50
  clear A50
  replace H := Option.bind_eq_some_iff.mp H
  obtain ⟨⟨t345, t346, t347⟩, A60, H⟩ := H
  try dsimp only at H
  have A6 := Aside0.mk A60
  clear A60
  replace H := Option.bind_eq_some_iff.mp H
  obtain ⟨⟨t348, t349⟩, A70, H⟩ := H
  try dsimp only at H
  have A7 := Aside0.mk A70
  clear A70
  replace H := Option.bind_eq_some_iff.mp H
  obtain ⟨⟨t350, t351⟩, A80, H⟩ := H
  try dsimp only at H
  have A8 := Aside0.mk A80
  clear A80
  replace H := Option.bind_eq_some_iff.mp H
  obtain ⟨t352, A90, H⟩ := H
  try dsimp only at H
  have A9 := Aside0.mk A90
  clear A90
  replace H := Option.bind_eq_some_iff.mp H
  obtain ⟨t353, A100, H⟩ := H
  try dsimp only at H
  have A10 := Aside0.mk A100
  clear A100
  have HC11 := Aside0.mk H
  clear H
  go_enter Tryd.func5, Tryd.ntmps5
  go_upto_region 9 with (first | ((with_reducible refine gate_callee (f := 11) rfl ?_); refine goesL_ (some 19) rfl rfl Tryd.func11 (by kernel_rfl) rfl #[.slice A0 l0.length c0] rfl ab5 ?_; (with_reducible refine (laws_big.calls _ _ l0 false _ ?side1 ?side2 A2.out).mono ?_); (case side1 => repeat (first | exact HR0.out | (with_reducible refine Kd.C_alloc ?_ _) | (with_reducible refine Kd.C_drewN ?_ _) | (with_reducible refine Kd.C_drew ?_))); (case side2 => exact HC0.out); rintro e w' ⟨rfl, ⟨nd, rfl⟩⟩; refine ⟨_, rfl, ?_⟩) | ((with_reducible refine gate_callee (f := 12) rfl ?_); refine goesL_ (some 22) rfl rfl Tryd.func12 (by kernel_rfl) rfl #[.slice A0 l0.length c0] rfl ab5 ?_; (with_reducible refine (spec_DrawRefs.calls k _ _ l0 t342 t343 _ ?side1 ?side2 A4.out).mono ?_); (case side1 => repeat (first | exact HR0.out | (with_reducible refine Kd.C_alloc ?_ _) | (with_reducible refine Kd.C_drewN ?_ _) | (with_reducible refine Kd.C_drew ?_))); (case side2 => exact HC0.out); rintro e w12 ⟨rfl, hb⟩; refine ⟨_, rfl, ?_⟩; have n0_ := Aside0.mk (below_step ab1 hb); clear HB; have HB := n0_; clear n0_; (try clear hb); (try clear hb2); (try clear hk); (try clear hi)) | ((with_reducible refine gate_callee (f := 13) rfl ?_); refine goesL_ (some 27) rfl rfl Tryd.func13 (by kernel_rfl) rfl #[.string t342, .bool t343] rfl ab5 ?_; (with_reducible refine (impl_Refs.calls k t342 t343 t344 _ A5.out).mono ?_); rintro e w13 ⟨rfl, hb⟩; refine ⟨_, rfl, ?_⟩; have n0_ := Aside0.mk (below_step ab1 hb); clear HB; have HB := n0_; clear n0_; (try clear hb); (try clear hb2); (try clear hk); (try clear hi)) | ((with_reducible refine gate_callee (f := 14) rfl ?_); refine goesL_ (some 30) rfl rfl Tryd.func14 (by kernel_rfl) rfl #[.slice A0 l0.length c0] rfl ab5 ?_; (with_reducible refine (spec_DrawRef.calls k _ _ l0 t345 t346 t347 _ ?side1 ?side2 A6.out).mono ?_); (case side1 => repeat (first | exact (Kd.C_below HR0.out HB.out) | (with_reducible refine Kd.C_alloc ?_ _) | (with_reducible refine Kd.C_drewN ?_ _) | (with_reducible refine Kd.C_drew ?_))); (case side2 => exact HC0.out); rintro e w14 ⟨rfl, hb⟩; refine ⟨_, rfl, ?_⟩; have n0_ := Aside0.mk (below_step ab1 hb); clear HB; have HB := n0_; clear n0_; (try clear hb); (try clear hb2); (try clear hk); (try clear hi)) | ((with_reducible refine gate_callee (f := 15) rfl ?_); refine goesL_ (some 38) rfl rfl Tryd.func15 (by kernel_rfl) rfl #[.string t345, .int .i64 t346, .bool t347] rfl ab5 ?_; (with_reducible refine (impl_Ref.calls k t345 t346 t347 t348 t349 _ A7.out).mono ?_); rintro e w15 ⟨rfl, hb⟩; refine ⟨_, rfl, ?_⟩; have n0_ := Aside0.mk (below_step ab1 hb); clear HB; have HB := n0_; clear n0_; (try clear hb); (try clear hb2); (try clear hk); (try clear hi)) | ((with_reducible refine gate_callee (f := 16) rfl ?_); refine goesL_ (some 45) rfl rfl Tryd.func16 (by kernel_rfl) rfl #[.string t345, .int .i64 t346, .bool t347] rfl ab5 ?_; (with_reducible refine (spec_Ref.calls k t345 t346 t347 t350 t351 _ A8.out).mono ?_); rintro e w16 ⟨rfl, hb⟩; refine ⟨_, rfl, ?_⟩; have n0_ := Aside0.mk (below_step ab1 hb); clear HB; have HB := n0_; clear n0_; (try clear hb); (try clear hb2); (try clear hk); (try clear hi)) | ((with_reducible refine gate_callee (f := 17) rfl ?_); refine goesL_ (some 49) rfl rfl Tryd.func17 (by kernel_rfl) rfl #[.slice A0 l0.length c0] rfl ab5 ?_; (with_reducible refine (spec_DrawNumbered.calls k _ _ l0 t352 _ ?side1 ?side2 A9.out).mono ?_); (case side1 => repeat (first | exact (Kd.C_below HR0.out HB.out) | (with_reducible refine Kd.C_alloc ?_ _) | (with_reducible refine Kd.C_drewN ?_ _) | (with_reducible refine Kd.C_drew ?_))); (case side2 => exact HC0.out); rintro e w17 ⟨rfl, hb⟩; refine ⟨_, rfl, ?_⟩; have n0_ := Aside0.mk (below_step ab1 hb); clear HB; have HB := n0_; clear n0_; (try clear hb); (try clear hb2); (try clear hk); (try clear hi)) | ((with_reducible refine gate_callee (f := 18) rfl ?_); refine goesL_ (some 51) rfl rfl Tryd.func18 (by kernel_rfl) rfl #[.slice A0 l0.length c0] rfl ab5 ?_; (with_reducible refine (spec_DrawNameSign.calls k _ _ l0 t353 _ ?side1 ?side2 A10.out).mono ?_); (case side1 => repeat (first | exact (Kd.C_below HR0.out HB.out) | (with_reducible refine Kd.C_alloc ?_ _) | (with_reducible refine Kd.C_drewN ?_ _) | (with_reducible refine Kd.C_drew ?_))); (case side2 => exact HC0.out); rintro e w18 ⟨rfl, hb⟩; refine ⟨_, rfl, ?_⟩; have n0_ := Aside0.mk (below_step ab1 hb); clear HB; have HB := n0_; clear n0_; (try clear hb); (try clear hb2); (try clear hk); (try clear hi)))
  (try simp only [Act.put, List.setIfInBounds_toArray, List.set_cons_zero, List.set_cons_succ])
  go_cut [87] (fun v87 wc => ∃ (kq : Nat) (x87_10 : Bool), v87 = .bool x87_10 ∧ Aside0 (laws_FnRefs.j0 kq l0 t342 t344 t348 t349 t352 x87_10 = some r) ∧ Aside0 (kq ≤ k) ∧ Aside0 (Below w.heap.size w wc))
  case first =>
   have H := HC11.out
   clear HC11
   replace H := Option.bind_eq_some_iff.mp H
   obtain ⟨t354, A190, H⟩ := H
   try dsimp only at H
   have A19 := Aside0.mk A190
   clear A190
   by_cases c20 : t344.toList = t354.toList
   ·rw [if_pos c20] at H
    have c20b0 : (t344.toList == t354.toList) = true := beq_iff_eq.mpr c20
    have c20b1 : (t344.toList != t354.toList) = false := bne_eq_false_iff_eq.mpr c20
    clear c20
    (first | rw [c20b0] | (simp only [i64_w, i32_w]; rw [c20b0]) | skip)
    (try (generalize hgzc20 : (t344.toList == t354.toList) = bqc20 at *; subst c20b0; have c20b0 := hgzc20; clear hgzc20))
    by_cases c21 : t348.toList = t350.toList
    ·rw [if_pos c21] at H
     have c21b0 : (t348.toList == t350.toList) = true := beq_iff_eq.mpr c21
     have c21b1 : (t348.toList != t350.toList) = false := bne_eq_false_iff_eq.mpr c21
     clear c21
     by_cases c22 : t349 = t351
     ·rw [if_pos c22] at H
      have c22b0 : (t349 == t351) = true := beq_iff_eq.mpr c22
      have c22b1 : (t349 != t351) = false := bne_eq_false_iff_eq.mpr c22
      clear c22
      replace H := Option.bind_eq_some_iff.mp H
      obtain ⟨t355, A230, H⟩ := H
      replace H : ((spec_Numbered.f k t352).bind fun t356 => (if t355 = t356 then ((impl_NameSign.f k t353).bind fun t357 => ((spec_NameSign.f k t353).bind fun t358 => (if t357 = t358 then ((impl_Named.f).bind fun t359 => ((spec_Named.f).bind fun t362 => (laws_FnRefs.j0 k l0 t342 t344 t348 t349 t352 ((t359.length : Int) != (t362.length : Int))))) else (laws_FnRefs.j0 k l0 t342 t344 t348 t349 t352 true)))) else (laws_FnRefs.j0 k l0 t342 t344 t348 t349 t352 true))) = some r := by first | exact H | (rw [c20b0]; exact H)
      have A23 := Aside0.mk A230
      clear A230
      replace H := Option.bind_eq_some_iff.mp H
      obtain ⟨t356, A240, H⟩ := H
      replace H : (if t355 = t356 then ((impl_NameSign.f k t353).bind fun t357 => ((spec_NameSign.f k t353).bind fun t358 => (if t357 = t358 then ((impl_Named.f).bind fun t359 => ((spec_Named.f).bind fun t362 => (laws_FnRefs.j0 k l0 t342 t344 t348 t349 t352 ((t359.length : Int) != (t362.length : Int))))) else (laws_FnRefs.j0 k l0 t342 t344 t348 t349 t352 true)))) else (laws_FnRefs.j0 k l0 t342 t344 t348 t349 t352 true)) = some r := by first | exact H | (rw [c20b0]; exact H)
      have A24 := Aside0.mk A240
      clear A240
      by_cases c25 : t355 = t356
      ·rw [if_pos c25] at H
       have c25b0 : (t355 == t356) = true := beq_iff_eq.mpr c25
       have c25b1 : (t355 != t356) = false := bne_eq_false_iff_eq.mpr c25
       clear c25
       replace H := Option.bind_eq_some_iff.mp H
       obtain ⟨t357, A260, H⟩ := H
       replace H : ((spec_NameSign.f k t353).bind fun t358 => (if t357 = t358 then ((impl_Named.f).bind fun t359 => ((spec_Named.f).bind fun t362 => (laws_FnRefs.j0 k l0 t342 t344 t348 t349 t352 ((t359.length : Int) != (t362.length : Int))))) else (laws_FnRefs.j0 k l0 t342 t344 t348 t349 t352 true))) = some r := by first | exact H | (rw [c20b0]; exact H)
       have A26 := Aside0.mk A260
       clear A260
       replace H := Option.bind_eq_some_iff.mp H
       obtain ⟨t358, A270, H⟩ := H
       replace H : (if t357 = t358 then ((impl_Named.f).bind fun t359 => ((spec_Named.f).bind fun t362 => (laws_FnRefs.j0 k l0 t342 t344 t348 t349 t352 ((t359.length : Int) != (t362.length : Int))))) else (laws_FnRefs.j0 k l0 t342 t344 t348 t349 t352 true)) = some r := by first | exact H | (rw [c20b0]; exact H)
       have A27 := Aside0.mk A270
       clear A270
       by_cases c28 : t357 = t358
       ·rw [if_pos c28] at H
        have c28b0 : (t357 == t358) = true := beq_iff_eq.mpr c28
        have c28b1 : (t357 != t358) = false := bne_eq_false_iff_eq.mpr c28
        clear c28
        replace H := Option.bind_eq_some_iff.mp H
        obtain ⟨t359, A290, H⟩ := H
        replace H : ((spec_Named.f).bind fun t362 => (laws_FnRefs.j0 k l0 t342 t344 t348 t349 t352 ((t359.length : Int) != (t362.length : Int)))) = some r := by first | exact H | (rw [c20b0]; exact H)
        have A29 := Aside0.mk A290
        clear A290
        replace H := Option.bind_eq_some_iff.mp H
        obtain ⟨t362, A300, H⟩ := H
        replace H : (laws_FnRefs.j0 k l0 t342 t344 t348 t349 t352 ((t359.length : Int) != (t362.length : Int))) = some r := by first | exact H | (rw [c20b0]; exact H)
        have A30 := Aside0.mk A300
        clear A300
        have H' := Aside0.mk H
        clear H
        go_wp2_with (first | ((with_reducible refine gate_callee (f := 19) rfl ?_); refine goesL_ (some 55) rfl rfl Tryd.func19 (by kernel_rfl) rfl #[.string t342, .bool t343] rfl ab5 ?_; (with_reducible refine (spec_Refs.calls k t342 t343 t354 _ A19.out).mono ?_); rintro e w31 ⟨rfl, hb⟩; refine ⟨_, rfl, ?_⟩; have n0_ := Aside0.mk (below_step ab1 hb); clear HB; have HB := n0_; clear n0_; (try clear hb); (try clear hb2); (try clear hk); (try clear hi)) | (go_at_call 20; (with_reducible refine (impl_Numbered.calls t352 t355 _ A23.out).mono ?_); rintro e w' ⟨rfl, ⟨nd, rfl⟩⟩) | (go_at_call 21; (with_reducible refine (spec_Numbered.calls k t352 t356 _ A24.out).mono ?_); rintro e w32 ⟨rfl, hb⟩; have n0_ := Aside0.mk (below_step ab1 hb); clear HB; have HB := n0_; clear n0_; (try clear hb); (try clear hb2); (try clear hk); (try clear hi)) | (go_at_call 22; (with_reducible refine (impl_NameSign.calls k t353 t357 _ A26.out).mono ?_); rintro e w33 ⟨rfl, hb⟩; have n0_ := Aside0.mk (below_step ab1 hb); clear HB; have HB := n0_; clear n0_; (try clear hb); (try clear hb2); (try clear hk); (try clear hi)) | (go_at_call 23; (with_reducible refine (spec_NameSign.calls k t353 t358 _ A27.out).mono ?_); rintro e w34 ⟨rfl, hb⟩; have n0_ := Aside0.mk (below_step ab1 hb); clear HB; have HB := n0_; clear n0_; (try clear hb); (try clear hb2); (try clear hk); (try clear hi)) | (go_at_call 24; (with_reducible refine (impl_Named.calls  t359 _ A29.out).mono ?_); rintro e w35 ⟨v360, rfl, ho0, hb⟩; have n0_ := Aside0.mk (Kd.R_lower ho0 (below_size ab1)); have n1_ := Aside0.mk (below_step ab1 hb); clear HB; have HO361 := n0_; have HB := n1_; clear n0_ n1_; (try clear hb); (try clear hb2); (try clear hk); (try clear hi); (try clear ho0); obtain ⟨Ao36, co36, eo36⟩ := Kd.R_slice HO361.out; subst eo36) | (go_at_call 25; (with_reducible refine (spec_Named.calls  t362 _ A30.out).mono ?_); rintro e w37 ⟨v363, rfl, ho0, hb⟩; have n0_ := Aside0.mk (Kd.R_elder' (ab8 HO361) (Kd.R_base ho0) hb); have n1_ := Aside0.mk (Kd.R_lower (Kd.R_new' ho0 (Kd.R_lt (ab8 HO361))) (below_size ab1)); have n2_ := Aside0.mk (below_step ab1 hb); clear HO361; clear HB; have HO361 := n0_; have HO364 := n1_; have HB := n2_; clear n0_ n1_ n2_; (try clear hb); (try clear hb2); (try clear hk); (try clear hi); (try clear ho0); obtain ⟨Ao38, co38, eo38⟩ := Kd.R_slice HO364.out; subst eo38))
        go_meet
        case rel => exact ⟨_, (((t359.length : Int) != (t362.length : Int))), ab6, (by first | exact H' | (have h_ := H'.out; rw [c20b0] at h_; exact ⟨h_⟩)), ⟨by first | omega | exact Nat.le_refl _⟩, ⟨ab1⟩⟩
       ·rw [if_neg c28] at H
        have c28b0 : (t357 == t358) = false := beq_eq_false_iff_ne.mpr c28
        have c28b1 : (t357 != t358) = true := bne_iff_ne.mpr c28
        have H' := Aside0.mk H
        clear H
        go_wp2_with (first | ((with_reducible refine gate_callee (f := 19) rfl ?_); refine goesL_ (some 55) rfl rfl Tryd.func19 (by kernel_rfl) rfl #[.string t342, .bool t343] rfl ab5 ?_; (with_reducible refine (spec_Refs.calls k t342 t343 t354 _ A19.out).mono ?_); rintro e w39 ⟨rfl, hb⟩; refine ⟨_, rfl, ?_⟩; have n0_ := Aside0.mk (below_step ab1 hb); clear HB; have HB := n0_; clear n0_; (try clear hb); (try clear hb2); (try clear hk); (try clear hi)) | (go_at_call 20; (with_reducible refine (impl_Numbered.calls t352 t355 _ A23.out).mono ?_); rintro e w' ⟨rfl, ⟨nd, rfl⟩⟩) | (go_at_call 21; (with_reducible refine (spec_Numbered.calls k t352 t356 _ A24.out).mono ?_); rintro e w40 ⟨rfl, hb⟩; have n0_ := Aside0.mk (below_step ab1 hb); clear HB; have HB := n0_; clear n0_; (try clear hb); (try clear hb2); (try clear hk); (try clear hi)) | (go_at_call 22; (with_reducible refine (impl_NameSign.calls k t353 t357 _ A26.out).mono ?_); rintro e w41 ⟨rfl, hb⟩; have n0_ := Aside0.mk (below_step ab1 hb); clear HB; have HB := n0_; clear n0_; (try clear hb); (try clear hb2); (try clear hk); (try clear hi)) | (go_at_call 23; (with_reducible refine (spec_NameSign.calls k t353 t358 _ A27.out).mono ?_); rintro e w42 ⟨rfl, hb⟩; have n0_ := Aside0.mk (below_step ab1 hb); clear HB; have HB := n0_; clear n0_; (try clear hb); (try clear hb2); (try clear hk); (try clear hi)))
        go_meet
        case rel => exact ⟨_, (true), ab6, (by first | exact H' | (have h_ := H'.out; rw [c20b0] at h_; exact ⟨h_⟩)), ⟨by first | omega | exact Nat.le_refl _⟩, ⟨ab1⟩⟩
      ·rw [if_neg c25] at H
       have c25b0 : (t355 == t356) = false := beq_eq_false_iff_ne.mpr c25
       have c25b1 : (t355 != t356) = true := bne_iff_ne.mpr c25
       have H' := Aside0.mk H
       clear H
       go_wp2_with (first | ((with_reducible refine gate_callee (f := 19) rfl ?_); refine goesL_ (some 55) rfl rfl Tryd.func19 (by kernel_rfl) rfl #[.string t342, .bool t343] rfl ab5 ?_; (with_reducible refine (spec_Refs.calls k t342 t343 t354 _ A19.out).mono ?_); rintro e w43 ⟨rfl, hb⟩; refine ⟨_, rfl, ?_⟩; have n0_ := Aside0.mk (below_step ab1 hb); clear HB; have HB := n0_; clear n0_; (try clear hb); (try clear hb2); (try clear hk); (try clear hi)) | (go_at_call 20; (with_reducible refine (impl_Numbered.calls t352 t355 _ A23.out).mono ?_); rintro e w' ⟨rfl, ⟨nd, rfl⟩⟩) | (go_at_call 21; (with_reducible refine (spec_Numbered.calls k t352 t356 _ A24.out).mono ?_); rintro e w44 ⟨rfl, hb⟩; have n0_ := Aside0.mk (below_step ab1 hb); clear HB; have HB := n0_; clear n0_; (try clear hb); (try clear hb2); (try clear hk); (try clear hi)))
       go_meet
       case rel => exact ⟨_, (true), ab6, (by first | exact H' | (have h_ := H'.out; rw [c20b0] at h_; exact ⟨h_⟩)), ⟨by first | omega | exact Nat.le_refl _⟩, ⟨ab1⟩⟩
     ·rw [if_neg c22] at H
      have c22b0 : (t349 == t351) = false := beq_eq_false_iff_ne.mpr c22
      have c22b1 : (t349 != t351) = true := bne_iff_ne.mpr c22
      have H' := Aside0.mk H
      clear H
      go_wp2_with (first | ((with_reducible refine gate_callee (f := 19) rfl ?_); refine goesL_ (some 55) rfl rfl Tryd.func19 (by kernel_rfl) rfl #[.string t342, .bool t343] rfl ab5 ?_; (with_reducible refine (spec_Refs.calls k t342 t343 t354 _ A19.out).mono ?_); rintro e w45 ⟨rfl, hb⟩; refine ⟨_, rfl, ?_⟩; have n0_ := Aside0.mk (below_step ab1 hb); clear HB; have HB := n0_; clear n0_; (try clear hb); (try clear hb2); (try clear hk); (try clear hi)))
      go_meet
      case rel => exact ⟨_, (true), ab6, (by first | exact H' | (have h_ := H'.out; rw [c20b0] at h_; exact ⟨h_⟩)), ⟨by first | omega | exact Nat.le_refl _⟩, ⟨ab1⟩⟩
    ·rw [if_neg c21] at H
     have c21b0 : (t348.toList == t350.toList) = false := beq_eq_false_iff_ne.mpr c21
     have c21b1 : (t348.toList != t350.toList) = true := bne_iff_ne.mpr c21
     have H' := Aside0.mk H
     clear H
     go_wp2_with (first | ((with_reducible refine gate_callee (f := 19) rfl ?_); refine goesL_ (some 55) rfl rfl Tryd.func19 (by kernel_rfl) rfl #[.string t342, .bool t343] rfl ab5 ?_; (with_reducible refine (spec_Refs.calls k t342 t343 t354 _ A19.out).mono ?_); rintro e w46 ⟨rfl, hb⟩; refine ⟨_, rfl, ?_⟩; have n0_ := Aside0.mk (below_step ab1 hb); clear HB; have HB := n0_; clear n0_; (try clear hb); (try clear hb2); (try clear hk); (try clear hi)))
     go_meet
     case rel => exact ⟨_, (true), ab6, (by first | exact H' | (have h_ := H'.out; rw [c20b0] at h_; exact ⟨h_⟩)), ⟨by first | omega | exact Nat.le_refl _⟩, ⟨ab1⟩⟩
   ·rw [if_neg c20] at H
    have c20b0 : (t344.toList == t354.toList) = false := beq_eq_false_iff_ne.mpr c20
    have c20b1 : (t344.toList != t354.toList) = true := bne_iff_ne.mpr c20
    (first | rw [c20b0] | (simp only [i64_w, i32_w]; rw [c20b0]) | skip)
    (try (generalize hgzc20 : (t344.toList == t354.toList) = bqc20 at *; subst c20b0; have c20b0 := hgzc20; clear hgzc20))
    have H' := Aside0.mk H
    clear H
    go_wp2_with (first | ((with_reducible refine gate_callee (f := 19) rfl ?_); refine goesL_ (some 55) rfl rfl Tryd.func19 (by kernel_rfl) rfl #[.string t342, .bool t343] rfl ab5 ?_; (with_reducible refine (spec_Refs.calls k t342 t343 t354 _ A19.out).mono ?_); rintro e w47 ⟨rfl, hb⟩; refine ⟨_, rfl, ?_⟩; have n0_ := Aside0.mk (below_step ab1 hb); clear HB; have HB := n0_; clear n0_; (try clear hb); (try clear hb2); (try clear hk); (try clear hi)))
    go_meet
    case rel => exact ⟨_, (true), ab6, (by first | exact H' | (have h_ := H'.out; rw [c20b0] at h_; exact ⟨h_⟩)), ⟨by first | omega | exact Nat.le_refl _⟩, ⟨ab1⟩⟩
  case rest =>
   clear HC11
   (try clear c1); (try clear c2); (try clear p2); (try clear c3); (try clear c5); (try clear c11); (try clear c12); (try clear c13); (try clear c14); (try clear c15); (try clear c16); (try clear c17); (try clear c18); (try clear c19); (try clear c20); (try clear c20b0); (try clear c20b1); (try clear c21); (try clear c21b0); (try clear c21b1); (try clear c22); (try clear c22b0); (try clear c22b1); (try clear c25); (try clear c25b0); (try clear c25b1); (try clear c28); (try clear c28b0); (try clear c28b1)
   obtain ⟨kq, x87_10, rfl, HA, HJ10, HB⟩ := hcut
   cases kq with
   | zero => exact absurd HA.out (by simp [laws_FnRefs.j0])
   | succ kj10 =>
    have H := HA.out
    clear HA
    simp only [laws_FnRefs.j0] at H
    by_cases c48 : x87_10 = true
    ·subst c48
     rw [if_pos rfl] at H
     obtain rfl := Option.some.inj H
     go_wp2
     go_ret
     exact ⟨ab7, ab1⟩
    ·replace c48 := Bool.eq_false_iff.mpr c48
     subst c48
     rw [if_neg (show ¬ (false = true) by decide)] at H
     replace H := Option.bind_eq_some_iff.mp H
     obtain ⟨⟨t365, t366⟩, A490, H⟩ := H
     try dsimp only at H
     have A49 := Aside0.mk A490
     clear A490
     have HC50 := Aside0.mk H
     clear H
     go_upto_region 12 with (first | ((with_reducible refine gate_callee (f := 26) rfl ?_); refine goesL_ (some 90) rfl rfl Tryd.func26 (by kernel_rfl) rfl #[.slice A0 l0.length c0] rfl ab5 ?_; (with_reducible refine (spec_DrawEscape.calls kj10 _ _ l0 t365 t366 _ ?side1 ?side2 A49.out).mono ?_); (case side1 => repeat (first | exact (Kd.C_below HR0.out HB.out) | (with_reducible refine Kd.C_alloc ?_ _) | (with_reducible refine Kd.C_drewN ?_ _) | (with_reducible refine Kd.C_drew ?_))); (case side2 => exact HC0.out); rintro e w51 ⟨rfl, hb⟩; refine ⟨_, rfl, ?_⟩; have n0_ := Aside0.mk (below_step ab1 hb); clear HB; have HB := n0_; clear n0_; (try clear hb); (try clear hb2); (try clear hk); (try clear hi)))
     (try simp only [Act.put, List.setIfInBounds_toArray, List.set_cons_zero, List.set_cons_succ])
     go_cut [103] (fun v103 wc => ∃ (kq : Nat) (x103_49 : Bool), v103 = .bool x103_49 ∧ Aside0 (laws_FnRefs.j1 kq t342 t344 t348 t349 t352 x103_49 = some r) ∧ Aside0 (kq ≤ kj10) ∧ Aside0 (Below w.heap.size w wc))
     case first =>
      have H := HC50.out
      clear HC50
      replace H := Option.bind_eq_some_iff.mp H
      obtain ⟨t367, A520, H⟩ := H
      try dsimp only at H
      have A52 := Aside0.mk A520
      clear A520
      replace H := Option.bind_eq_some_iff.mp H
      obtain ⟨t368, A530, H⟩ := H
      try dsimp only at H
      have A53 := Aside0.mk A530
      clear A530
      by_cases c54 : t368.toList = t365.toList
      ·rw [if_pos c54] at H
       have c54b0 : (t368.toList == t365.toList) = true := beq_iff_eq.mpr c54
       have c54b1 : (t368.toList != t365.toList) = false := bne_eq_false_iff_eq.mpr c54
       clear c54
       (first | rw [c54b0] | (simp only [i64_w, i32_w]; rw [c54b0]) | skip)
       (try (generalize hgzc54 : (t368.toList == t365.toList) = bqc54 at *; subst c54b0; have c54b0 := hgzc54; clear hgzc54))
       have H' := Aside0.mk H
       clear H
       go_wp2_with (first | ((with_reducible refine gate_callee (f := 27) rfl ?_); refine goesL_ (some 95) rfl rfl Tryd.func27 (by kernel_rfl) rfl #[.string t365, .bool t366] rfl ab5 ?_; (with_reducible refine (impl_Escape.calls t365 t366 t367 _ M_ ?side1 A52.out).mono ?_); (case side1 => exact pw_cell_below ab1 HM_.out); rintro e w55 ⟨rfl, hb⟩; refine ⟨_, rfl, ?_⟩; have n0_ := Aside0.mk (below_step ab1 hb); clear HB; have HB := n0_; clear n0_; (try clear hb); (try clear hb2); (try clear hk); (try clear hi)) | ((with_reducible refine gate_callee (f := 13) rfl ?_); refine goesL_ (some 97) rfl rfl Tryd.func13 (by kernel_rfl) rfl #[.string t367, .bool t366] rfl ab5 ?_; (with_reducible refine (impl_Refs.calls kj10 t367 t366 t368 _ A53.out).mono ?_); rintro e w56 ⟨rfl, hb⟩; refine ⟨_, rfl, ?_⟩; have n0_ := Aside0.mk (below_step ab1 hb); clear HB; have HB := n0_; clear n0_; (try clear hb); (try clear hb2); (try clear hk); (try clear hi)))
       go_meet
       case rel => exact ⟨_, (false), ab6, (by first | exact H' | (have h_ := H'.out; rw [c54b0] at h_; exact ⟨h_⟩)), ⟨by have := HJ10.out; first | omega | exact Nat.le_refl _⟩, ⟨ab1⟩⟩
      ·rw [if_neg c54] at H
       have c54b0 : (t368.toList == t365.toList) = false := beq_eq_false_iff_ne.mpr c54
       have c54b1 : (t368.toList != t365.toList) = true := bne_iff_ne.mpr c54
       (first | rw [c54b0] | (simp only [i64_w, i32_w]; rw [c54b0]) | skip)
       (try (generalize hgzc54 : (t368.toList == t365.toList) = bqc54 at *; subst c54b0; have c54b0 := hgzc54; clear hgzc54))
       replace H := Option.bind_eq_some_iff.mp H
       obtain ⟨t369, A570, H⟩ := H
       replace H : (laws_FnRefs.j1 kj10 t342 t344 t348 t349 t352 t369) = some r := by first | exact H | (rw [c54b0]; exact H)
       have A57 := Aside0.mk A570
       clear A570
       have H' := Aside0.mk H
       clear H
       go_wp2_with (first | ((with_reducible refine gate_callee (f := 27) rfl ?_); refine goesL_ (some 95) rfl rfl Tryd.func27 (by kernel_rfl) rfl #[.string t365, .bool t366] rfl ab5 ?_; (with_reducible refine (impl_Escape.calls t365 t366 t367 _ M_ ?side1 A52.out).mono ?_); (case side1 => exact pw_cell_below ab1 HM_.out); rintro e w58 ⟨rfl, hb⟩; refine ⟨_, rfl, ?_⟩; have n0_ := Aside0.mk (below_step ab1 hb); clear HB; have HB := n0_; clear n0_; (try clear hb); (try clear hb2); (try clear hk); (try clear hi)) | ((with_reducible refine gate_callee (f := 13) rfl ?_); refine goesL_ (some 97) rfl rfl Tryd.func13 (by kernel_rfl) rfl #[.string t367, .bool t366] rfl ab5 ?_; (with_reducible refine (impl_Refs.calls kj10 t367 t366 t368 _ A53.out).mono ?_); rintro e w59 ⟨rfl, hb⟩; refine ⟨_, rfl, ?_⟩; have n0_ := Aside0.mk (below_step ab1 hb); clear HB; have HB := n0_; clear n0_; (try clear hb); (try clear hb2); (try clear hk); (try clear hi)) | (go_at_call 28; (with_reducible refine (impl_CleanOk.calls kj10 t365 t369 _ A57.out).mono ?_); rintro e w60 ⟨rfl, hb⟩; have n0_ := Aside0.mk (below_step ab1 hb); clear HB; have HB := n0_; clear n0_; (try clear hb); (try clear hb2); (try clear hk); (try clear hi)))
       go_meet
       case rel => exact ⟨_, (t369), ab6, (by first | exact H' | (have h_ := H'.out; rw [c54b0] at h_; exact ⟨h_⟩)), ⟨by have := HJ10.out; first | omega | exact Nat.le_refl _⟩, ⟨ab1⟩⟩
     case rest =>
      clear HC50
      (try clear c1); (try clear c2); (try clear p2); (try clear c3); (try clear c4); (try clear c5); (try clear c11); (try clear c12); (try clear c13); (try clear c14); (try clear c15); (try clear c16); (try clear c17); (try clear c18); (try clear c19); (try clear c20); (try clear c20b0); (try clear c20b1); (try clear c21); (try clear c21b0); (try clear c21b1); (try clear c22); (try clear c22b0); (try clear c22b1); (try clear c25); (try clear c25b0); (try clear c25b1); (try clear c26); (try clear c27); (try clear c28); (try clear c28b0); (try clear c28b1); (try clear c48); (try clear c54); (try clear c54b0); (try clear c54b1); (try clear p2)
      obtain ⟨kq, x103_49, rfl, HA, HJ49, HB⟩ := hcut
      cases kq with
      | zero => exact absurd HA.out (by simp [laws_FnRefs.j1])
      | succ kj49 =>
       have H := HA.out
       clear HA
       simp only [laws_FnRefs.j1] at H
       by_cases c61 : x103_49 = true
       ·subst c61
        rw [if_pos rfl] at H
        obtain rfl := Option.some.inj H
        go_wp2
        go_ret
        exact ⟨ab7, ab1⟩
       ·replace c61 := Bool.eq_false_iff.mpr c61
        subst c61
        rw [if_neg (show ¬ (false = true) by decide)] at H
        have H' := Aside0.mk H
        clear H
        go_wp2
        go_loopg [17] kj49 (fun kq v17 w' => ∃ (x17_3 : Int), v17 = .int .i64 x17_3 ∧ Aside0 (laws_FnRefs.l0 kq t342 t344 t348 t349 t352 x17_3 = some r) ∧ Aside0 (kq ≤ kj49) ∧ Aside0 (Below w.heap.size w w'))
        case atStart => exact ⟨(0), ab6, H', ⟨Nat.le_refl _⟩, ⟨ab1⟩⟩
        case round =>
         clear H'
         (try clear c1); (try clear c2); (try clear p2); (try clear c3); (try clear c4); (try clear c5); (try clear c6); (try clear c11); (try clear c12); (try clear c13); (try clear c14); (try clear c15); (try clear c16); (try clear c17); (try clear c18); (try clear c19); (try clear c20); (try clear c20b0); (try clear c20b1); (try clear c21); (try clear c21b0); (try clear c21b1); (try clear c22); (try clear c22b0); (try clear c22b1); (try clear c25); (try clear c25b0); (try clear c25b1); (try clear c26); (try clear c27); (try clear c28); (try clear c28b0); (try clear c28b1); (try clear c48); (try clear c54); (try clear c54b0); (try clear c54b1); (try clear c61); (try clear p2)
         obtain ⟨x17_3, rfl, HA, HK3, HB⟩ := hrel
         cases gk with
         | zero => exact absurd HA.out (by simp [laws_FnRefs.l0])
         | succ k3 =>
          have H := HA.out
          clear HA
          simp only [laws_FnRefs.l0] at H
          by_cases c62 : x17_3 < (t342.size : Int)
          ·rw [if_pos c62] at H
           have c62b0 := decide_eq_true c62
           clear c62
           by_cases c63 : 0 ≤ x17_3
           case neg => rw [if_neg c63] at H; exact absurd H (by simp)
           rw [if_pos c63] at H
           have c63b0 := decide_eq_true c63
           clear c63
           by_cases c65 : (bt t342 x17_3) = 38
           ·rw [if_pos c65] at H
            have c65b0 : ((bt t342 x17_3) == 38) = true := beq_iff_eq.mpr c65
            have c65b1 : ((bt t342 x17_3) != 38) = false := bne_eq_false_iff_eq.mpr c65
            clear c65
            by_cases c66 : t349 = 0
            ·rw [if_pos c66] at H
             have c66b0 : (t349 == 0) = true := beq_iff_eq.mpr c66
             have c66b1 : (t349 != 0) = false := bne_eq_false_iff_eq.mpr c66
             clear c66
             obtain rfl := Option.some.inj H
             have p64 : 0 ≤ (x17_3 : Int) := of_decide_eq_true ab4
             have q64 : x17_3 < (t342.size : Int) := of_decide_eq_true ab4
             have hx64 := bt_at t342 x17_3
             replace p64 := eq_true p64
             replace q64 := eq_true q64
             go_wp2
             go_ret
             exact ⟨ab7, ab1⟩
            ·rw [if_neg c66] at H
             have c66b0 : (t349 == 0) = false := beq_eq_false_iff_ne.mpr c66
             have c66b1 : (t349 != 0) = true := bne_iff_ne.mpr c66
             obtain rfl := Option.some.inj H
             have p64 : 0 ≤ (x17_3 : Int) := of_decide_eq_true ab4
             have q64 : x17_3 < (t342.size : Int) := of_decide_eq_true ab4
             have hx64 := bt_at t342 x17_3
             replace p64 := eq_true p64
             replace q64 := eq_true q64
             go_wp2
             go_ret
             exact ⟨ab7, ab1⟩
           ·rw [if_neg c65] at H
            have c65b0 : ((bt t342 x17_3) == 38) = false := beq_eq_false_iff_ne.mpr c65
            have c65b1 : ((bt t342 x17_3) != 38) = true := bne_iff_ne.mpr c65
            have H' := Aside0.mk H
            clear H
            have p64 : 0 ≤ (x17_3 : Int) := of_decide_eq_true ab4
            have q64 : x17_3 < (t342.size : Int) := of_decide_eq_true ab4
            have hx64 := bt_at t342 x17_3
            replace p64 := eq_true p64
            replace q64 := eq_true q64
            go_wp2
            go_roundg k3
            case measure => have := HJ10.out; have := HJ49.out; have := HK3.out; omega
            case rel => exact ⟨(wrap64 (x17_3 + 1)), ab6, H', ⟨by have := HJ10.out; have := HJ49.out; have := HK3.out; omega⟩, ⟨ab1⟩⟩
          ·rw [if_neg c62] at H
           have c62b0 := decide_eq_false c62
           clear c62
           by_cases c67 : t344.toList = t342.toList
           ·rw [if_pos c67] at H
            have c67b0 : (t344.toList == t342.toList) = true := beq_iff_eq.mpr c67
            have c67b1 : (t344.toList != t342.toList) = false := bne_eq_false_iff_eq.mpr c67
            clear c67
            replace H := Option.bind_eq_some_iff.mp H
            obtain ⟨t370, A680, H⟩ := H
            try dsimp only at H
            have A68 := Aside0.mk A680
            clear A680
            replace H := Option.bind_eq_some_iff.mp H
            obtain ⟨t371, A690, H⟩ := H
            try dsimp only at H
            have A69 := Aside0.mk A690
            clear A690
            obtain rfl := Option.some.inj H
            go_wp2_with (first | (go_at_call 20; (with_reducible refine (impl_Numbered.calls t352 t370 _ A68.out).mono ?_); rintro e w' ⟨rfl, ⟨nd, rfl⟩⟩) | (go_at_call 29; (with_reducible refine (impl_SignOk.calls t370 t371 _ A69.out).mono ?_); rintro e w' ⟨rfl, ⟨nd, rfl⟩⟩))
            go_ret
            exact ⟨ab7, ab1⟩
           ·rw [if_neg c67] at H
            have c67b0 : (t344.toList == t342.toList) = false := beq_eq_false_iff_ne.mpr c67
            have c67b1 : (t344.toList != t342.toList) = true := bne_iff_ne.mpr c67
            obtain rfl := Option.some.inj H
            go_wp2
            go_ret
            exact ⟨ab7, ab1⟩

/-- THE ONE PURE STATEMENT of laws_FnRefs: yours. -/
def laws_FnRefs.Pure : Prop := ∀ (l0 : List Int), l0.length ≤ maxLen → l0.length * 1 ≤ 140737488351232 → (∀ x ∈ l0, (Lit.int .u8 x).wf = true) → ∃ k, laws_FnRefs.f k l0 = some true
theorem laws_FnRefs.walk (P : laws_FnRefs.Pure) (a0 : Option Addr) (len0 cap0 : Nat) (z0 : List Int) (w : World) (w0 : (a0 = none ∧ len0 = 0 ∧ cap0 = 0 ∧ z0 = []) ∨ ∃ x, a0 = some x ∧ len0 ≤ cap0 ∧ cap0 ≤ maxLen ∧ z0.length = cap0 ∧ (∀ i, i < z0.length → w.cell? (x.add i) = some (.int .u8 (z0.getD i 0))) ∧ ∀ n ∈ z0, (Lit.int .u8 n).wf = true) (y0 : len0 * 1 ≤ 140737488351232) (M_ : Int) (hm_ : w.cell? ⟨0, 0, none⟩ = some (.int .i64 M_)) :
  Calls Tryd.prog 5 #[.slice a0 len0 cap0] w fun e w' => e = .returned (.bool true) ∧ Below w.heap.size w w' := by
 obtain ⟨l0, rfl, hr0, hm0, hw0, hc0⟩ := ReadsInt.ofRowC w0
 obtain ⟨k, h⟩ := P l0 hm0 y0 hw0
 refine (laws_FnRefs.calls k _ _ l0 true w (Kd.C_of_reads (d := (0 : Int)) (h1 := fun _ => rfl) hr0) hc0 M_ hm_ h).mono ?_
 rintro e w' ⟨rfl, hd⟩
 exact ⟨rfl, hd⟩

end Go.Proofs.YtgljgbkbjlondaaDoor.P
