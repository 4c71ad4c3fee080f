-- WRITTEN BY hprint.py, this session's own program, over the kit's printer: not typed by hand; Lean checks it
import Derived.Test.YtgljgbkbjlondaaPl0
import Derived.Test.YtgljgbkbjlondaaPl1
import Derived.Test.YtgljgbkbjlondaaPl7
import Derived.Test.YtgljgbkbjlondaaPl15
import Derived.Test.YtgljgbkbjlondaaPl17
namespace Go.Proofs.Ytgljgbkbjlondaa.P
open Go.RowKit Go.Proofs.YtgljgbkbjlondaaW.PrintWords Go.Proofs.YtgljgbkbjlondaaW.PrintLast Go.Proofs.YtgljgbkbjlondaaW.PrintMore
attribute [local go_sem] max2_int min2_int max_two min_two max_three min_three max_four min_four   -- for this text's walks alone
set_option linter.unusedVariables false
set_option linter.unusedSimpArgs false

/-! ### laws_FnExactPlace: function 4 -/
def laws_FnExactPlace.j0 : Nat → Bool → List (S47) → List Int → List Int → Int → Int → List (S50) → List Int → List Int → Int → Int → Option (Bool)
 | 0, _, _, _, _, _, _, _, _, _, _, _ => none
 | k + 1, x34, x384000, x384001, x384002, x384003, x384004, x410000, x410001, x410002, x410003, x410004 => if x34 = true then (some false) else ((laws_toPage.f k x384000 x384001 x384002 x384003 x384004).bind fun bt412 => ((laws_eqPage.f k x410000 x410001 x410002 x410003 x410004 bt412.1 bt412.2.1 bt412.2.2.1 bt412.2.2.2.1 bt412.2.2.2.2).bind fun t423 => (if t423 = true then (some true) else (some false))))
def laws_FnExactPlace.f (k : Nat) (l0_0 : List (S47)) (l0_1 : List Int) (l0_2 : List Int) (a0_3 : Int) (a0_4 : Int) : Option (Bool) := (laws_szPage.f k l0_0 l0_1 l0_2 a0_3 a0_4 1048576).bind fun t384 => (if t384 < 0 then (some true) else ((laws_toPage.f k l0_0 l0_1 l0_2 a0_3 a0_4).bind fun bt385 => ((spec_Place.f k bt385.1 bt385.2.1 bt385.2.2.1 bt385.2.2.2.1 bt385.2.2.2.2).bind fun bt396 => ((laws_toPage.f k l0_0 l0_1 l0_2 a0_3 a0_4).bind fun bt398 => ((impl_Place.f k bt398.1 bt398.2.1 bt398.2.2.1 bt398.2.2.2.1 bt398.2.2.2.2).bind fun bt410 => (if bt410.1 = bt396.1 then (laws_FnExactPlace.j0 k (bt410.2 != bt396.2) l0_0 l0_1 l0_2 a0_3 a0_4 bt398.1 bt398.2.1 bt398.2.2.1 bt398.2.2.2.1 bt398.2.2.2.2) else (laws_FnExactPlace.j0 k true l0_0 l0_1 l0_2 a0_3 a0_4 bt398.1 bt398.2.1 bt398.2.2.1 bt398.2.2.2.1 bt398.2.2.2.2)))))))
theorem laws_FnExactPlace.mono_l : ∀ k, (∀ y0 y1 y2 y3 y4 y5 y6 y7 y8 y9 y10, LeO (laws_FnExactPlace.j0 k y0 y1 y2 y3 y4 y5 y6 y7 y8 y9 y10) (laws_FnExactPlace.j0 (k + 1) y0 y1 y2 y3 y4 y5 y6 y7 y8 y9 y10))
 | 0 => fun _ _ _ _ _ _ _ _ _ _ _ r h => by simp [laws_FnExactPlace.j0] at h
 | k + 1 => by
  have ih0 := laws_FnExactPlace.mono_l k
  ·intro y0 y1 y2 y3 y4 y5 y6 y7 y8 y9 y10
   unfold laws_FnExactPlace.j0
   repeat' first
   | (with_reducible exact ih0 _ _ _ _ _ _ _ _ _ _ _)
   | (with_reducible exact impl_Place.mono _ _ _ _ _ _)
   | (with_reducible exact laws_eqPage.mono _ _ _ _ _ _ _ _ _ _ _)
   | (with_reducible exact laws_szPage.mono _ _ _ _ _ _ _)
   | (with_reducible exact laws_toPage.mono _ _ _ _ _ _)
   | (with_reducible exact spec_Place.mono _ _ _ _ _ _)
   | (with_reducible exact LeO.refl _)
   | (with_reducible exact LeO.none _)
   | (with_reducible refine LeO.ite ?_ ?_)
   | (with_reducible refine LeO.bind ?_ (fun _ => ?_))
theorem laws_FnExactPlace.mono : ∀ a0 a1 a2 a3 a4 k, LeO (laws_FnExactPlace.f k a0 a1 a2 a3 a4) (laws_FnExactPlace.f (k + 1) a0 a1 a2 a3 a4) := by
 intro a0 a1 a2 a3 a4 k
 have ih0 := laws_FnExactPlace.mono_l k
 unfold laws_FnExactPlace.f
 repeat' first
   | (with_reducible exact ih0 _ _ _ _ _ _ _ _ _ _ _)
   | (with_reducible exact impl_Place.mono _ _ _ _ _ _)
   | (with_reducible exact laws_eqPage.mono _ _ _ _ _ _ _ _ _ _ _)
   | (with_reducible exact laws_szPage.mono _ _ _ _ _ _ _)
   | (with_reducible exact laws_toPage.mono _ _ _ _ _ _)
   | (with_reducible exact spec_Place.mono _ _ _ _ _ _)
   | (with_reducible exact LeO.refl _)
   | (with_reducible exact LeO.none _)
   | (with_reducible refine LeO.ite ?_ ?_)
   | (with_reducible refine LeO.bind ?_ (fun _ => ?_))
set_option maxHeartbeats 8000000 in
set_option maxRecDepth 100000 in
theorem laws_FnExactPlace.calls (k : Nat) (A0_0 : Option Addr) (c0_0 : Nat) (l0_0 : List (S47)) (A0_1 : Option Addr) (c0_1 : Nat) (l0_1 : List Int) (A0_2 : Option Addr) (c0_2 : Nat) (l0_2 : List Int) (a0_3 : Int) (a0_4 : Int) (w : World) (hr0_0 : Kd.C k47 w A0_0 l0_0.length l0_0) (hc0_0 : l0_0.length ≤ c0_0) (hr0_1 : Kd.C (Kd.int .i64) w A0_1 l0_1.length l0_1) (hc0_1 : l0_1.length ≤ c0_1) (hr0_2 : Kd.C (Kd.int .i64) w A0_2 l0_2.length l0_2) (hc0_2 : l0_2.length ≤ c0_2) (M_ : Int) (hm_ : w.cell? ⟨0, 0, none⟩ = some (.int .i64 M_)) (h : laws_FnExactPlace.f k l0_0 l0_1 l0_2 a0_3 a0_4 = some true) :
  Calls Try.prog 4 #[.agg #[.slice A0_0 l0_0.length c0_0, .slice A0_1 l0_1.length c0_1, .slice A0_2 l0_2.length c0_2, .int .i64 a0_3, .int .i64 a0_4]] w fun e w' => e = .returned (.bool true) ∧ Below w.heap.size w w' := by
 have hu35 := Try.underlying35
 have hu40 := Try.underlying40
 have HR0_0 := Aside0.mk hr0_0
 have HC0_0 := Aside0.mk hc0_0
 clear hr0_0 hc0_0
 have HR0_1 := Aside0.mk hr0_1
 have HC0_1 := Aside0.mk hc0_1
 clear hr0_1 hc0_1
 have HR0_2 := Aside0.mk hr0_2
 have HC0_2 := Aside0.mk hc0_2
 clear hr0_2 hc0_2
 have HB := Aside0.mk (Below.refl w.heap.size w)
 have HM_ := Aside0.mk hm_
 clear hm_
 have H : ((laws_szPage.f k l0_0 l0_1 l0_2 a0_3 a0_4 1048576).bind fun t384 => (if t384 < 0 then (some true) else ((laws_toPage.f k l0_0 l0_1 l0_2 a0_3 a0_4).bind fun bt385 => ((spec_Place.f k bt385.1 bt385.2.1 bt385.2.2.1 bt385.2.2.2.1 bt385.2.2.2.2).bind fun bt396 => ((laws_toPage.f k l0_0 l0_1 l0_2 a0_3 a0_4).bind fun bt398 => ((impl_Place.f k bt398.1 bt398.2.1 bt398.2.2.1 bt398.2.2.2.1 bt398.2.2.2.2).bind fun bt410 => (if bt410.1 = bt396.1 then (laws_FnExactPlace.j0 k (bt410.2 != bt396.2) l0_0 l0_1 l0_2 a0_3 a0_4 bt398.1 bt398.2.1 bt398.2.2.1 bt398.2.2.2.1 bt398.2.2.2.2) else (laws_FnExactPlace.j0 k true l0_0 l0_1 l0_2 a0_3 a0_4 bt398.1 bt398.2.1 bt398.2.2.1 bt398.2.2.2.1 bt398.2.2.2.2)))))))) = some true := h
 clear h
 replace H := Option.bind_eq_some_iff.mp H
 obtain ⟨t384, A20, H⟩ := H
 try dsimp only at H
 have A2 := Aside0.mk A20
 clear A20
 by_cases c3 : t384 < 0
 ·rw [if_pos c3] at H
  have c3b0 := decide_eq_true c3
  clear c3
  clear H
  go_enter Try.func4, Try.ntmps4
  go_wp2_with (first | ((with_reducible refine gate_dst (N := 1) rfl ?_); refine box_event ?hg (N := 1) ?hd (cs := #[.slice A0_0 l0_0.length c0_0, .slice A0_1 l0_1.length c0_1, .slice A0_2 l0_2.length c0_2, .int .i64 a0_3, .int .i64 a0_4]) (t := 35) ?hr ?_; (case hd => rfl); (case hg => rfl); (case hr => first | (go_simp; done) | (go_simp; rfl)); intro gb383 hg w4 hbox hb; have n0_ := Aside0.mk (below_step ab1 hb); have n1_ := Aside0.mk (hbox); have n2_ := Aside0.mk ((by rw [hg]; exact (below_size ab1) : w.heap.size ≤ gb383)); have n3_ := Aside0.mk ((by rw [hg]; exact (below_size ab1) : w.heap.size ≤ gb383)); clear HB; have HB := n0_; have BK383 := n1_; have GW383 := n2_; have GE383 := n3_; clear n0_ n1_ n2_ n3_; clear hb hbox hg; obtain ⟨⟨hcz5_0, hcz5_1, hcz5_2, hcz5_3, hcz5_4⟩, hfz5_0, hfz5_1, hfz5_2, hfz5_3, hfz5_4⟩ := Op.cells5 BK383.out) | ((with_reducible refine gate_callee (f := 14) rfl ?_); refine goesL_ (some 11) rfl rfl Try.func14 (by kernel_rfl) rfl #[.agg #[.slice A0_0 l0_0.length c0_0, .slice A0_1 l0_1.length c0_1, .slice A0_2 l0_2.length c0_2, .int .i64 a0_3, .int .i64 a0_4], .int .i64 1048576] rfl ab5 ?_; (with_reducible refine (laws_szPage.calls k _ _ l0_0 _ _ l0_1 _ _ l0_2 a0_3 a0_4 1048576 t384 _ ?side1 ?side2 ?side3 ?side4 ?side5 ?side6 A2.out).mono ?_); (case side1 => repeat (first | exact (Kd.C_below HR0_0.out HB.out) | (with_reducible refine Kd.C_alloc ?_ _) | (with_reducible refine Kd.C_drewN ?_ _) | (with_reducible refine Kd.C_drew ?_))); (case side2 => exact HC0_0.out); (case side3 => repeat (first | exact (Kd.C_below HR0_1.out HB.out) | (with_reducible refine Kd.C_alloc ?_ _) | (with_reducible refine Kd.C_drewN ?_ _) | (with_reducible refine Kd.C_drew ?_))); (case side4 => exact HC0_1.out); (case side5 => repeat (first | exact (Kd.C_below HR0_2.out HB.out) | (with_reducible refine Kd.C_alloc ?_ _) | (with_reducible refine Kd.C_drewN ?_ _) | (with_reducible refine Kd.C_drew ?_))); (case side6 => exact HC0_2.out); rintro e w6 ⟨rfl, hb⟩; refine ⟨_, rfl, ?_⟩; have n0_ := Aside0.mk (blk_below (g := gb383) (o := .cells #[.slice A0_0 l0_0.length c0_0, .slice A0_1 l0_1.length c0_1, .slice A0_2 l0_2.length c0_2, .int .i64 a0_3, .int .i64 a0_4] 35 (0, 0)) (ab3 BK383) hb); have n1_ := Aside0.mk (below_step (ab2 GE383) hb); clear BK383; clear HB; have BK383 := n0_; have HB := n1_; clear n0_ n1_; (try clear hb); (try clear hb2); (try clear hk); (try clear hi)))
  go_ret
  exact ⟨ab7, ab2 GE383⟩
 ·rw [if_neg c3] at H
  have c3b0 := decide_eq_false c3
  clear c3
  replace H := Option.bind_eq_some_iff.mp H
  obtain ⟨⟨t385, t388, t391, t394, t395⟩, A70, H⟩ := H
  try dsimp only at H
  have A7 := Aside0.mk A70
  clear A70
  replace H := Option.bind_eq_some_iff.mp H
  obtain ⟨⟨t396, t397⟩, A80, H⟩ := H
  try dsimp only at H
  have A8 := Aside0.mk A80
  clear A80
  replace H := Option.bind_eq_some_iff.mp H
  obtain ⟨⟨t398, t401, t404, t407, t408⟩, A90, H⟩ := H
  try dsimp only at H
  have A9 := Aside0.mk A90
  clear A90
  replace H := Option.bind_eq_some_iff.mp H
  obtain ⟨⟨t410, t411⟩, A100, H⟩ := H
  try dsimp only at H
  have A10 := Aside0.mk A100
  clear A100
  have HC11 := Aside0.mk H
  clear H
  go_enter Try.func4, Try.ntmps4
  go_upto_region 8 with (first | ((with_reducible refine gate_dst (N := 1) rfl ?_); refine box_event ?hg (N := 1) ?hd (cs := #[.slice A0_0 l0_0.length c0_0, .slice A0_1 l0_1.length c0_1, .slice A0_2 l0_2.length c0_2, .int .i64 a0_3, .int .i64 a0_4]) (t := 35) ?hr ?_; (case hd => rfl); (case hg => rfl); (case hr => first | (go_simp; done) | (go_simp; rfl)); intro gb383 hg w12 hbox hb; have n0_ := Aside0.mk (below_step ab1 hb); have n1_ := Aside0.mk (hbox); have n2_ := Aside0.mk ((by rw [hg]; exact (below_size ab1) : w.heap.size ≤ gb383)); have n3_ := Aside0.mk ((by rw [hg]; exact (below_size ab1) : w.heap.size ≤ gb383)); clear HB; have HB := n0_; have BK383 := n1_; have GW383 := n2_; have GE383 := n3_; clear n0_ n1_ n2_ n3_; clear hb hbox hg; obtain ⟨⟨hcz13_0, hcz13_1, hcz13_2, hcz13_3, hcz13_4⟩, hfz13_0, hfz13_1, hfz13_2, hfz13_3, hfz13_4⟩ := Op.cells5 BK383.out) | ((with_reducible refine gate_callee (f := 14) rfl ?_); refine goesL_ (some 11) rfl rfl Try.func14 (by kernel_rfl) rfl #[.agg #[.slice A0_0 l0_0.length c0_0, .slice A0_1 l0_1.length c0_1, .slice A0_2 l0_2.length c0_2, .int .i64 a0_3, .int .i64 a0_4], .int .i64 1048576] rfl ab5 ?_; (with_reducible refine (laws_szPage.calls k _ _ l0_0 _ _ l0_1 _ _ l0_2 a0_3 a0_4 1048576 t384 _ ?side1 ?side2 ?side3 ?side4 ?side5 ?side6 A2.out).mono ?_); (case side1 => repeat (first | exact (Kd.C_below HR0_0.out HB.out) | (with_reducible refine Kd.C_alloc ?_ _) | (with_reducible refine Kd.C_drewN ?_ _) | (with_reducible refine Kd.C_drew ?_))); (case side2 => exact HC0_0.out); (case side3 => repeat (first | exact (Kd.C_below HR0_1.out HB.out) | (with_reducible refine Kd.C_alloc ?_ _) | (with_reducible refine Kd.C_drewN ?_ _) | (with_reducible refine Kd.C_drew ?_))); (case side4 => exact HC0_1.out); (case side5 => repeat (first | exact (Kd.C_below HR0_2.out HB.out) | (with_reducible refine Kd.C_alloc ?_ _) | (with_reducible refine Kd.C_drewN ?_ _) | (with_reducible refine Kd.C_drew ?_))); (case side6 => exact HC0_2.out); rintro e w14 ⟨rfl, hb⟩; refine ⟨_, rfl, ?_⟩; have n0_ := Aside0.mk (blk_below (g := gb383) (o := .cells #[.slice A0_0 l0_0.length c0_0, .slice A0_1 l0_1.length c0_1, .slice A0_2 l0_2.length c0_2, .int .i64 a0_3, .int .i64 a0_4] 35 (0, 0)) (ab3 BK383) hb); have n1_ := Aside0.mk (below_step (ab2 GE383) hb); clear BK383; clear HB; have BK383 := n0_; have HB := n1_; clear n0_ n1_; (try clear hb); (try clear hb2); (try clear hk); (try clear hi); obtain ⟨⟨hcz15_0, hcz15_1, hcz15_2, hcz15_3, hcz15_4⟩, hfz15_0, hfz15_1, hfz15_2, hfz15_3, hfz15_4⟩ := Op.cells5 BK383.out) | ((with_reducible refine gate_callee (f := 16) rfl ?_); refine goesL_ (some 16) rfl rfl Try.func16 (by kernel_rfl) rfl #[.agg #[.slice A0_0 l0_0.length c0_0, .slice A0_1 l0_1.length c0_1, .slice A0_2 l0_2.length c0_2, .int .i64 a0_3, .int .i64 a0_4]] rfl ab5 ?_; (with_reducible refine (laws_toPage.calls k _ _ l0_0 _ _ l0_1 _ _ l0_2 a0_3 a0_4 t385 t388 t391 t394 t395 _ ?side1 ?side2 ?side3 ?side4 ?side5 ?side6 A7.out).mono ?_); (case side1 => repeat (first | exact (Kd.C_below HR0_0.out HB.out) | (with_reducible refine Kd.C_alloc ?_ _) | (with_reducible refine Kd.C_drewN ?_ _) | (with_reducible refine Kd.C_drew ?_))); (case side2 => exact HC0_0.out); (case side3 => repeat (first | exact (Kd.C_below HR0_1.out HB.out) | (with_reducible refine Kd.C_alloc ?_ _) | (with_reducible refine Kd.C_drewN ?_ _) | (with_reducible refine Kd.C_drew ?_))); (case side4 => exact HC0_1.out); (case side5 => repeat (first | exact (Kd.C_below HR0_2.out HB.out) | (with_reducible refine Kd.C_alloc ?_ _) | (with_reducible refine Kd.C_drewN ?_ _) | (with_reducible refine Kd.C_drew ?_))); (case side6 => exact HC0_2.out); rintro e w16 ⟨v386, v389, v392, rfl, ho0, ho1, ho2, hb⟩; refine ⟨_, rfl, ?_⟩; have n0_ := Aside0.mk (Kd.S_lower ho0 (below_size (ab2 GE383))); have n1_ := Aside0.mk (Kd.R_lower ho1 (below_size (ab2 GE383))); have n2_ := Aside0.mk (Kd.R_lower ho2 (below_size (ab2 GE383))); have n3_ := Aside0.mk (blk_below (g := gb383) (o := .cells #[.slice A0_0 l0_0.length c0_0, .slice A0_1 l0_1.length c0_1, .slice A0_2 l0_2.length c0_2, .int .i64 a0_3, .int .i64 a0_4] 35 (0, 0)) (ab3 BK383) hb); have n4_ := Aside0.mk (below_step (ab2 GE383) hb); clear BK383; clear HB; have HO387 := n0_; have HO390 := n1_; have HO393 := n2_; have BK383 := n3_; have HB := n4_; clear n0_ n1_ n2_ n3_ n4_; (try clear hb); (try clear hb2); (try clear hk); (try clear hi); obtain ⟨Ao17, co17, eo17⟩ := Kd.S_slice HO387.out; subst eo17; obtain ⟨Ao18, co18, eo18⟩ := Kd.R_slice HO390.out; subst eo18; obtain ⟨Ao19, co19, eo19⟩ := Kd.R_slice HO393.out; subst eo19) | ((with_reducible refine gate_callee (f := 15) rfl ?_); refine goesL_ (some 17) rfl rfl Try.func15 (by kernel_rfl) rfl #[.agg #[.slice Ao17 t385.length co17, .slice Ao18 t388.length co18, .slice Ao19 t391.length co19, .int .i64 t394, .int .i64 t395]] rfl ab5 ?_; (with_reducible refine (spec_Place.calls k _ _ t385 _ _ t388 _ _ t391 t394 t395 t396 t397 _ ?side1 ?side2 ?side3 ?side4 ?side5 ?side6 A8.out).mono ?_); (case side1 => repeat (first | exact (Kd.S_reads' HO387.out).2.2 | (with_reducible refine Kd.C_alloc ?_ _) | (with_reducible refine Kd.C_drewN ?_ _) | (with_reducible refine Kd.C_drew ?_))); (case side2 => exact (Kd.S_reads' HO387.out).2.1); (case side3 => repeat (first | exact (Kd.R_reads' HO390.out).2.2 | (with_reducible refine Kd.C_alloc ?_ _) | (with_reducible refine Kd.C_drewN ?_ _) | (with_reducible refine Kd.C_drew ?_))); (case side4 => exact (Kd.R_reads' HO390.out).2.1); (case side5 => repeat (first | exact (Kd.R_reads' HO393.out).2.2 | (with_reducible refine Kd.C_alloc ?_ _) | (with_reducible refine Kd.C_drewN ?_ _) | (with_reducible refine Kd.C_drew ?_))); (case side6 => exact (Kd.R_reads' HO393.out).2.1); rintro e w20 ⟨rfl, hb⟩; refine ⟨_, rfl, ?_⟩; have n0_ := Aside0.mk (Kd.S_below (by (with_reducible repeat (first | apply Kd.S_alloc | apply Kd.S_drewN | apply Kd.S_drew)); exact HO387.out) hb); have n1_ := Aside0.mk (Kd.R_below (ab8 HO390) hb); have n2_ := Aside0.mk (Kd.R_below (ab8 HO393) hb); have n3_ := Aside0.mk (blk_below (g := gb383) (o := .cells #[.slice A0_0 l0_0.length c0_0, .slice A0_1 l0_1.length c0_1, .slice A0_2 l0_2.length c0_2, .int .i64 a0_3, .int .i64 a0_4] 35 (0, 0)) (ab3 BK383) hb); have n4_ := Aside0.mk (below_step (ab2 GE383) hb); clear HO387; clear HO390; clear HO393; clear BK383; clear HB; have HO387 := n0_; have HO390 := n1_; have HO393 := n2_; have BK383 := n3_; have HB := n4_; clear n0_ n1_ n2_ n3_ n4_; (try clear hb); (try clear hb2); (try clear hk); (try clear hi); obtain ⟨⟨hcz21_0, hcz21_1, hcz21_2, hcz21_3, hcz21_4⟩, hfz21_0, hfz21_1, hfz21_2, hfz21_3, hfz21_4⟩ := Op.cells5 BK383.out) | ((with_reducible refine gate_callee (f := 16) rfl ?_); refine goesL_ (some 21) rfl rfl Try.func16 (by kernel_rfl) rfl #[.agg #[.slice A0_0 l0_0.length c0_0, .slice A0_1 l0_1.length c0_1, .slice A0_2 l0_2.length c0_2, .int .i64 a0_3, .int .i64 a0_4]] rfl ab5 ?_; (with_reducible refine (laws_toPage.calls k _ _ l0_0 _ _ l0_1 _ _ l0_2 a0_3 a0_4 t398 t401 t404 t407 t408 _ ?side1 ?side2 ?side3 ?side4 ?side5 ?side6 A9.out).mono ?_); (case side1 => repeat (first | exact (Kd.C_below HR0_0.out HB.out) | (with_reducible refine Kd.C_alloc ?_ _) | (with_reducible refine Kd.C_drewN ?_ _) | (with_reducible refine Kd.C_drew ?_))); (case side2 => exact HC0_0.out); (case side3 => repeat (first | exact (Kd.C_below HR0_1.out HB.out) | (with_reducible refine Kd.C_alloc ?_ _) | (with_reducible refine Kd.C_drewN ?_ _) | (with_reducible refine Kd.C_drew ?_))); (case side4 => exact HC0_1.out); (case side5 => repeat (first | exact (Kd.C_below HR0_2.out HB.out) | (with_reducible refine Kd.C_alloc ?_ _) | (with_reducible refine Kd.C_drewN ?_ _) | (with_reducible refine Kd.C_drew ?_))); (case side6 => exact HC0_2.out); rintro e w22 ⟨v399, v402, v405, rfl, ho0, ho1, ho2, hb⟩; refine ⟨_, rfl, ?_⟩; have n0_ := Aside0.mk (Kd.S_mono (Kd.S_told (Kd.S_told (Kd.S_told (Kd.S_old (by (with_reducible repeat (first | apply Kd.S_alloc | apply Kd.S_drewN | apply Kd.S_drew)); exact HO387.out) hb) (Kd.S_base ho0)) (Kd.R_base ho1)) (Kd.R_base ho2)) (fun _ h_ => h_.1)); have n1_ := Aside0.mk (Kd.R_mono (Kd.R_told (Kd.R_told (Kd.R_old (ab8 HO390) hb) (Kd.R_base ho1)) (Kd.R_base ho2)) (fun _ h_ => h_.1)); have n2_ := Aside0.mk (Kd.R_mono (Kd.R_told (Kd.R_told (Kd.R_old (ab8 HO393) hb) (Kd.R_base ho1)) (Kd.R_base ho2)) (fun _ h_ => h_.1)); have n3_ := Aside0.mk (Kd.S_lower (Kd.S_new' (Kd.S_new' (Kd.S_new' ho0 (Kd.S_lt (by (with_reducible repeat (first | apply Kd.S_alloc | apply Kd.S_drewN | apply Kd.S_drew)); exact HO387.out))) (Kd.R_lt (ab8 HO390))) (Kd.R_lt (ab8 HO393))) (below_size (ab2 GE383))); have n4_ := Aside0.mk (Kd.R_lower (Kd.R_new' (Kd.R_new' ho1 (Kd.R_lt (ab8 HO390))) (Kd.R_lt (ab8 HO393))) (below_size (ab2 GE383))); have n5_ := Aside0.mk (Kd.R_lower (Kd.R_new' (Kd.R_new' ho2 (Kd.R_lt (ab8 HO390))) (Kd.R_lt (ab8 HO393))) (below_size (ab2 GE383))); have n6_ := Aside0.mk (blk_below (g := gb383) (o := .cells #[.slice A0_0 l0_0.length c0_0, .slice A0_1 l0_1.length c0_1, .slice A0_2 l0_2.length c0_2, .int .i64 a0_3, .int .i64 a0_4] 35 (0, 0)) (ab3 BK383) hb); have n7_ := Aside0.mk (below_step (ab2 GE383) hb); clear HO387; clear HO390; clear HO393; clear BK383; clear HB; have HO387 := n0_; have HO390 := n1_; have HO393 := n2_; have HO400 := n3_; have HO403 := n4_; have HO406 := n5_; have BK383 := n6_; have HB := n7_; clear n0_ n1_ n2_ n3_ n4_ n5_ n6_ n7_; (try clear hb); (try clear hb2); (try clear hk); (try clear hi); (try clear ho2)) | ((with_reducible refine gate_dst (N := 6) rfl ?_); refine box_event ?hg (N := 6) ?hd (cs := #[.slice none 0 0, .slice none 0 0, .slice none 0 0, .int .i64 0, .int .i64 0]) (t := 40) ?hr ?_; (case hd => rfl); (case hg => rfl); (case hr => first | (go_simp; done) | (go_simp; rfl)); intro gb409 hg w23 hbox hb; have n0_ := Aside0.mk (Kd.S_below (by (with_reducible repeat (first | apply Kd.S_alloc | apply Kd.S_drewN | apply Kd.S_drew)); exact HO387.out) hb); have n1_ := Aside0.mk (Kd.R_below (ab8 HO390) hb); have n2_ := Aside0.mk (Kd.R_below (ab8 HO393) hb); have n3_ := Aside0.mk (Kd.S_below (by (with_reducible repeat (first | apply Kd.S_alloc | apply Kd.S_drewN | apply Kd.S_drew)); exact HO400.out) hb); have n4_ := Aside0.mk (Kd.R_below (ab8 HO403) hb); have n5_ := Aside0.mk (Kd.R_below (ab8 HO406) hb); have n6_ := Aside0.mk (blk_below (g := gb383) (o := .cells #[.slice A0_0 l0_0.length c0_0, .slice A0_1 l0_1.length c0_1, .slice A0_2 l0_2.length c0_2, .int .i64 a0_3, .int .i64 a0_4] 35 (0, 0)) (ab3 BK383) hb); have n7_ := Aside0.mk (below_step (ab2 GE383) hb); have n8_ := Aside0.mk (hbox); have n9_ := Aside0.mk ((by rw [hg]; exact (below_size (ab2 GE383)) : w.heap.size ≤ gb409)); have n10_ := Aside0.mk ((by rw [hg]; exact (below_size (ab2 GE383)) : w.heap.size ≤ gb409)); have n11_ := Aside0.mk ((by rw [hg]; exact Nat.ne_of_lt (blk_lt (g := gb383) (o := .cells #[.slice A0_0 l0_0.length c0_0, .slice A0_1 l0_1.length c0_1, .slice A0_2 l0_2.length c0_2, .int .i64 a0_3, .int .i64 a0_4] 35 (0, 0)) (ab3 BK383)) : gb383 ≠ gb409)); have n12_ := Aside0.mk ((by rw [hg]; exact Nat.ne_of_gt (blk_lt (g := gb383) (o := .cells #[.slice A0_0 l0_0.length c0_0, .slice A0_1 l0_1.length c0_1, .slice A0_2 l0_2.length c0_2, .int .i64 a0_3, .int .i64 a0_4] 35 (0, 0)) (ab3 BK383)) : gb409 ≠ gb383)); clear HO387; clear HO390; clear HO393; clear HO400; clear HO403; clear HO406; clear BK383; clear HB; have HO387 := n0_; have HO390 := n1_; have HO393 := n2_; have HO400 := n3_; have HO403 := n4_; have HO406 := n5_; have BK383 := n6_; have HB := n7_; have BK409 := n8_; have GW409 := n9_; have GE409 := n10_; have NB383_409 := n11_; have NB409_383 := n12_; clear n0_ n1_ n2_ n3_ n4_ n5_ n6_ n7_ n8_ n9_ n10_ n11_ n12_; clear hb hbox hg; obtain ⟨Ao24, co24, eo24⟩ := Kd.S_slice HO400.out; subst eo24; have hnb25 := NB409_383.out; have hnc25 := NB383_409.out; obtain ⟨⟨hcz26_0, hcz26_1, hcz26_2, hcz26_3, hcz26_4⟩, hfz26_0, hfz26_1, hfz26_2, hfz26_3, hfz26_4⟩ := Op.cells5 BK409.out; obtain ⟨Ao27, co27, eo27⟩ := Kd.R_slice HO403.out; subst eo27; obtain ⟨Ao28, co28, eo28⟩ := Kd.R_slice HO406.out; subst eo28) | ((with_reducible refine gate_callee (f := 17) rfl ?_); refine goesL_ (some 24) rfl rfl Try.func17 (by kernel_rfl) rfl #[.agg #[.slice Ao24 t398.length co24, .slice Ao27 t401.length co27, .slice Ao28 t404.length co28, .int .i64 t407, .int .i64 t408]] rfl ab5 ?_; (with_reducible refine (impl_Place.calls k _ _ t398 _ _ t401 _ _ t404 t407 t408 t410 t411 _ ?side1 ?side2 ?side3 ?side4 ?side5 ?side6 M_ ?side7 A10.out).mono ?_); (case side1 => refine (Kd.S_reads' (e := 50) (base := w.heap.size) (ok := fun k_ => ((((some k_ ≠ (.slice Ao27 t401.length co27 : Value).ownBlock ∧ some k_ ≠ (.slice Ao28 t404.length co28 : Value).ownBlock) ∧ some k_ ≠ (.slice Ao17 t385.length co17 : Value).ownBlock) ∧ some k_ ≠ (.slice Ao18 t388.length co18 : Value).ownBlock) ∧ some k_ ≠ (.slice Ao19 t391.length co19 : Value).ownBlock)) (n := t398.length) (c := co24) ?_).2.2; exact (by (with_reducible repeat (first | apply Kd.S_alloc | apply Kd.S_drewN | apply Kd.S_drew)); exact (Kd.S_mono (Kd.S_far (p := ⟨gb409, 4, none⟩) (Kd.S_far (p := ⟨gb409, 3, none⟩) (Kd.S_far (p := ⟨gb409, 2, none⟩) (Kd.S_far (p := ⟨gb409, 1, none⟩) (Kd.S_far (p := ⟨gb409, 0, none⟩) (Kd.S_types HO400.out BK409.out (by decide)) (fun _ hk => hk.2) (.slice Ao24 t398.length co24)) (fun _ hk => hk.2) (.slice Ao27 t401.length co27)) (fun _ hk => hk.2) (.slice Ao28 t404.length co28)) (fun _ hk => hk.2) (.int .i64 t407)) (fun _ hk => hk.2) (.int .i64 t408)) (fun _ h_ => h_.1)))); (case side2 => exact (Kd.S_reads' HO400.out).2.1); (case side3 => refine (Kd.R_reads' (e := 3) (base := w.heap.size) (ok := fun k_ => ((some k_ ≠ (.slice Ao28 t404.length co28 : Value).ownBlock ∧ some k_ ≠ (.slice Ao18 t388.length co18 : Value).ownBlock) ∧ some k_ ≠ (.slice Ao19 t391.length co19 : Value).ownBlock)) (n := t401.length) (c := co27) ?_).2.2; exact (by (with_reducible repeat (first | apply Kd.R_alloc | apply Kd.R_drewN | apply Kd.R_drew)); exact (Kd.R_mono (Kd.R_far (p := ⟨gb409, 4, none⟩) (Kd.R_far (p := ⟨gb409, 3, none⟩) (Kd.R_far (p := ⟨gb409, 2, none⟩) (Kd.R_far (p := ⟨gb409, 1, none⟩) (Kd.R_far (p := ⟨gb409, 0, none⟩) (Kd.R_types HO403.out BK409.out (by decide)) (fun _ hk => hk.2) (.slice Ao24 t398.length co24)) (fun _ hk => hk.2) (.slice Ao27 t401.length co27)) (fun _ hk => hk.2) (.slice Ao28 t404.length co28)) (fun _ hk => hk.2) (.int .i64 t407)) (fun _ hk => hk.2) (.int .i64 t408)) (fun _ h_ => h_.1)))); (case side4 => exact (Kd.R_reads' HO403.out).2.1); (case side5 => refine (Kd.R_reads' (e := 3) (base := w.heap.size) (ok := fun k_ => ((some k_ ≠ (.slice Ao27 t401.length co27 : Value).ownBlock ∧ some k_ ≠ (.slice Ao18 t388.length co18 : Value).ownBlock) ∧ some k_ ≠ (.slice Ao19 t391.length co19 : Value).ownBlock)) (n := t404.length) (c := co28) ?_).2.2; exact (by (with_reducible repeat (first | apply Kd.R_alloc | apply Kd.R_drewN | apply Kd.R_drew)); exact (Kd.R_mono (Kd.R_far (p := ⟨gb409, 4, none⟩) (Kd.R_far (p := ⟨gb409, 3, none⟩) (Kd.R_far (p := ⟨gb409, 2, none⟩) (Kd.R_far (p := ⟨gb409, 1, none⟩) (Kd.R_far (p := ⟨gb409, 0, none⟩) (Kd.R_types HO406.out BK409.out (by decide)) (fun _ hk => hk.2) (.slice Ao24 t398.length co24)) (fun _ hk => hk.2) (.slice Ao27 t401.length co27)) (fun _ hk => hk.2) (.slice Ao28 t404.length co28)) (fun _ hk => hk.2) (.int .i64 t407)) (fun _ hk => hk.2) (.int .i64 t408)) (fun _ h_ => h_.1)))); (case side6 => exact (Kd.R_reads' HO406.out).2.1); (case side7 => exact pw_cell_below (by repeat (first | (with_reducible first | exact HB.out | apply below_alloc | apply pw_below_drewN | apply below_drew1 | refine below_set ?_ GE383.out | refine below_set ?_ GE409.out) | exact HB.out)) HM_.out); rintro e w29 ⟨rfl, hb⟩; refine ⟨_, rfl, ?_⟩; have n0_ := Aside0.mk (Kd.S_below (by (with_reducible repeat (first | apply Kd.S_alloc | apply Kd.S_drewN | apply Kd.S_drew)); exact (Kd.S_mono (Kd.S_far (p := ⟨gb409, 4, none⟩) (Kd.S_far (p := ⟨gb409, 3, none⟩) (Kd.S_far (p := ⟨gb409, 2, none⟩) (Kd.S_far (p := ⟨gb409, 1, none⟩) (Kd.S_far (p := ⟨gb409, 0, none⟩) (Kd.S_types HO387.out BK409.out (by decide)) (fun _ hk => hk.2) (.slice Ao24 t398.length co24)) (fun _ hk => hk.2) (.slice Ao27 t401.length co27)) (fun _ hk => hk.2) (.slice Ao28 t404.length co28)) (fun _ hk => hk.2) (.int .i64 t407)) (fun _ hk => hk.2) (.int .i64 t408)) (fun _ h_ => h_.1))) hb); have n1_ := Aside0.mk (Kd.R_below (by (with_reducible repeat (first | apply Kd.R_alloc | apply Kd.R_drewN | apply Kd.R_drew)); exact (Kd.R_mono (Kd.R_far (p := ⟨gb409, 4, none⟩) (Kd.R_far (p := ⟨gb409, 3, none⟩) (Kd.R_far (p := ⟨gb409, 2, none⟩) (Kd.R_far (p := ⟨gb409, 1, none⟩) (Kd.R_far (p := ⟨gb409, 0, none⟩) (Kd.R_types HO390.out BK409.out (by decide)) (fun _ hk => hk.2) (.slice Ao24 t398.length co24)) (fun _ hk => hk.2) (.slice Ao27 t401.length co27)) (fun _ hk => hk.2) (.slice Ao28 t404.length co28)) (fun _ hk => hk.2) (.int .i64 t407)) (fun _ hk => hk.2) (.int .i64 t408)) (fun _ h_ => h_.1))) hb); have n2_ := Aside0.mk (Kd.R_below (by (with_reducible repeat (first | apply Kd.R_alloc | apply Kd.R_drewN | apply Kd.R_drew)); exact (Kd.R_mono (Kd.R_far (p := ⟨gb409, 4, none⟩) (Kd.R_far (p := ⟨gb409, 3, none⟩) (Kd.R_far (p := ⟨gb409, 2, none⟩) (Kd.R_far (p := ⟨gb409, 1, none⟩) (Kd.R_far (p := ⟨gb409, 0, none⟩) (Kd.R_types HO393.out BK409.out (by decide)) (fun _ hk => hk.2) (.slice Ao24 t398.length co24)) (fun _ hk => hk.2) (.slice Ao27 t401.length co27)) (fun _ hk => hk.2) (.slice Ao28 t404.length co28)) (fun _ hk => hk.2) (.int .i64 t407)) (fun _ hk => hk.2) (.int .i64 t408)) (fun _ h_ => h_.1))) hb); have n3_ := Aside0.mk (Kd.S_below (by (with_reducible repeat (first | apply Kd.S_alloc | apply Kd.S_drewN | apply Kd.S_drew)); exact (Kd.S_mono (Kd.S_far (p := ⟨gb409, 4, none⟩) (Kd.S_far (p := ⟨gb409, 3, none⟩) (Kd.S_far (p := ⟨gb409, 2, none⟩) (Kd.S_far (p := ⟨gb409, 1, none⟩) (Kd.S_far (p := ⟨gb409, 0, none⟩) (Kd.S_types HO400.out BK409.out (by decide)) (fun _ hk => hk.2) (.slice Ao24 t398.length co24)) (fun _ hk => hk.2) (.slice Ao27 t401.length co27)) (fun _ hk => hk.2) (.slice Ao28 t404.length co28)) (fun _ hk => hk.2) (.int .i64 t407)) (fun _ hk => hk.2) (.int .i64 t408)) (fun _ h_ => h_.1))) hb); have n4_ := Aside0.mk (Kd.R_below (by (with_reducible repeat (first | apply Kd.R_alloc | apply Kd.R_drewN | apply Kd.R_drew)); exact (Kd.R_mono (Kd.R_far (p := ⟨gb409, 4, none⟩) (Kd.R_far (p := ⟨gb409, 3, none⟩) (Kd.R_far (p := ⟨gb409, 2, none⟩) (Kd.R_far (p := ⟨gb409, 1, none⟩) (Kd.R_far (p := ⟨gb409, 0, none⟩) (Kd.R_types HO403.out BK409.out (by decide)) (fun _ hk => hk.2) (.slice Ao24 t398.length co24)) (fun _ hk => hk.2) (.slice Ao27 t401.length co27)) (fun _ hk => hk.2) (.slice Ao28 t404.length co28)) (fun _ hk => hk.2) (.int .i64 t407)) (fun _ hk => hk.2) (.int .i64 t408)) (fun _ h_ => h_.1))) hb); have n5_ := Aside0.mk (Kd.R_below (by (with_reducible repeat (first | apply Kd.R_alloc | apply Kd.R_drewN | apply Kd.R_drew)); exact (Kd.R_mono (Kd.R_far (p := ⟨gb409, 4, none⟩) (Kd.R_far (p := ⟨gb409, 3, none⟩) (Kd.R_far (p := ⟨gb409, 2, none⟩) (Kd.R_far (p := ⟨gb409, 1, none⟩) (Kd.R_far (p := ⟨gb409, 0, none⟩) (Kd.R_types HO406.out BK409.out (by decide)) (fun _ hk => hk.2) (.slice Ao24 t398.length co24)) (fun _ hk => hk.2) (.slice Ao27 t401.length co27)) (fun _ hk => hk.2) (.slice Ao28 t404.length co28)) (fun _ hk => hk.2) (.int .i64 t407)) (fun _ hk => hk.2) (.int .i64 t408)) (fun _ h_ => h_.1))) hb); have n6_ := Aside0.mk (blk_below (g := gb383) (o := .cells #[.slice A0_0 l0_0.length c0_0, .slice A0_1 l0_1.length c0_1, .slice A0_2 l0_2.length c0_2, .int .i64 a0_3, .int .i64 a0_4] 35 (0, 0)) (by (with_reducible repeat (first | refine blk_drewN ?_ _ | refine blk_drew ?_ | refine blk_alloc ?_ _)); refine blk_far ?_ NB383_409.out _; (with_reducible repeat (first | refine blk_drewN ?_ _ | refine blk_drew ?_ | refine blk_alloc ?_ _)); refine blk_far ?_ NB383_409.out _; (with_reducible repeat (first | refine blk_drewN ?_ _ | refine blk_drew ?_ | refine blk_alloc ?_ _)); refine blk_far ?_ NB383_409.out _; (with_reducible repeat (first | refine blk_drewN ?_ _ | refine blk_drew ?_ | refine blk_alloc ?_ _)); refine blk_far ?_ NB383_409.out _; (with_reducible repeat (first | refine blk_drewN ?_ _ | refine blk_drew ?_ | refine blk_alloc ?_ _)); refine blk_far ?_ NB383_409.out _; (with_reducible repeat (first | refine blk_drewN ?_ _ | refine blk_drew ?_ | refine blk_alloc ?_ _)); exact BK383.out) hb); have n7_ := Aside0.mk (blk_below (g := gb409) (o := .cells #[.slice Ao24 t398.length co24, .slice Ao27 t401.length co27, .slice Ao28 t404.length co28, .int .i64 t407, .int .i64 t408] 40 (0, 0)) (by (with_reducible repeat (first | refine blk_drewN ?_ _ | refine blk_drew ?_ | refine blk_alloc ?_ _)); refine blk_put (cs := #[.slice Ao24 t398.length co24, .slice Ao27 t401.length co27, .slice Ao28 t404.length co28, .int .i64 t407, .int .i64 0]) ?_ 4 _ rfl; (with_reducible repeat (first | refine blk_drewN ?_ _ | refine blk_drew ?_ | refine blk_alloc ?_ _)); refine blk_put (cs := #[.slice Ao24 t398.length co24, .slice Ao27 t401.length co27, .slice Ao28 t404.length co28, .int .i64 0, .int .i64 0]) ?_ 3 _ rfl; (with_reducible repeat (first | refine blk_drewN ?_ _ | refine blk_drew ?_ | refine blk_alloc ?_ _)); refine blk_put (cs := #[.slice Ao24 t398.length co24, .slice Ao27 t401.length co27, .slice none 0 0, .int .i64 0, .int .i64 0]) ?_ 2 _ rfl; (with_reducible repeat (first | refine blk_drewN ?_ _ | refine blk_drew ?_ | refine blk_alloc ?_ _)); refine blk_put (cs := #[.slice Ao24 t398.length co24, .slice none 0 0, .slice none 0 0, .int .i64 0, .int .i64 0]) ?_ 1 _ rfl; (with_reducible repeat (first | refine blk_drewN ?_ _ | refine blk_drew ?_ | refine blk_alloc ?_ _)); refine blk_put (cs := #[.slice none 0 0, .slice none 0 0, .slice none 0 0, .int .i64 0, .int .i64 0]) ?_ 0 _ rfl; (with_reducible repeat (first | refine blk_drewN ?_ _ | refine blk_drew ?_ | refine blk_alloc ?_ _)); exact BK409.out) hb); have n8_ := Aside0.mk (below_step (by repeat (first | (with_reducible first | exact HB.out | apply below_alloc | apply pw_below_drewN | apply below_drew1 | refine below_set ?_ GE383.out | refine below_set ?_ GE409.out) | exact HB.out)) hb); clear HO387; clear HO390; clear HO393; clear HO400; clear HO403; clear HO406; clear BK383; clear BK409; clear HB; have HO387 := n0_; have HO390 := n1_; have HO393 := n2_; have HO400 := n3_; have HO403 := n4_; have HO406 := n5_; have BK383 := n6_; have BK409 := n7_; have HB := n8_; clear n0_ n1_ n2_ n3_ n4_ n5_ n6_ n7_ n8_; (try clear hb); (try clear hb2); (try clear hk); (try clear hi)))
  (try simp only [Act.put, List.setIfInBounds_toArray, List.set_cons_zero, List.set_cons_succ])
  go_cut [34] (fun v34 wc => ∃ (kq : Nat) (x34_10 : Bool), v34 = .bool x34_10 ∧ Aside0 (laws_FnExactPlace.j0 kq x34_10 l0_0 l0_1 l0_2 a0_3 a0_4 t398 t401 t404 t407 t408 = some true) ∧ Aside0 (kq ≤ k) ∧ Aside0 (Kd.S k50 50 wc w.heap.size (fun k_ => some k_ ≠ ((.slice Ao27 t401.length co27) : Value).ownBlock ∧ some k_ ≠ ((.slice Ao28 t404.length co28) : Value).ownBlock) (.slice Ao24 t398.length co24) t398) ∧ Aside0 (Kd.R (Kd.int .i64) 3 wc w.heap.size (fun k_ => some k_ ≠ ((.slice Ao28 t404.length co28) : Value).ownBlock) (.slice Ao27 t401.length co27) t401) ∧ Aside0 (Kd.R (Kd.int .i64) 3 wc w.heap.size (fun k_ => some k_ ≠ ((.slice Ao27 t401.length co27) : Value).ownBlock) (.slice Ao28 t404.length co28) t404) ∧ Aside0 (wc.heap[gb383]? = some (.cells #[(.slice A0_0 l0_0.length c0_0), (.slice A0_1 l0_1.length c0_1), (.slice A0_2 l0_2.length c0_2), .int .i64 a0_3, .int .i64 a0_4] 35 (0, 0))) ∧ Aside0 (wc.heap[gb409]? = some (.cells #[(.slice Ao24 t398.length co24), (.slice Ao27 t401.length co27), (.slice Ao28 t404.length co28), .int .i64 t407, .int .i64 t408] 40 (0, 0))) ∧ Aside0 (Below w.heap.size w wc))
  case first =>
   have H := HC11.out
   clear HC11
   by_cases c30 : t410 = t396
   ·rw [if_pos c30] at H
    have c30b0 : (t410 == t396) = true := beq_iff_eq.mpr c30
    have c30b1 : (t410 != t396) = false := bne_eq_false_iff_eq.mpr c30
    clear c30
    (first | rw [c30b0] | (simp only [i64_w, i32_w]; rw [c30b0]) | skip)
    (try (generalize hgzc30 : (t410 == t396) = bqc30 at *; subst c30b0; have c30b0 := hgzc30; clear hgzc30))
    have H' := Aside0.mk H
    clear H
    go_wp2
    go_meet
    case rel => exact ⟨_, ((t411 != t397)), ab6, (by first | exact H' | (have h_ := H'.out; rw [c30b0] at h_; exact ⟨h_⟩)), ⟨by first | omega | exact Nat.le_refl _⟩, ⟨by (with_reducible repeat (first | apply Kd.S_alloc | apply Kd.S_drewN | apply Kd.S_drew)); exact Kd.S_mono HO400.out (fun _ hk => ⟨hk.1.1.1.1, hk.1.1.1.2⟩)⟩, ⟨by (with_reducible repeat (first | apply Kd.R_alloc | apply Kd.R_drewN | apply Kd.R_drew)); exact Kd.R_mono HO403.out (fun _ hk => hk.1.1)⟩, ⟨by (with_reducible repeat (first | apply Kd.R_alloc | apply Kd.R_drewN | apply Kd.R_drew)); exact Kd.R_mono HO406.out (fun _ hk => hk.1.1)⟩, ⟨ab3 BK383⟩, ⟨ab3 BK409⟩, ⟨by repeat (first | (with_reducible first | exact HB.out | apply below_alloc | apply pw_below_drewN | apply below_drew1 | refine below_set ?_ GE383.out | refine below_set ?_ GE409.out) | exact HB.out)⟩⟩
   ·rw [if_neg c30] at H
    have c30b0 : (t410 == t396) = false := beq_eq_false_iff_ne.mpr c30
    have c30b1 : (t410 != t396) = true := bne_iff_ne.mpr c30
    (first | rw [c30b0] | (simp only [i64_w, i32_w]; rw [c30b0]) | skip)
    (try (generalize hgzc30 : (t410 == t396) = bqc30 at *; subst c30b0; have c30b0 := hgzc30; clear hgzc30))
    have H' := Aside0.mk H
    clear H
    go_wp2
    go_meet
    case rel => exact ⟨_, (true), ab6, (by first | exact H' | (have h_ := H'.out; rw [c30b0] at h_; exact ⟨h_⟩)), ⟨by first | omega | exact Nat.le_refl _⟩, ⟨by (with_reducible repeat (first | apply Kd.S_alloc | apply Kd.S_drewN | apply Kd.S_drew)); exact Kd.S_mono HO400.out (fun _ hk => ⟨hk.1.1.1.1, hk.1.1.1.2⟩)⟩, ⟨by (with_reducible repeat (first | apply Kd.R_alloc | apply Kd.R_drewN | apply Kd.R_drew)); exact Kd.R_mono HO403.out (fun _ hk => hk.1.1)⟩, ⟨by (with_reducible repeat (first | apply Kd.R_alloc | apply Kd.R_drewN | apply Kd.R_drew)); exact Kd.R_mono HO406.out (fun _ hk => hk.1.1)⟩, ⟨ab3 BK383⟩, ⟨ab3 BK409⟩, ⟨by repeat (first | (with_reducible first | exact HB.out | apply below_alloc | apply pw_below_drewN | apply below_drew1 | refine below_set ?_ GE383.out | refine below_set ?_ GE409.out) | exact HB.out)⟩⟩
  case rest =>
   clear HC11
   obtain ⟨kq, x34_10, rfl, HA, HJ10, HO_410000, HO_410001, HO_410002, BK383, BK409, HB⟩ := hcut
   cases kq with
   | zero => exact absurd HA.out (by simp [laws_FnExactPlace.j0])
   | succ kj10 =>
    have H := HA.out
    clear HA
    simp only [laws_FnExactPlace.j0] at H
    by_cases c31 : x34_10 = true
    ·subst c31
     have H1 : (some false) = some true := by rw [if_pos rfl] at H; first | exact H | done
     clear H
     have H := H1
     clear H1
     exact absurd H (by simp)
    ·replace c31 := Bool.eq_false_iff.mpr c31
     subst c31
     have H1 : ((laws_toPage.f kj10 l0_0 l0_1 l0_2 a0_3 a0_4).bind fun bt412 => ((laws_eqPage.f kj10 t398 t401 t404 t407 t408 bt412.1 bt412.2.1 bt412.2.2.1 bt412.2.2.2.1 bt412.2.2.2.2).bind fun t423 => (if t423 = true then (some true) else (some false)))) = some true := by rw [if_neg (show ¬ (false = true) by decide)] at H; first | exact H | done
     clear H
     have H := H1
     clear H1
     replace H := Option.bind_eq_some_iff.mp H
     obtain ⟨⟨t412, t415, t418, t421, t422⟩, A320, H⟩ := H
     try dsimp only at H
     have A32 := Aside0.mk A320
     clear A320
     replace H := Option.bind_eq_some_iff.mp H
     obtain ⟨t423, A330, H⟩ := H
     try dsimp only at H
     have A33 := Aside0.mk A330
     clear A330
     by_cases c34 : t423 = true
     ·subst c34
      have H1 : (some true) = some true := by rw [if_pos rfl] at H; first | exact H | done
      clear H
      have H := H1
      clear H1
      clear H
      try go_wp2
      have n0_ := Aside0.mk (Kd.S_drew HO_410000.out)
      have n1_ := Aside0.mk (Kd.R_drew HO_410001.out)
      have n2_ := Aside0.mk (Kd.R_drew HO_410002.out)
      have n3_ := Aside0.mk (blk_drew BK383.out)
      have n4_ := Aside0.mk (blk_drew BK409.out)
      have n5_ := Aside0.mk (below_drew1 HB.out)
      clear HO_410000
      clear HO_410001
      clear HO_410002
      clear BK383
      clear BK409
      clear HB
      have HO_410000 := n0_
      have HO_410001 := n1_
      have HO_410002 := n2_
      have BK383 := n3_
      have BK409 := n4_
      have HB := n5_
      clear n0_ n1_ n2_ n3_ n4_ n5_
      refine start_ (n := 5) (S := fun w' => w'.cell? ⟨gb409, 0, none⟩ = some (.slice Ao24 t398.length co24) ∧ w'.cell? ⟨gb409, 1, none⟩ = some (.slice Ao27 t401.length co27) ∧ w'.cell? ⟨gb409, 2, none⟩ = some (.slice Ao28 t404.length co28) ∧ w'.cell? ⟨gb409, 3, none⟩ = some (.int .i64 t407) ∧ w'.cell? ⟨gb409, 4, none⟩ = some (.int .i64 t408) ∧ w'.cell? ⟨gb383, 0, none⟩ = some (.slice A0_0 l0_0.length c0_0) ∧ w'.cell? ⟨gb383, 1, none⟩ = some (.slice A0_1 l0_1.length c0_1) ∧ w'.cell? ⟨gb383, 2, none⟩ = some (.slice A0_2 l0_2.length c0_2) ∧ w'.cell? ⟨gb383, 3, none⟩ = some (.int .i64 a0_3) ∧ w'.cell? ⟨gb383, 4, none⟩ = some (.int .i64 a0_4)) (ds := []) #[false, false, false, false, false] (by kernel_rfl) rfl rfl ⟨(blk_cell BK409.out 0).trans rfl, (blk_cell BK409.out 1).trans rfl, (blk_cell BK409.out 2).trans rfl, (blk_cell BK409.out 3).trans rfl, (blk_cell BK409.out 4).trans rfl, (blk_cell BK383.out 0).trans rfl, (blk_cell BK383.out 1).trans rfl, (blk_cell BK383.out 2).trans rfl, (blk_cell BK383.out 3).trans rfl, (blk_cell BK383.out 4).trans rfl⟩ (fun hHeld => ?_)
      generalize wc.drew = w35 at HO_410000 HO_410001 HO_410002 BK383 BK409 HB hHeld ⊢
      refine take_ (i := 0) (N := some 35) (v := ?_) (a' := ?_) #[true, false, false, false, false] rfl rfl (by kernel_rfl) (fun _ _ _ h => h) (Or.inl ⟨by rfl, ?_⟩) hHeld ?_ ?_
      rotate_left
      ·rintro w' ⟨s0, s1, s2, s3, s4, s5, s6, s7, s8, s9⟩
       go_simp
       with_reducible rfl
      rotate_left
      ·simp only [Act.put, List.setIfInBounds_toArray, List.set_cons_zero, List.set_cons_succ, i64_w, i32_w]
       rfl
      refine take_ (i := 1) (N := some 36) (v := ?_) (a' := ?_) #[true, true, false, false, false] rfl rfl (by kernel_rfl) (fun _ _ _ h => h) (Or.inl ⟨by rfl, ?_⟩) hHeld ?_ ?_
      rotate_left
      ·rintro w' ⟨s0, s1, s2, s3, s4, s5, s6, s7, s8, s9⟩
       go_simp
       with_reducible rfl
      rotate_left
      ·simp only [Act.put, List.setIfInBounds_toArray, List.set_cons_zero, List.set_cons_succ, i64_w, i32_w]
       rfl
      refine one_ (i := 2) (N := some 37) #[true, true, true, false, false] rfl rfl (by kernel_rfl) (by decide) (fun K hK => ?_)
      refine goes_ Try.func16 (by kernel_rfl) rfl #[.agg #[.slice A0_0 l0_0.length c0_0, .slice A0_1 l0_1.length c0_1, .slice A0_2 l0_2.length c0_2, .int .i64 a0_3, .int .i64 a0_4]] (by rfl) rfl rfl ab5 ?_
      with_reducible refine (laws_toPage.calls kj10 _ _ l0_0 _ _ l0_1 _ _ l0_2 a0_3 a0_4 t412 t415 t418 t421 t422 _ ?side1 ?side2 ?side3 ?side4 ?side5 ?side6 A32.out).mono ?_
      (case side1 => repeat (first | exact (Kd.C_below HR0_0.out HB.out) | (with_reducible refine Kd.C_alloc ?_ _) | (with_reducible refine Kd.C_drewN ?_ _) | (with_reducible refine Kd.C_drew ?_)))
      (case side2 => exact HC0_0.out)
      (case side3 => repeat (first | exact (Kd.C_below HR0_1.out HB.out) | (with_reducible refine Kd.C_alloc ?_ _) | (with_reducible refine Kd.C_drewN ?_ _) | (with_reducible refine Kd.C_drew ?_)))
      (case side4 => exact HC0_1.out)
      (case side5 => repeat (first | exact (Kd.C_below HR0_2.out HB.out) | (with_reducible refine Kd.C_alloc ?_ _) | (with_reducible refine Kd.C_drewN ?_ _) | (with_reducible refine Kd.C_drew ?_)))
      (case side6 => exact HC0_2.out)
      rintro e w36 ⟨v413, v416, v419, rfl, ho0, ho1, ho2, hb⟩
      refine ⟨_, rfl, ?_⟩
      have n0_ := Aside0.mk (Kd.S_mono (Kd.S_told (Kd.S_told (Kd.S_told (Kd.S_old (by (with_reducible repeat (first | apply Kd.S_alloc | apply Kd.S_drewN | apply Kd.S_drew)); exact HO_410000.out) hb) (Kd.S_base ho0)) (Kd.R_base ho1)) (Kd.R_base ho2)) (fun _ h_ => h_.1))
      have n1_ := Aside0.mk (Kd.R_mono (Kd.R_told (Kd.R_told (Kd.R_old (ab8 HO_410001) hb) (Kd.R_base ho1)) (Kd.R_base ho2)) (fun _ h_ => h_.1))
      have n2_ := Aside0.mk (Kd.R_mono (Kd.R_told (Kd.R_told (Kd.R_old (ab8 HO_410002) hb) (Kd.R_base ho1)) (Kd.R_base ho2)) (fun _ h_ => h_.1))
      have n3_ := Aside0.mk (Kd.S_lower (Kd.S_new' (Kd.S_new' (Kd.S_new' ho0 (Kd.S_lt (by (with_reducible repeat (first | apply Kd.S_alloc | apply Kd.S_drewN | apply Kd.S_drew)); exact HO_410000.out))) (Kd.R_lt (ab8 HO_410001))) (Kd.R_lt (ab8 HO_410002))) (below_size (by repeat (first | (with_reducible first | exact HB.out | apply below_alloc | apply pw_below_drewN | apply below_drew1 | refine below_set ?_ GE383.out | refine below_set ?_ GE409.out) | exact HB.out))))
      have n4_ := Aside0.mk (Kd.R_lower (Kd.R_new' (Kd.R_new' ho1 (Kd.R_lt (ab8 HO_410001))) (Kd.R_lt (ab8 HO_410002))) (below_size (by repeat (first | (with_reducible first | exact HB.out | apply below_alloc | apply pw_below_drewN | apply below_drew1 | refine below_set ?_ GE383.out | refine below_set ?_ GE409.out) | exact HB.out))))
      have n5_ := Aside0.mk (Kd.R_lower (Kd.R_new' (Kd.R_new' ho2 (Kd.R_lt (ab8 HO_410001))) (Kd.R_lt (ab8 HO_410002))) (below_size (by repeat (first | (with_reducible first | exact HB.out | apply below_alloc | apply pw_below_drewN | apply below_drew1 | refine below_set ?_ GE383.out | refine below_set ?_ GE409.out) | exact HB.out))))
      have n6_ := Aside0.mk (blk_below (g := gb383) (o := .cells #[.slice A0_0 l0_0.length c0_0, .slice A0_1 l0_1.length c0_1, .slice A0_2 l0_2.length c0_2, .int .i64 a0_3, .int .i64 a0_4] 35 (0, 0)) (ab3 BK383) hb)
      have n7_ := Aside0.mk (blk_below (g := gb409) (o := .cells #[.slice Ao24 t398.length co24, .slice Ao27 t401.length co27, .slice Ao28 t404.length co28, .int .i64 t407, .int .i64 t408] 40 (0, 0)) (ab3 BK409) hb)
      have n8_ := Aside0.mk (below_step (by repeat (first | (with_reducible first | exact HB.out | apply below_alloc | apply pw_below_drewN | apply below_drew1 | refine below_set ?_ GE383.out | refine below_set ?_ GE409.out) | exact HB.out)) hb)
      clear HO_410000
      clear HO_410001
      clear HO_410002
      clear BK383
      clear BK409
      clear HB
      have HO_410000 := n0_
      have HO_410001 := n1_
      have HO_410002 := n2_
      have HO414 := n3_
      have HO417 := n4_
      have HO420 := n5_
      have BK383 := n6_
      have BK409 := n7_
      have HB := n8_
      clear n0_ n1_ n2_ n3_ n4_ n5_ n6_ n7_ n8_
      (try clear hb)
      (try clear hb2)
      (try clear hk)
      (try clear hi)
      obtain ⟨Ao37, co37, eo37⟩ := Kd.S_slice HO414.out
      (first | subst eo37 | (injection eo37 with f1_ f2_ f3_; have f4_ := f1_.symm; have f5_ := f3_.symm; clear f1_ f2_ f3_; subst f4_; subst f5_))
      obtain ⟨Ao38, co38, eo38⟩ := Kd.R_slice HO417.out
      (first | subst eo38 | (injection eo38 with f1_ f2_ f3_; have f4_ := f1_.symm; have f5_ := f3_.symm; clear f1_ f2_ f3_; subst f4_; subst f5_))
      obtain ⟨Ao39, co39, eo39⟩ := Kd.R_slice HO420.out
      (first | subst eo39 | (injection eo39 with f1_ f2_ f3_; have f4_ := f1_.symm; have f5_ := f3_.symm; clear f1_ f2_ f3_; subst f4_; subst f5_))
      refine hK.out _ _ ⟨(blk_cell BK409.out 0).trans rfl, (blk_cell BK409.out 1).trans rfl, (blk_cell BK409.out 2).trans rfl, (blk_cell BK409.out 3).trans rfl, (blk_cell BK409.out 4).trans rfl, (blk_cell BK383.out 0).trans rfl, (blk_cell BK383.out 1).trans rfl, (blk_cell BK383.out 2).trans rfl, (blk_cell BK383.out 3).trans rfl, (blk_cell BK383.out 4).trans rfl⟩ (fun hHeld => ?_)
      clear hK K
      refine norm_ (a' := ?_) ?_ ?_
      rotate_left
      ·show Act.put _ (some 37) _ = _
       simp only [Act.put, List.setIfInBounds_toArray, List.set_cons_zero, List.set_cons_succ, i64_w, i32_w]
       rfl
      refine one_ (i := 3) (N := some 38) #[true, true, true, true, false] rfl rfl (by kernel_rfl) (by decide) (fun K hK => ?_)
      refine goes_ Try.func18 (by kernel_rfl) rfl #[.agg #[.slice Ao24 t398.length co24, .slice Ao27 t401.length co27, .slice Ao28 t404.length co28, .int .i64 t407, .int .i64 t408], .agg #[.slice Ao37 t412.length co37, .slice Ao38 t415.length co38, .slice Ao39 t418.length co39, .int .i64 t421, .int .i64 t422]] (by rfl) rfl rfl ab5 ?_
      with_reducible refine (laws_eqPage.calls kj10 _ _ t398 _ _ t401 _ _ t404 t407 t408 _ _ t412 _ _ t415 _ _ t418 t421 t422 true _ ?side1 ?side2 ?side3 ?side4 ?side5 ?side6 ?side7 ?side8 ?side9 ?side10 ?side11 ?side12 A33.out).mono ?_
      (case side1 => repeat (first | exact (Kd.S_reads' HO_410000.out).2.2 | (with_reducible refine Kd.C_alloc ?_ _) | (with_reducible refine Kd.C_drewN ?_ _) | (with_reducible refine Kd.C_drew ?_)))
      (case side2 => exact (Kd.S_reads' HO_410000.out).2.1)
      (case side3 => repeat (first | exact (Kd.R_reads' HO_410001.out).2.2 | (with_reducible refine Kd.C_alloc ?_ _) | (with_reducible refine Kd.C_drewN ?_ _) | (with_reducible refine Kd.C_drew ?_)))
      (case side4 => exact (Kd.R_reads' HO_410001.out).2.1)
      (case side5 => repeat (first | exact (Kd.R_reads' HO_410002.out).2.2 | (with_reducible refine Kd.C_alloc ?_ _) | (with_reducible refine Kd.C_drewN ?_ _) | (with_reducible refine Kd.C_drew ?_)))
      (case side6 => exact (Kd.R_reads' HO_410002.out).2.1)
      (case side7 => repeat (first | exact (Kd.S_reads' HO414.out).2.2 | (with_reducible refine Kd.C_alloc ?_ _) | (with_reducible refine Kd.C_drewN ?_ _) | (with_reducible refine Kd.C_drew ?_)))
      (case side8 => exact (Kd.S_reads' HO414.out).2.1)
      (case side9 => repeat (first | exact (Kd.R_reads' HO417.out).2.2 | (with_reducible refine Kd.C_alloc ?_ _) | (with_reducible refine Kd.C_drewN ?_ _) | (with_reducible refine Kd.C_drew ?_)))
      (case side10 => exact (Kd.R_reads' HO417.out).2.1)
      (case side11 => repeat (first | exact (Kd.R_reads' HO420.out).2.2 | (with_reducible refine Kd.C_alloc ?_ _) | (with_reducible refine Kd.C_drewN ?_ _) | (with_reducible refine Kd.C_drew ?_)))
      (case side12 => exact (Kd.R_reads' HO420.out).2.1)
      rintro e w40 ⟨rfl, hb⟩
      refine ⟨_, rfl, ?_⟩
      have n0_ := Aside0.mk (Kd.S_below (by (with_reducible repeat (first | apply Kd.S_alloc | apply Kd.S_drewN | apply Kd.S_drew)); exact HO_410000.out) hb)
      have n1_ := Aside0.mk (Kd.R_below (ab8 HO_410001) hb)
      have n2_ := Aside0.mk (Kd.R_below (ab8 HO_410002) hb)
      have n3_ := Aside0.mk (Kd.S_below (by (with_reducible repeat (first | apply Kd.S_alloc | apply Kd.S_drewN | apply Kd.S_drew)); exact HO414.out) hb)
      have n4_ := Aside0.mk (Kd.R_below (ab8 HO417) hb)
      have n5_ := Aside0.mk (Kd.R_below (ab8 HO420) hb)
      have n6_ := Aside0.mk (blk_below (g := gb383) (o := .cells #[.slice A0_0 l0_0.length c0_0, .slice A0_1 l0_1.length c0_1, .slice A0_2 l0_2.length c0_2, .int .i64 a0_3, .int .i64 a0_4] 35 (0, 0)) (ab3 BK383) hb)
      have n7_ := Aside0.mk (blk_below (g := gb409) (o := .cells #[.slice Ao24 t398.length co24, .slice Ao27 t401.length co27, .slice Ao28 t404.length co28, .int .i64 t407, .int .i64 t408] 40 (0, 0)) (ab3 BK409) hb)
      have n8_ := Aside0.mk (below_step (by repeat (first | (with_reducible first | exact HB.out | apply below_alloc | apply pw_below_drewN | apply below_drew1 | refine below_set ?_ GE383.out | refine below_set ?_ GE409.out) | exact HB.out)) hb)
      clear HO_410000
      clear HO_410001
      clear HO_410002
      clear HO414
      clear HO417
      clear HO420
      clear BK383
      clear BK409
      clear HB
      have HO_410000 := n0_
      have HO_410001 := n1_
      have HO_410002 := n2_
      have HO414 := n3_
      have HO417 := n4_
      have HO420 := n5_
      have BK383 := n6_
      have BK409 := n7_
      have HB := n8_
      clear n0_ n1_ n2_ n3_ n4_ n5_ n6_ n7_ n8_
      (try clear hb)
      (try clear hb2)
      (try clear hk)
      (try clear hi)
      refine hK.out _ _ ⟨(blk_cell BK409.out 0).trans rfl, (blk_cell BK409.out 1).trans rfl, (blk_cell BK409.out 2).trans rfl, (blk_cell BK409.out 3).trans rfl, (blk_cell BK409.out 4).trans rfl, (blk_cell BK383.out 0).trans rfl, (blk_cell BK383.out 1).trans rfl, (blk_cell BK383.out 2).trans rfl, (blk_cell BK383.out 3).trans rfl, (blk_cell BK383.out 4).trans rfl⟩ (fun hHeld => ?_)
      clear hK K
      refine norm_ (a' := ?_) ?_ ?_
      rotate_left
      ·show Act.put _ (some 38) _ = _
       simp only [Act.put, List.setIfInBounds_toArray, List.set_cons_zero, List.set_cons_succ, i64_w, i32_w]
       rfl
      refine pure_ (i := 4) (N := some 39) (v := ?_) (a' := ?_) #[true, true, true, true, true] rfl rfl (by kernel_rfl) (fun _ _ _ h => h) (Or.inl ⟨by rfl, ?_⟩) ?_ ?_
      rotate_left
      ·intro w'
       go_simp
       with_reducible rfl
      rotate_left
      ·simp only [Act.put, List.setIfInBounds_toArray, List.set_cons_zero, List.set_cons_succ, i64_w, i32_w]
       rfl
      refine done_ (by kernel_rfl) ?_
      try go_wp2
      go_ret
      exact ⟨ab7, by repeat (first | (with_reducible first | exact HB.out | apply below_alloc | apply pw_below_drewN | apply below_drew1 | refine below_set ?_ GE383.out | refine below_set ?_ GE409.out) | exact HB.out)⟩
     ·replace c34 := Bool.eq_false_iff.mpr c34
      subst c34
      have H1 : (some false) = some true := by rw [if_neg (show ¬ (false = true) by decide)] at H; first | exact H | done
      clear H
      have H := H1
      clear H1
      exact absurd H (by simp)

/-- THE ONE PURE STATEMENT of laws_FnExactPlace. -/
def laws_FnExactPlace.Pure : Prop := ∀ (n0 : Nat) (x0 : S35), G35 maxLen n0 x0 → ∃ k, laws_FnExactPlace.f k x0.f0 x0.f1 x0.f2 x0.f3 x0.f4 = some true

end Go.Proofs.Ytgljgbkbjlondaa.P
