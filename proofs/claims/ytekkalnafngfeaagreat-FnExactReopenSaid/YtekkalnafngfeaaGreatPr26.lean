-- WRITTEN BY this session's own programs
import Derived.Test.YtekkalnafngfeaaGreatPr2
import Derived.Test.YtekkalnafngfeaaGreatPr20
import Derived.Test.YtekkalnafngfeaaGreatVPrw
namespace Go.Proofs.YtekkalnafngfeaaGreat.P
open Go.RowKit Go.Proofs.YtekkalnafngfeaaGreatW.PrintWords Go.Proofs.YtekkalnafngfeaaGreatW.PrintLast Go.Proofs.YtekkalnafngfeaaGreatW.PrintMore Go
set_option linter.unusedVariables false
set_option linter.unusedSimpArgs false
set_option maxHeartbeats 8000000
set_option maxRecDepth 100000
set_option maxHeartbeats 4000000
attribute [local go_sem] max2_int min2_int max_two min_two max_three min_three max_four min_four
def impl_copyPage.f (l0_0 : List (S53)) (l0_1 : List Int) (l0_2 : List Int) (a0_3 : Int) (a0_4 : Int) : Option ((List (S53)) × List Int × List Int × Int × Int) := (impl_copyItems.f l0_0).bind fun t403 => ((slices_Clone_int_int.f l0_1).bind fun t406 => ((slices_Clone_int_int.f l0_2).bind fun t409 => (some (t403, t406, t409, a0_3, a0_4))))
theorem impl_copyPage.calls (A0_0 : Option Addr) (c0_0 : Nat) (l0_0 : List (S53)) (A0_1 : Option Addr) (c0_1 : Nat) (l0_1 : List Int) (A0_2 : Option Addr) (c0_2 : Nat) (l0_2 : List Int) (a0_3 : Int) (a0_4 : Int) (r1 : List (S53)) (r2 : List Int) (r3 : List Int) (r4 : Int) (r5 : Int) (w : World) (hr0_0 : Kd.C k53 w A0_0 l0_0.length l0_0) (hc0_0 : l0_0.length ≤ c0_0) (hr0_1 : Kd.C (Kd.int .i64) w A0_1 l0_1.length l0_1) (hc0_1 : l0_1.length ≤ c0_1) (hr0_2 : Kd.C (Kd.int .i64) w A0_2 l0_2.length l0_2) (hc0_2 : l0_2.length ≤ c0_2) (h : impl_copyPage.f l0_0 l0_1 l0_2 a0_3 a0_4 = some (r1, r2, r3, r4, r5)) :
  Calls Tryz.prog 32 #[.agg #[.slice A0_0 l0_0.length c0_0, .slice A0_1 l0_1.length c0_1, .slice A0_2 l0_2.length c0_2, .int .i64 a0_3, .int .i64 a0_4]] w fun e w' => ∃ v0_ v1_ v2_ : Value, e = .returned (.agg #[v0_, v1_, v2_, .int .i64 r4, .int .i64 r5]) ∧ Kd.S k53 53 w' w.heap.size (fun k_ => some k_ ≠ (v1_ : Value).ownBlock ∧ some k_ ≠ (v2_ : Value).ownBlock) v0_ r1 ∧ Kd.R (Kd.int .i64) 3 w' w.heap.size (fun k_ => some k_ ≠ (v2_ : Value).ownBlock) v1_ r2 ∧ Kd.R (Kd.int .i64) 3 w' w.heap.size (fun k_ => some k_ ≠ (v1_ : Value).ownBlock) v2_ r3 ∧ Below w.heap.size w w' := by
 have hu31 := Tryz.underlying31
 have HR0_0 := am hr0_0
 have HC0_0 := am hc0_0
 clear hr0_0 hc0_0
 have HR0_1 := am hr0_1
 have HC0_1 := am hc0_1
 clear hr0_1 hc0_1
 have HR0_2 := am hr0_2
 have HC0_2 := am hc0_2
 clear hr0_2 hc0_2
 have HB := am (Below.refl w.heap.size w)
 have H : ((impl_copyItems.f l0_0).bind fun t403 => ((slices_Clone_int_int.f l0_1).bind fun t406 => ((slices_Clone_int_int.f l0_2).bind fun t409 => (some (t403, t406, t409, a0_3, a0_4))))) = some (r1, r2, r3, r4, r5) := h
 clear h
 replace H := bi_ H; obtain ⟨t403, A2, H⟩ := H
 replace H := bi_ H; obtain ⟨t406, A3, H⟩ := H
 replace H := bi_ H; obtain ⟨t409, A4, H⟩ := H
 simp only [Option.some.injEq, Prod.mk.injEq] at H
 obtain ⟨rfl, rfl, rfl, rfl, rfl⟩ := H
 go_enter Tryz.func32, Tryz.ntmps32
 go_wp2_with (first | ((with_reducible refine gd_ 1 ?_); refine bx_ 1 (cs := #[.slice A0_0 l0_0.length c0_0, .slice A0_1 l0_1.length c0_1, .slice A0_2 l0_2.length c0_2, .int .i64 a0_3, .int .i64 a0_4]) 31 ?_; intro gb401 hg w5 hbox hb; have BK401 := am hbox; have GW401 := ge_ (w := w) hg; have GE401 := ge_ (w := w) hg; replace HB := am (below_step ab1 hb); clear hb hbox hg) | ((with_reducible refine gd_ 2 ?_); refine bx_ 2 (cs := #[.slice none 0 0, .slice none 0 0, .slice none 0 0, .int .i64 0, .int .i64 0]) 31 ?_; intro gb402 hg w6 hbox hb; have BK402 := am hbox; have GW402 := gE_ (w := w) GE401 hg; have GE402 := gE_ (w := w) GE401 hg; replace HB := am (below_step (ab2 GE401) hb); have NB401_402 := nl_ BK401 hg; have NB402_401 := ng_ BK401 hg; replace BK401 := bl_ BK401 hb; clear hb hbox hg; have hnb7 := NB401_402.out; have hnc7 := NB402_401.out; obtain ⟨⟨_, _, _, _, _⟩, _, _, _, _, _⟩ := Op.cells5 BK401.out) | ((with_reducible refine gf_ 59 ?_); refine gx_ Tryz.func59 (impl_copyItems.calls _ _ l0_0 t403 _ (sc_ HR0_0) HC0_0.out A2.out) ?_; rintro v404 w9 ⟨ho0, hb⟩; have HO405 := am (Kd.S_lower ho0 (below_size ba_)); replace BK401 := bl_ BK401 hb; replace BK402 := bl_ BK402 hb; replace HB := am (below_step ba_ hb); (try clear hb); (try clear ho0); obtain ⟨Ao10, co10, eo10⟩ := Kd.S_slice HO405.out; subst eo10; obtain ⟨⟨_, _, _, _, _⟩, _, _, _, _, _⟩ := Op.cells5 BK401.out) | ((with_reducible refine gf_ 60 ?_); refine gx_ Tryz.func60 (slices_Clone_int_int.calls _ _ l0_1 t406 _ ?side1 HC0_1.out A3.out) ?_; (case side1 => exact Kd.C_below HR0_1.out ba_); rintro v407 w12 ⟨ho0, hb⟩; replace HO405 := am (Kd.S_elder' (by (with_reducible repeat (first | apply Kd.S_alloc | apply Kd.S_drewN | apply Kd.S_drew)); exact (Kd.S_mono (Kd.S_far (p := ⟨gb401, 0, none⟩) (Kd.S_types HO405.out BK401.out (by decide)) (fun _ hk => hk.2) (.slice Ao10 t403.length co10)) (fun _ h_ => h_.1))) (Kd.R_base ho0) hb); have HO408 := am (Kd.R_lower ho0 (below_size ba_)); replace BK401 := bp_ BK401 hb; replace BK402 := bp_ BK402 hb; replace HB := am (below_step ba_ hb); (try clear hb); (try clear hk); (try clear ho0); obtain ⟨Ao13, co13, eo13⟩ := Kd.R_slice HO408.out; subst eo13; obtain ⟨⟨_, _, _, _, _⟩, _, _, _, _, _⟩ := Op.cells5 BK401.out) | ((with_reducible refine gf_ 60 ?_); refine gx_ Tryz.func60 (slices_Clone_int_int.calls _ _ l0_2 t409 _ ?side1 HC0_2.out A4.out) ?_; (case side1 => exact Kd.C_below HR0_2.out ba_); rintro v410 w15 ⟨ho0, hb⟩; replace HO405 := am (Kd.S_elder' (by (with_reducible repeat (first | apply Kd.S_alloc | apply Kd.S_drewN | apply Kd.S_drew)); exact (Kd.S_mono (Kd.S_far (p := ⟨gb401, 1, none⟩) (Kd.S_types HO405.out BK401.out (by decide)) (fun _ hk => hk.2) (.slice Ao13 t406.length co13)) (fun _ h_ => h_.1))) (Kd.R_base ho0) hb); have HO411 := am (Kd.R_lower (Kd.R_new' ho0 (Kd.R_lt (by (with_reducible repeat (first | apply Kd.R_alloc | apply Kd.R_drewN | apply Kd.R_drew)); exact (Kd.R_mono (Kd.R_far (p := ⟨gb401, 1, none⟩) (Kd.R_types HO408.out BK401.out (by decide)) (fun _ hk => hk.2) (.slice Ao13 t406.length co13)) (fun _ h_ => h_.1))))) (below_size ba_)); replace HO408 := am (Kd.R_elder' (by (with_reducible repeat (first | apply Kd.R_alloc | apply Kd.R_drewN | apply Kd.R_drew)); exact (Kd.R_mono (Kd.R_far (p := ⟨gb401, 1, none⟩) (Kd.R_types HO408.out BK401.out (by decide)) (fun _ hk => hk.2) (.slice Ao13 t406.length co13)) (fun _ h_ => h_.1))) (Kd.R_base ho0) hb); replace BK401 := bp_ BK401 hb; replace BK402 := bp_ BK402 hb; replace HB := am (below_step ba_ hb); (try clear hb); (try clear hk); (try clear ho0); obtain ⟨Ao16, co16, eo16⟩ := Kd.R_slice HO411.out; subst eo16; obtain ⟨⟨_, _, _, _, _⟩, _, _, _, _, _⟩ := Op.cells5 BK401.out; obtain ⟨⟨_, _, _, _, _⟩, _, _, _, _, _⟩ := Op.cells5 BK402.out))
 refine bodyPost_ret (results_cell_row rfl _ _ gb402 31 #[.slice Ao10 t403.length co10, .slice Ao13 t406.length co13, .slice Ao16 t409.length co16, .int .i64 a0_3, .int .i64 a0_4] (0, 0) _ rfl (bq_ BK402) Tryz.underlying31 rfl (by kernel_rfl)) rfl ?_
 exact ⟨_, _, _, ab7, by (with_reducible repeat (first | apply Kd.S_alloc | apply Kd.S_drewN | apply Kd.S_drew)); exact Kd.S_mono (Kd.S_far (p := ⟨gb402, 4, none⟩) (Kd.S_far (p := ⟨gb402, 3, none⟩) (Kd.S_far (p := ⟨gb402, 2, none⟩) (Kd.S_far (p := ⟨gb402, 1, none⟩) (Kd.S_far (p := ⟨gb402, 0, none⟩) (Kd.S_far (p := ⟨gb401, 2, none⟩) (Kd.S_types (Kd.S_types HO405.out BK401.out (by decide)) BK402.out (by decide)) (fun _ hk => hk.1.2) (.slice Ao16 t409.length co16)) (fun _ hk => hk.2) (.slice Ao10 t403.length co10)) (fun _ hk => hk.2) (.slice Ao13 t406.length co13)) (fun _ hk => hk.2) (.slice Ao16 t409.length co16)) (fun _ hk => hk.2) (.int .i64 a0_3)) (fun _ hk => hk.2) (.int .i64 a0_4)) (fun _ hk => ⟨hk.1.1.1.2, hk.1.1.2⟩), by (with_reducible repeat (first | apply Kd.R_alloc | apply Kd.R_drewN | apply Kd.R_drew)); exact Kd.R_mono (Kd.R_far (p := ⟨gb402, 4, none⟩) (Kd.R_far (p := ⟨gb402, 3, none⟩) (Kd.R_far (p := ⟨gb402, 2, none⟩) (Kd.R_far (p := ⟨gb402, 1, none⟩) (Kd.R_far (p := ⟨gb402, 0, none⟩) (Kd.R_far (p := ⟨gb401, 2, none⟩) (Kd.R_types (Kd.R_types HO408.out BK401.out (by decide)) BK402.out (by decide)) (fun _ hk => hk.1.2) (.slice Ao16 t409.length co16)) (fun _ hk => hk.2) (.slice Ao10 t403.length co10)) (fun _ hk => hk.2) (.slice Ao13 t406.length co13)) (fun _ hk => hk.2) (.slice Ao16 t409.length co16)) (fun _ hk => hk.2) (.int .i64 a0_3)) (fun _ hk => hk.2) (.int .i64 a0_4)) (fun _ hk => hk.1.1.2), by (with_reducible repeat (first | apply Kd.R_alloc | apply Kd.R_drewN | apply Kd.R_drew)); exact Kd.R_mono (Kd.R_far (p := ⟨gb402, 4, none⟩) (Kd.R_far (p := ⟨gb402, 3, none⟩) (Kd.R_far (p := ⟨gb402, 2, none⟩) (Kd.R_far (p := ⟨gb402, 1, none⟩) (Kd.R_far (p := ⟨gb402, 0, none⟩) (Kd.R_far (p := ⟨gb401, 2, none⟩) (Kd.R_types (Kd.R_types HO411.out BK401.out (by decide)) BK402.out (by decide)) (fun _ hk => hk.1.2) (.slice Ao16 t409.length co16)) (fun _ hk => hk.2) (.slice Ao10 t403.length co10)) (fun _ hk => hk.2) (.slice Ao13 t406.length co13)) (fun _ hk => hk.2) (.slice Ao16 t409.length co16)) (fun _ hk => hk.2) (.int .i64 a0_3)) (fun _ hk => hk.2) (.int .i64 a0_4)) (fun _ hk => hk.1.1.2), ba_⟩
def impl_inRange.f (a0 : Int) (a1 : Int) (a2 : Int) : Option (Bool) := if a0 ≥ a1 then (some (decide (a0 ≤ a2))) else (some false)
theorem impl_inRange.calls (a0 : Int) (a1 : Int) (a2 : Int) (r : Bool) (w : World) (h : impl_inRange.f a0 a1 a2 = some r) :
  Calls Tryz.prog 87 #[.int .i64 a0, .int .i64 a1, .int .i64 a2] w fun e w' => e = .returned (.bool r) ∧ Drawn0 w w' := by
 have H : (if a0 ≥ a1 then (some (decide (a0 ≤ a2))) else (some false)) = some r := h
 clear h
 by_cases c4 : a0 ≥ a1
 ·rw [if_pos c4] at H
  have c4b0 : decide (a1 ≤ a0) = true := decide_eq_true c4
  clear c4
  obtain rfl := Option.some.inj H
  go_enter Tryz.func87, Tryz.ntmps87
  go_wp2
  go_ret
  exact ⟨ab6, by repeat (first | exact Drawn0.refl _ | apply Drawn0.step)⟩
 ·rw [if_neg c4] at H
  have c4b0 : decide (a1 ≤ a0) = false := decide_eq_false c4
  clear c4
  obtain rfl := Option.some.inj H
  go_enter Tryz.func87, Tryz.ntmps87
  go_wp2
  go_ret
  exact ⟨ab6, by repeat (first | exact Drawn0.refl _ | apply Drawn0.step)⟩
/-- A state of type 31 at block g of W; what its slices lead to came in by w0. -/
def IsS31 (w0 W : World) (g : Nat) (f0 : List (S53)) (f1 : List Int) (f2 : List Int) (f3 : Int) (f4 : Int) : Prop := ∃ A0 c0, ∃ A1 c1, ∃ A2 c2, W.heap[g]? = some (.cells #[.slice A0 f0.length c0, .slice A1 f1.length c1, .slice A2 f2.length c2, .int .i64 f3, .int .i64 f4] 31 (0, 0)) ∧ (True ∧ f0.length ≤ c0 ∧ f1.length ≤ c1 ∧ f2.length ≤ c2) ∧ Kd.C k53 w0 A0 f0.length f0 ∧ Kd.C (Kd.int .i64) w0 A1 f1.length f1 ∧ Kd.C (Kd.int .i64) w0 A2 f2.length f2
theorem IsS31.grown {w0 W : World} {g : Nat} {f0 : List (S53)} {f1 : List Int} {f2 : List Int} {f3 : Int} {f4 : Int} {W1 : World} {row : Option Nat} (h : IsS31 w0 W g f0 f1 f2 f3 f4) (hw : W.grownBy W1 row) (hne : some g ≠ row) : IsS31 w0 W1 g f0 f1 f2 f3 f4 := by
 obtain ⟨A0, c0, A1, c1, A2, c2, hb, hg, hr0, hr1, hr2⟩ := h
 exact ⟨A0, c0, A1, c1, A2, c2, blk_grown hb hw hne, hg, hr0, hr1, hr2⟩
theorem IsS31.below {w0 W : World} {g : Nat} {f0 : List (S53)} {f1 : List Int} {f2 : List Int} {f3 : Int} {f4 : Int} {W1 : World} (h : IsS31 w0 W g f0 f1 f2 f3 f4) (hw : Below W.heap.size W W1) : IsS31 w0 W1 g f0 f1 f2 f3 f4 := h.grown (grown_of_below hw none) (by simp)
theorem IsS31.drewN {w0 W : World} {g : Nat} {f0 : List (S53)} {f1 : List Int} {f2 : List Int} {f3 : Int} {f4 : Int} (h : IsS31 w0 W g f0 f1 f2 f3 f4) (m : Nat) : IsS31 w0 (W.drewN m) g f0 f1 f2 f3 f4 := h
theorem IsS31.ne_blk {w0 W : World} {g : Nat} {f0 : List (S53)} {f1 : List Int} {f2 : List Int} {f3 : Int} {f4 : Int} {a : Nat} {cs : Array Value} {t : TypeId} {fr : Nat × Nat} (h : IsS31 w0 W g f0 f1 f2 f3 f4) (hb2 : W.heap[a]? = some (.cells cs t fr)) (ht : t ≠ 31) : g ≠ a := by
 obtain ⟨A0, c0, A1, c1, A2, c2, hb, hg, hr0, hr1, hr2⟩ := h
 rintro rfl
 rw [hb] at hb2
 injection hb2 with hb2
 injection hb2 with _ ht2
 exact ht ht2.symm
theorem cellS31_1 {W : World} {g : Nat} {A0 : Option Addr} {c0 : Nat} {A1 : Option Addr} {c1 : Nat} {A2 : Option Addr} {c2 : Nat} {f0 : List (S53)} {f1 : List Int} {f2 : List Int} {f3 : Int} {f4 : Int} (h : W.heap[g]? = some (.cells #[.slice A0 f0.length c0, .slice A1 f1.length c1, .slice A2 f2.length c2, .int .i64 f3, .int .i64 f4] 31 (0, 0))) : W.cell? ⟨g, 1, none⟩ = some (.slice A1 f1.length c1) := (blk_cell h 1).trans rfl
def impl_Page_isTag.f (s0_0 : List (S53)) (s0_1 : List Int) (s0_2 : List Int) (s0_3 : Int) (s0_4 : Int) (a1 : Int) : Option (Bool × Int × Int) := (impl_inRange.f a1 0 (wrap64 ((s0_0.length : Int) - 1))).bind fun t412 => (if t412 = true then (if 0 ≤ a1 then (if a1 < (s0_0.length : Int) then (some ((((rd_T53 s0_0 a1).f0) == 2), s0_3, s0_4)) else (none)) else (none)) else (some (false, s0_3, s0_4)))
theorem impl_Page_isTag.calls (g : Nat) (s0_0 : List (S53)) (s0_1 : List Int) (s0_2 : List Int) (s0_3 : Int) (s0_4 : Int) (a1 : Int) (r1 : Bool) (r2 : Int) (r3 : Int) (w0 w : World) (hI : IsS31 w0 w g s0_0 s0_1 s0_2 s0_3 s0_4) (hB : Below w0.heap.size w0 w) (h : impl_Page_isTag.f s0_0 s0_1 s0_2 s0_3 s0_4 a1 = some (r1, r2, r3)) :
  Calls Tryz.prog 61 #[.pointer (some ⟨g, 0, none⟩), .int .i64 a1] w fun e w' => e = .returned (.bool r1) ∧ IsS31 w0 w' g s0_0 s0_1 s0_2 r2 r3 ∧ Below w0.heap.size w0 w' ∧ KeepBut w w' g none := by
 have HI0 := am hI
 have HK := am (KeepBut.refl w g none)
 have HL := am hB.size
 clear hI
 have HW0 := am hB.size
 have HB := am hB
 clear hB
 have H : ((impl_inRange.f a1 0 (wrap64 ((s0_0.length : Int) - 1))).bind fun t412 => (if t412 = true then (if 0 ≤ a1 then (if a1 < (s0_0.length : Int) then (some ((((rd_T53 s0_0 a1).f0) == 2), s0_3, s0_4)) else (none)) else (none)) else (some (false, s0_3, s0_4)))) = some (r1, r2, r3) := h
 clear h
 replace H := bi_ H; obtain ⟨t412, A3, H⟩ := H
 replace H := ib_ H; rcases H with ⟨rfl, H⟩ | ⟨rfl, H⟩
 ·replace H := iq_ H; obtain ⟨c5b0, H⟩ := H
  replace H := iq_ H; obtain ⟨c6b0, H⟩ := H
  simp only [Option.some.injEq, Prod.mk.injEq] at H
  obtain ⟨rfl, rfl, rfl⟩ := H
  obtain ⟨ASz7_0, cSz7_0, ASz7_1, cSz7_1, ASz7_2, cSz7_2, HGz7, hgz7, HSz7_0, HSz7_1, HSz7_2⟩ := HI0.out
  obtain ⟨⟨_, _, _, _, _⟩, _, _, _, _, _⟩ := Op.cells5 HGz7
  clear HGz7 hgz7
  go_enter Tryz.func61, Tryz.ntmps61
  go_wp2_with (first | ((with_reducible refine gf_ 87 ?_); refine gc_ Tryz.func87 (impl_inRange.calls a1 0 (wrap64 ((s0_0.length : Int) - 1)) true _ A3.out) ?_; rintro w' ⟨nd, rfl⟩; have p413 : 0 ≤ (a1 : Int) := of_decide_eq_true ab4; have q413 : a1 < (s0_0.length : Int) := of_decide_eq_true ab4; obtain ⟨ad413, A413_3, c413_3, A413_6, c413_6, e413, hx413_0, hx413_1, hx413_2, hx413_3, hx413_4, hx413_5, hx413_6, hl413_3, hi413_3, hl413_6, hi413_6⟩ := at_T53 HSz7_0 a1 p413 q413; cases e413; replace hx413_0 := pc_ HB hx413_0; replace hx413_1 := pc_ HB hx413_1; replace hx413_2 := pc_ HB hx413_2; replace hx413_3 := pc_ HB hx413_3; replace hx413_4 := pc_ HB hx413_4; replace hx413_5 := pc_ HB hx413_5; replace hx413_6 := pc_ HB hx413_6; have HR413_3 := am hi413_3; have HC413_3 := am hl413_3; clear hi413_3 hl413_3; have HR413_6 := am hi413_6; have HC413_6 := am hl413_6; clear hi413_6 hl413_6; replace p413 := eq_true p413; replace q413 := eq_true q413))
  go_ret
  exact ⟨ab7, by repeat (first | (with_reducible first | exact HI0.out | apply IsS31.alloc | apply IsS31.drewN | apply IsS31.drew | apply IsS31.set_3 | apply IsS31.set_4) | exact HI0.out), ab1, by repeat (first | (with_reducible first | exact HK.out | apply KeepBut.set_ | apply keep_drewN | apply keep_drew | apply keep_alloc) | exact HK.out)⟩
 ·simp only [Option.some.injEq, Prod.mk.injEq] at H
  obtain ⟨rfl, rfl, rfl⟩ := H
  obtain ⟨ASz8_0, cSz8_0, ASz8_1, cSz8_1, ASz8_2, cSz8_2, HGz8, hgz8, HSz8_0, HSz8_1, HSz8_2⟩ := HI0.out
  obtain ⟨⟨_, _, _, _, _⟩, _, _, _, _, _⟩ := Op.cells5 HGz8
  clear HGz8 hgz8
  go_enter Tryz.func61, Tryz.ntmps61
  go_wp2_with (first | ((with_reducible refine gf_ 87 ?_); refine gc_ Tryz.func87 (impl_inRange.calls a1 0 (wrap64 ((s0_0.length : Int) - 1)) false _ A3.out) ?_; rintro w' ⟨nd, rfl⟩))
  go_ret
  exact ⟨ab7, by repeat (first | (with_reducible first | exact HI0.out | apply IsS31.alloc | apply IsS31.drewN | apply IsS31.drew | apply IsS31.set_3 | apply IsS31.set_4) | exact HI0.out), ab1, by repeat (first | (with_reducible first | exact HK.out | apply KeepBut.set_ | apply keep_drewN | apply keep_drew | apply keep_alloc) | exact HK.out)⟩
def slices_Index_int_int.l0 : Nat → List Int → Int → Int → Int → Option (Int)
 | 0, _, _, _, _ => none
 | k + 1, x0, x1, x7, x8 => if x8 < x7 then (if 0 ≤ x8 then (if x8 < (x0.length : Int) then (if x1 = (rd x0 x8) then (some x8) else (slices_Index_int_int.l0 k x0 x1 x7 (wrap64 (x8 + 1)))) else (none)) else (none)) else (some (-1))
def slices_Index_int_int.f (k : Nat) (l0 : List Int) (a1 : Int) : Option (Int) := slices_Index_int_int.l0 k l0 a1 (l0.length : Int) 0
theorem slices_Index_int_int.calls (k : Nat) (A0 : Option Addr) (c0 : Nat) (l0 : List Int) (a1 : Int) (r : Int) (w : World) (hr0 : Kd.C (Kd.int .i64) w A0 l0.length l0) (hc0 : l0.length ≤ c0) (h : slices_Index_int_int.f k l0 a1 = some r) :
  Calls Tryz.prog 62 #[.slice A0 l0.length c0, .int .i64 a1] w fun e w' => e = .returned (.int .i64 r) ∧ Drawn0 w w' := by
 have HR0 := am hr0
 have HC0 := am hc0
 clear hr0 hc0
 have H : (slices_Index_int_int.l0 k l0 a1 (l0.length : Int) 0) = some r := h
 clear h
 have H' := am H
 clear H
 go_enter Tryz.func62, Tryz.ntmps62
 go_wp2
 go_loopg [8] k (fun kq v8 w' => ∃ (x8_1 : Int), v8 = .int .i64 x8_1 ∧ Aside0 (slices_Index_int_int.l0 kq l0 a1 (l0.length : Int) x8_1 = some r) ∧ Aside0 (kq ≤ k) ∧ Drawn0 w w')
 case atStart => exact ⟨(0), ab6, H', ⟨Nat.le_refl _⟩, by repeat (first | exact Drawn0.refl _ | apply Drawn0.step)⟩
 case round =>
  clear H'
  try clear p2
  obtain ⟨x8_1, rfl, HA, HK1, ⟨m1, rfl⟩⟩ := hrel
  cases gk with
  | zero => exact absurd HA.out (by simp [slices_Index_int_int.l0])
  | succ k1 =>
   have H := HA.out
   clear HA
   simp only [slices_Index_int_int.l0] at H
   replace H := ir_ H; rcases H with ⟨c3b0, H⟩ | ⟨c3b0, H⟩
   ·replace H := iq_ H; obtain ⟨c4b0, H⟩ := H
    replace H := iq_ H; obtain ⟨c5b0, H⟩ := H
    replace H := ie_ H; rcases H with ⟨c6b0, c6b1, H⟩ | ⟨c6, c6b0, c6b1, H⟩
    ·obtain rfl := Option.some.inj H
     have p414 : 0 ≤ (x8_1 : Int) := of_decide_eq_true ab4
     have q414 : x8_1 < (l0.length : Int) := of_decide_eq_true ab4
     obtain ⟨ad414, e414, hx414_0⟩ := Kd.at_int HR0.out x8_1 p414 q414
     cases e414
     replace p414 := eq_true p414
     replace q414 := eq_true q414
     go_wp2
     go_ret
     exact ⟨ab6, by repeat (first | exact Drawn0.refl _ | apply Drawn0.step)⟩
    ·have H' := am H
     clear H
     have p414 : 0 ≤ (x8_1 : Int) := of_decide_eq_true ab4
     have q414 : x8_1 < (l0.length : Int) := of_decide_eq_true ab4
     obtain ⟨ad414, e414, hx414_0⟩ := Kd.at_int HR0.out x8_1 p414 q414
     cases e414
     replace p414 := eq_true p414
     replace q414 := eq_true q414
     go_wp2
     go_roundg k1
     case measure => have := HK1.out; omega
     case rel => exact ⟨(wrap64 (x8_1 + 1)), ab6, H', ⟨by have := HK1.out; omega⟩, by repeat (first | exact Drawn0.refl _ | apply Drawn0.step)⟩
   ·obtain rfl := Option.some.inj H
    go_wp2
    go_ret
    exact ⟨ab6, by repeat (first | exact Drawn0.refl _ | apply Drawn0.step)⟩
/-- Three rows of one's own, their blocks in U, none in two of them. -/
def OwnP (w : World) (base : Nat) (U : Nat → Prop) (v0 v1 v2 : Value) (s0 : List S53) (s1 s2 : List Int) : Prop :=
 ∃ P0 P1 P2 : Nat → Prop, Kd.S k53 53 w base P0 v0 s0 ∧ Kd.R (Kd.int .i64) 3 w base P1 v1 s1 ∧ Kd.R (Kd.int .i64) 3 w base P2 v2 s2 ∧ (∀ k, P0 k → U k ∧ ¬ P1 k ∧ ¬ P2 k) ∧ (∀ k, P1 k → U k ∧ ¬ P2 k) ∧ (∀ k, P2 k → U k)
section
variable {w w1 w0 : World} {base g : Nat} {U U' S : Nat → Prop} {v0 v1 v2 : Value} {s0 : List S53} {s1 s2 : List Int} {h b : Int}
theorem OwnP.mono (H : OwnP w base U v0 v1 v2 s0 s1 s2) (hU : ∀ k, U k → U' k) : OwnP w base U' v0 v1 v2 s0 s1 s2 := by
 obtain ⟨P0, P1, P2, h0, h1, h2, d0, d1, d2⟩ := H
 exact ⟨P0, P1, P2, h0, h1, h2, fun k hk => ⟨hU k (d0 k hk).1, (d0 k hk).2⟩, fun k hk => ⟨hU k (d1 k hk).1, (d1 k hk).2⟩, fun k hk => hU k (d2 k hk)⟩
theorem OwnP.kept (H : OwnP w base U v0 v1 v2 s0 s1 s2) (hk : Kept w w1 S) (hS : ∀ k, U k → ¬ S k) : OwnP w1 base U v0 v1 v2 s0 s1 s2 := by
 obtain ⟨P0, P1, P2, h0, h1, h2, d0, d1, d2⟩ := H
 exact ⟨P0, P1, P2, Kd.S_kept h0 hk (fun k q => hS k (d0 k q).1), Kd.R_kept h1 hk (fun k q => hS k (d1 k q).1), Kd.R_kept h2 hk (fun k q => hS k (d2 k q)), d0, d1, d2⟩
theorem OwnP.below (H : OwnP w base U v0 v1 v2 s0 s1 s2) (hb : Below w.heap.size w w1) : OwnP w1 base U v0 v1 v2 s0 s1 s2 := H.kept (Kept.of_below hb (fun _ => False)) (fun _ _ hk => hk)
theorem OwnP.far (H : OwnP w base U v0 v1 v2 s0 s1 s2) {p : Addr} (hp : ∀ k, U k → k ≠ p.block) (u : Value) : OwnP (w.setCell p u) base U v0 v1 v2 s0 s1 s2 :=
 H.kept (Kept.setCell (S := fun k => k = p.block) (Kept.refl w _) (Or.inl rfl) u) (fun k hk => hp k hk)
theorem OwnP.bound (H : OwnP w base U v0 v1 v2 s0 s1 s2) : OwnP w base (fun k => U k ∧ base ≤ k ∧ k < w.heap.size) v0 v1 v2 s0 s1 s2 := by
 obtain ⟨P0, P1, P2, h0, h1, h2, d0, d1, d2⟩ := H
 exact ⟨_, _, _, Kd.S_bound h0, Kd.R_bound h1, Kd.R_bound h2, fun k hk => ⟨⟨(d0 k hk.1).1, hk.2.1, hk.2.2.1⟩, fun h => (d0 k hk.1).2.1 h.1, fun h => (d0 k hk.1).2.2 h.1⟩, fun k hk => ⟨⟨(d1 k hk.1).1, hk.2.1, hk.2.2.1⟩, fun h => (d1 k hk.1).2 h.1⟩, fun k hk => ⟨d2 k hk.1, hk.2.1, hk.2.2.1⟩⟩
theorem OwnP.lower {base' : Nat} (H : OwnP w base U v0 v1 v2 s0 s1 s2) (hb : base' ≤ base) : OwnP w base' U v0 v1 v2 s0 s1 s2 := by
 obtain ⟨P0, P1, P2, h0, h1, h2, d0, d1, d2⟩ := H
 exact ⟨P0, P1, P2, Kd.S_lower h0 hb, Kd.R_lower h1 hb, Kd.R_lower h2 hb, d0, d1, d2⟩
theorem OwnP.slices (H : OwnP w base U v0 v1 v2 s0 s1 s2) : ∃ (A0 : Option Addr) (c0 : Nat) (A1 : Option Addr) (c1 : Nat) (A2 : Option Addr) (c2 : Nat), v0 = .slice A0 s0.length c0 ∧ v1 = .slice A1 s1.length c1 ∧ v2 = .slice A2 s2.length c2 ∧ (s0.length ≤ c0 ∧ Kd.C k53 w A0 s0.length s0) ∧ (s1.length ≤ c1 ∧ Kd.C (Kd.int .i64) w A1 s1.length s1) ∧ (s2.length ≤ c2 ∧ Kd.C (Kd.int .i64) w A2 s2.length s2) := by
 obtain ⟨P0, P1, P2, h0, h1, h2, d0, d1, d2⟩ := H
 obtain ⟨A0, c0, e0, l0, r0⟩ := Kd.S_reads h0
 obtain ⟨A1, c1, e1, l1, r1⟩ := Kd.R_reads h1
 obtain ⟨A2, c2, e2, l2, r2⟩ := Kd.R_reads h2
 exact ⟨A0, c0, A1, c1, A2, c2, e0, e1, e2, ⟨l0, r0⟩, ⟨l1, r1⟩, ⟨l2, r2⟩⟩
theorem OwnP.reads {A0 A1 A2 : Option Addr} {n0 n1 n2 c0 c1 c2 : Nat} (H : OwnP w base U (.slice A0 n0 c0) (.slice A1 n1 c1) (.slice A2 n2 c2) s0 s1 s2) : (n0 = s0.length ∧ n0 ≤ c0 ∧ Kd.C k53 w A0 s0.length s0) ∧ (n1 = s1.length ∧ n1 ≤ c1 ∧ Kd.C (Kd.int .i64) w A1 s1.length s1) ∧ (n2 = s2.length ∧ n2 ≤ c2 ∧ Kd.C (Kd.int .i64) w A2 s2.length s2) := by
 obtain ⟨P0, P1, P2, h0, h1, h2, d0, d1, d2⟩ := H
 obtain ⟨e0, l0, r0⟩ := Kd.S_reads' h0
 obtain ⟨e1, l1, r1⟩ := Kd.R_reads' h1
 obtain ⟨e2, l2, r2⟩ := Kd.R_reads' h2
 subst e0 e1 e2
 exact ⟨⟨rfl, l0, r0⟩, ⟨rfl, l1, r1⟩, ⟨rfl, l2, r2⟩⟩
/-- What a copy's contract tells. -/
theorem OwnP.of_copy (h0 : Kd.S k53 53 w base (fun k_ => some k_ ≠ (v1 : Value).ownBlock ∧ some k_ ≠ (v2 : Value).ownBlock) v0 s0) (h1 : Kd.R (Kd.int .i64) 3 w base (fun k_ => some k_ ≠ (v2 : Value).ownBlock) v1 s1) (h2 : Kd.R (Kd.int .i64) 3 w base (fun k_ => some k_ ≠ (v1 : Value).ownBlock) v2 s2) : OwnP w base (fun k => base ≤ k ∧ k < w.heap.size) v0 v1 v2 s0 s1 s2 := by
 refine ⟨_, _, _, Kd.S_bound h0, Kd.R_bound (Kd.R_tight rfl h1), Kd.R_bound (Kd.R_tight rfl h2), fun k hk => ⟨⟨hk.2.1, hk.2.2.1⟩, fun h => hk.1.1 h.1, fun h => hk.1.2 h.1⟩, fun k hk => ⟨⟨hk.2.1, hk.2.2.1⟩, fun h => ?_⟩, fun k hk => ⟨hk.2.1, hk.2.2.1⟩⟩
 exact h1.1 k hk.1.symm h.1
theorem OwnP.to_copy (H : OwnP w base U v0 v1 v2 s0 s1 s2) : Kd.S k53 53 w base (fun k_ => some k_ ≠ (v1 : Value).ownBlock ∧ some k_ ≠ (v2 : Value).ownBlock) v0 s0 ∧ Kd.R (Kd.int .i64) 3 w base (fun k_ => some k_ ≠ (v2 : Value).ownBlock) v1 s1 ∧ Kd.R (Kd.int .i64) 3 w base (fun k_ => some k_ ≠ (v1 : Value).ownBlock) v2 s2 := by
 obtain ⟨P0, P1, P2, h0, h1, h2, d0, d1, d2⟩ := H
 refine ⟨Kd.S_mono h0 (fun k hk => ⟨fun e => (d0 k hk).2.1 (h1.1 k e.symm), fun e => (d0 k hk).2.2 (h2.1 k e.symm)⟩), Kd.R_mono h1 (fun k hk e => (d1 k hk).2 (h2.1 k e.symm)), Kd.R_mono h2 (fun k hk e => (d1 k (h1.1 k e.symm)).2 hk)⟩
/-- The first row changed by a call that writes its blocks and new ones alone. -/
theorem OwnP.items (H : OwnP w base U v0 v1 v2 s0 s1 s2) : ∃ P0 : Nat → Prop, (∀ k, P0 k → U k) ∧ Kd.S k53 53 w base P0 v0 s0 ∧ ∀ (w1 : World) (v0' : Value) (s0' : List S53), Kd.S k53 53 w1 base (fun k => P0 k ∨ w.heap.size ≤ k) v0' s0' → Kept w w1 P0 → OwnP w1 base (fun k => U k ∨ w.heap.size ≤ k) v0' v1 v2 s0' s1 s2 := by
 obtain ⟨P0, P1, P2, h0, h1, h2, d0, d1, d2⟩ := H
 refine ⟨P0, fun k hk => (d0 k hk).1, h0, fun w1 v0' s0' hs hk => ?_⟩
 refine ⟨_, _, _, hs, Kd.R_kept (Kd.R_bound h1) hk (fun k q q0 => (d0 k q0).2.1 q.1), Kd.R_kept (Kd.R_bound h2) hk (fun k q q0 => (d0 k q0).2.2 q.1), ?_, ?_, ?_⟩
 ·rintro k (q | q)
  ·exact ⟨Or.inl (d0 k q).1, fun h => (d0 k q).2.1 h.1, fun h => (d0 k q).2.2 h.1⟩
  ·exact ⟨Or.inr q, fun h => Nat.lt_irrefl _ (Nat.lt_of_lt_of_le h.2.2.1 q), fun h => Nat.lt_irrefl _ (Nat.lt_of_lt_of_le h.2.2.1 q)⟩
 ·exact fun k q => ⟨Or.inl (d1 k q.1).1, fun h => (d1 k q.1).2 h.1⟩
 ·exact fun k q => Or.inl (d2 k q.1)
/-- The same, the second row. -/
theorem OwnP.open_ (H : OwnP w base U v0 v1 v2 s0 s1 s2) : ∃ P1 : Nat → Prop, (∀ k, P1 k → U k) ∧ Kd.R (Kd.int .i64) 3 w base P1 v1 s1 ∧ ∀ (w1 : World) (v1' : Value) (s1' : List Int), Kd.R (Kd.int .i64) 3 w1 base (fun k => P1 k ∨ w.heap.size ≤ k) v1' s1' → Kept w w1 P1 → OwnP w1 base (fun k => U k ∨ w.heap.size ≤ k) v0 v1' v2 s0 s1' s2 := by
 obtain ⟨P0, P1, P2, h0, h1, h2, d0, d1, d2⟩ := H
 refine ⟨P1, fun k hk => (d1 k hk).1, h1, fun w1 v1' s1' hs hk => ?_⟩
 refine ⟨_, _, _, Kd.S_kept (Kd.S_bound h0) hk (fun k q q0 => (d0 k q.1).2.1 q0), hs, Kd.R_kept (Kd.R_bound h2) hk (fun k q q0 => (d1 k q0).2 q.1), ?_, ?_, ?_⟩
 ·refine fun k q => ⟨Or.inl (d0 k q.1).1, ?_, fun h => (d0 k q.1).2.2 h.1⟩
  rintro (h | h)
  ·exact (d0 k q.1).2.1 h
  ·exact Nat.lt_irrefl _ (Nat.lt_of_lt_of_le q.2.2.1 h)
 ·rintro k (q | q)
  ·exact ⟨Or.inl (d1 k q).1, fun h => (d1 k q).2 h.1⟩
  ·exact ⟨Or.inr q, fun h => Nat.lt_irrefl _ (Nat.lt_of_lt_of_le h.2.2.1 q)⟩
 ·exact fun k q => Or.inl (d2 k q.1)
/-- The same, the third row. -/
theorem OwnP.forms (H : OwnP w base U v0 v1 v2 s0 s1 s2) : ∃ P2 : Nat → Prop, (∀ k, P2 k → U k) ∧ Kd.R (Kd.int .i64) 3 w base P2 v2 s2 ∧ ∀ (w1 : World) (v2' : Value) (s2' : List Int), Kd.R (Kd.int .i64) 3 w1 base (fun k => P2 k ∨ w.heap.size ≤ k) v2' s2' → Kept w w1 P2 → OwnP w1 base (fun k => U k ∨ w.heap.size ≤ k) v0 v1 v2' s0 s1 s2' := by
 obtain ⟨P0, P1, P2, h0, h1, h2, d0, d1, d2⟩ := H
 refine ⟨P2, d2, h2, fun w1 v2' s2' hs hk => ?_⟩
 refine ⟨_, _, _, Kd.S_kept (Kd.S_bound h0) hk (fun k q q0 => (d0 k q.1).2.2 q0), Kd.R_kept (Kd.R_bound h1) hk (fun k q q0 => (d1 k q.1).2 q0), hs, ?_, ?_, ?_⟩
 ·refine fun k q => ⟨Or.inl (d0 k q.1).1, fun h => (d0 k q.1).2.1 h.1, ?_⟩
  rintro (h | h)
  ·exact (d0 k q.1).2.2 h
  ·exact Nat.lt_irrefl _ (Nat.lt_of_lt_of_le q.2.2.1 h)
 ·refine fun k q => ⟨Or.inl (d1 k q.1).1, ?_⟩
  rintro (h | h)
  ·exact (d1 k q.1).2 h
  ·exact Nat.lt_irrefl _ (Nat.lt_of_lt_of_le q.2.2.1 h)
 ·rintro k (q | q)
  ·exact Or.inl (d2 k q)
  ·exact Or.inr q
/-- A page stored whole into a box. -/
theorem set5_blk {t : TypeId} {a0 a1 a2 a3 a4 u0 u1 u2 u3 u4 : Value} (H : w.heap[g]? = some (.cells #[a0, a1, a2, a3, a4] t (0, 0))) :
  (((((w.setCell ⟨g, 0, none⟩ u0).setCell ⟨g, 1, none⟩ u1).setCell ⟨g, 2, none⟩ u2).setCell ⟨g, 3, none⟩ u3).setCell ⟨g, 4, none⟩ u4).heap[g]? = some (.cells #[u0, u1, u2, u3, u4] t (0, 0)) := by
 have h0 := blk_put H 0 u0 (cs' := #[u0, a1, a2, a3, a4]) rfl
 have h1 := blk_put h0 1 u1 (cs' := #[u0, u1, a2, a3, a4]) rfl
 have h2 := blk_put h1 2 u2 (cs' := #[u0, u1, u2, a3, a4]) rfl
 have h3 := blk_put h2 3 u3 (cs' := #[u0, u1, u2, u3, a4]) rfl
 exact blk_put h3 4 u4 rfl
theorem set5_kept (w : World) (g : Nat) (u0 u1 u2 u3 u4 : Value) : Kept w (((((w.setCell ⟨g, 0, none⟩ u0).setCell ⟨g, 1, none⟩ u1).setCell ⟨g, 2, none⟩ u2).setCell ⟨g, 3, none⟩ u3).setCell ⟨g, 4, none⟩ u4) (fun k => k = g) :=
 Kept.setCell (p := ⟨g, 4, none⟩) (Kept.setCell (p := ⟨g, 3, none⟩) (Kept.setCell (p := ⟨g, 2, none⟩) (Kept.setCell (p := ⟨g, 1, none⟩) (Kept.setCell (p := ⟨g, 0, none⟩) (Kept.refl w (fun k => k = g)) (Or.inl rfl) u0) (Or.inl rfl) u1) (Or.inl rfl) u2) (Or.inl rfl) u3) (Or.inl rfl) u4
theorem set5_below {u0 u1 u2 u3 u4 : Value} (H : Below w0.heap.size w0 w) (hg : w0.heap.size ≤ g) : Below w0.heap.size w0 (((((w.setCell ⟨g, 0, none⟩ u0).setCell ⟨g, 1, none⟩ u1).setCell ⟨g, 2, none⟩ u2).setCell ⟨g, 3, none⟩ u3).setCell ⟨g, 4, none⟩ u4) :=
 below_set (below_set (below_set (below_set (below_set H hg) hg) hg) hg) hg
/-- An item stored whole into a box. -/
theorem set7_blk {t : TypeId} {a0 a1 a2 a3 a4 a5 a6 u0 u1 u2 u3 u4 u5 u6 : Value} (H : w.heap[g]? = some (.cells #[a0, a1, a2, a3, a4, a5, a6] t (0, 0))) :
  (((((((w.setCell ⟨g, 0, none⟩ u0).setCell ⟨g, 1, none⟩ u1).setCell ⟨g, 2, none⟩ u2).setCell ⟨g, 3, none⟩ u3).setCell ⟨g, 4, none⟩ u4).setCell ⟨g, 5, none⟩ u5).setCell ⟨g, 6, none⟩ u6).heap[g]? = some (.cells #[u0, u1, u2, u3, u4, u5, u6] t (0, 0)) := by
 have h0 := blk_put H 0 u0 (cs' := #[u0, a1, a2, a3, a4, a5, a6]) rfl
 have h1 := blk_put h0 1 u1 (cs' := #[u0, u1, a2, a3, a4, a5, a6]) rfl
 have h2 := blk_put h1 2 u2 (cs' := #[u0, u1, u2, a3, a4, a5, a6]) rfl
 have h3 := blk_put h2 3 u3 (cs' := #[u0, u1, u2, u3, a4, a5, a6]) rfl
 have h4 := blk_put h3 4 u4 (cs' := #[u0, u1, u2, u3, u4, a5, a6]) rfl
 have h5 := blk_put h4 5 u5 (cs' := #[u0, u1, u2, u3, u4, u5, a6]) rfl
 exact blk_put h5 6 u6 rfl
theorem set7_below {u0 u1 u2 u3 u4 u5 u6 : Value} (H : Below w0.heap.size w0 w) (hg : w0.heap.size ≤ g) : Below w0.heap.size w0 (((((((w.setCell ⟨g, 0, none⟩ u0).setCell ⟨g, 1, none⟩ u1).setCell ⟨g, 2, none⟩ u2).setCell ⟨g, 3, none⟩ u3).setCell ⟨g, 4, none⟩ u4).setCell ⟨g, 5, none⟩ u5).setCell ⟨g, 6, none⟩ u6) :=
 below_set (below_set (below_set (below_set (below_set (below_set (below_set H hg) hg) hg) hg) hg) hg) hg
/-- A box's cells, and that none is frozen. -/
theorem cl5 {t : TypeId} {a b c d e : Value} (H : Aside0 (w.heap[g]? = some (.cells #[a, b, c, d, e] t (0, 0)))) : w.cell? ⟨g, 0, none⟩ = some a ∧ w.cell? ⟨g, 1, none⟩ = some b ∧ w.cell? ⟨g, 2, none⟩ = some c ∧ w.cell? ⟨g, 3, none⟩ = some d ∧ w.cell? ⟨g, 4, none⟩ = some e :=
 ⟨(blk_cell H.out 0).trans rfl, (blk_cell H.out 1).trans rfl, (blk_cell H.out 2).trans rfl, (blk_cell H.out 3).trans rfl, (blk_cell H.out 4).trans rfl⟩
theorem cl7 {t : TypeId} {a b c d e f h : Value} (H : Aside0 (w.heap[g]? = some (.cells #[a, b, c, d, e, f, h] t (0, 0)))) : w.cell? ⟨g, 0, none⟩ = some a ∧ w.cell? ⟨g, 1, none⟩ = some b ∧ w.cell? ⟨g, 2, none⟩ = some c ∧ w.cell? ⟨g, 3, none⟩ = some d ∧ w.cell? ⟨g, 4, none⟩ = some e ∧ w.cell? ⟨g, 5, none⟩ = some f ∧ w.cell? ⟨g, 6, none⟩ = some h :=
 ⟨(blk_cell H.out 0).trans rfl, (blk_cell H.out 1).trans rfl, (blk_cell H.out 2).trans rfl, (blk_cell H.out 3).trans rfl, (blk_cell H.out 4).trans rfl, (blk_cell H.out 5).trans rfl, (blk_cell H.out 6).trans rfl⟩
theorem fz5 {t : TypeId} {cs : Array Value} (H : Aside0 (w.heap[g]? = some (.cells cs t (0, 0)))) : w.frozen? ⟨g, 0, none⟩ = false ∧ w.frozen? ⟨g, 1, none⟩ = false ∧ w.frozen? ⟨g, 2, none⟩ = false ∧ w.frozen? ⟨g, 3, none⟩ = false ∧ w.frozen? ⟨g, 4, none⟩ = false :=
 ⟨blk_frozen H.out 0, blk_frozen H.out 1, blk_frozen H.out 2, blk_frozen H.out 3, blk_frozen H.out 4⟩
theorem fz7 {t : TypeId} {cs : Array Value} (H : Aside0 (w.heap[g]? = some (.cells cs t (0, 0)))) : w.frozen? ⟨g, 0, none⟩ = false ∧ w.frozen? ⟨g, 1, none⟩ = false ∧ w.frozen? ⟨g, 2, none⟩ = false ∧ w.frozen? ⟨g, 3, none⟩ = false ∧ w.frozen? ⟨g, 4, none⟩ = false ∧ w.frozen? ⟨g, 5, none⟩ = false ∧ w.frozen? ⟨g, 6, none⟩ = false :=
 ⟨blk_frozen H.out 0, blk_frozen H.out 1, blk_frozen H.out 2, blk_frozen H.out 3, blk_frozen H.out 4, blk_frozen H.out 5, blk_frozen H.out 6⟩
/-- Whole stores, by what they leave. -/
abbrev st5 (w : World) (g : Nat) (u0 u1 u2 u3 u4 : Value) : World := ((((w.setCell ⟨g, 0, none⟩ u0).setCell ⟨g, 1, none⟩ u1).setCell ⟨g, 2, none⟩ u2).setCell ⟨g, 3, none⟩ u3).setCell ⟨g, 4, none⟩ u4
abbrev st7 (w : World) (g : Nat) (u0 u1 u2 u3 u4 u5 u6 : Value) : World := ((((((w.setCell ⟨g, 0, none⟩ u0).setCell ⟨g, 1, none⟩ u1).setCell ⟨g, 2, none⟩ u2).setCell ⟨g, 3, none⟩ u3).setCell ⟨g, 4, none⟩ u4).setCell ⟨g, 5, none⟩ u5).setCell ⟨g, 6, none⟩ u6
section
variable {W : World} {g' : Nat} {o : Obj} {u0 u1 u2 u3 u4 u5 u6 : Value} {t : TypeId}
theorem kS5 (hw : W = st5 w g u0 u1 u2 u3 u4) (B : Aside0 (w.heap[g']? = some o)) (n : g' ≠ g) : Aside0 (W.heap[g']? = some o) := ⟨by rw [hw]; exact blk_kept B.out (set5_kept _ _ _ _ _ _ _) n⟩
theorem sS5 {a0 a1 a2 a3 a4 : Value} (hw : W = st5 w g u0 u1 u2 u3 u4) (B : Aside0 (w.heap[g]? = some (.cells #[a0, a1, a2, a3, a4] t (0, 0)))) : Aside0 (W.heap[g]? = some (.cells #[u0, u1, u2, u3, u4] t (0, 0))) := ⟨by rw [hw]; exact set5_blk B.out⟩
theorem bS5 (hw : W = st5 w g u0 u1 u2 u3 u4) (B : Aside0 (Below w0.heap.size w0 w)) (n : w0.heap.size ≤ g) : Aside0 (Below w0.heap.size w0 W) := ⟨by rw [hw]; exact set5_below B.out n⟩
theorem pS5 (hw : W = st5 w g u0 u1 u2 u3 u4) (H : Aside0 (OwnP w base U v0 v1 v2 s0 s1 s2)) (n : ∀ k, U k → ¬ k = g) : Aside0 (OwnP W base U v0 v1 v2 s0 s1 s2) := ⟨by rw [hw]; exact H.out.kept (set5_kept _ _ _ _ _ _ _) n⟩
theorem zS5 (hw : W = st5 w g u0 u1 u2 u3 u4) : w.heap.size ≤ W.heap.size := by rw [hw]; exact (set5_kept w g u0 u1 u2 u3 u4).1
theorem sS7 {a0 a1 a2 a3 a4 a5 a6 : Value} (hw : W = st7 w g u0 u1 u2 u3 u4 u5 u6) (B : Aside0 (w.heap[g]? = some (.cells #[a0, a1, a2, a3, a4, a5, a6] t (0, 0)))) : Aside0 (W.heap[g]? = some (.cells #[u0, u1, u2, u3, u4, u5, u6] t (0, 0))) := ⟨by rw [hw]; exact set7_blk B.out⟩
theorem bS7 (hw : W = st7 w g u0 u1 u2 u3 u4 u5 u6) (B : Aside0 (Below w0.heap.size w0 w)) (n : w0.heap.size ≤ g) : Aside0 (Below w0.heap.size w0 W) := ⟨by rw [hw]; exact set7_below B.out n⟩
theorem kS1 {p : Addr} {cs : Array Value} (hw : W = w.setCell p u0) (B : Aside0 (w.heap[g']? = some (.cells cs t (0, 0)))) (n : g' ≠ p.block) : Aside0 (W.heap[g']? = some (.cells cs t (0, 0))) := ⟨by rw [hw]; exact blk_far B.out n _⟩
theorem bS1 {j : Nat} (hw : W = w.setCell ⟨g, j, none⟩ u0) (B : Aside0 (Below w0.heap.size w0 w)) (n : w0.heap.size ≤ g) : Aside0 (Below w0.heap.size w0 W) := ⟨by rw [hw]; exact below_set B.out n⟩
theorem pS1 {p : Addr} (hw : W = w.setCell p u0) (H : Aside0 (OwnP w base U v0 v1 v2 s0 s1 s2)) (n : ∀ k, U k → k ≠ p.block) : Aside0 (OwnP W base U v0 v1 v2 s0 s1 s2) := ⟨by rw [hw]; exact H.out.far n _⟩
theorem bb {w1 : World} (B : Aside0 (w.heap[g]? = some o)) (hb : Below w.heap.size w w1) : Aside0 (w1.heap[g]? = some o) := ⟨blk_below B.out hb⟩
theorem ob {w1 : World} (H : Aside0 (OwnP w base U v0 v1 v2 s0 s1 s2)) (hb : Below w.heap.size w w1) : Aside0 (OwnP w1 base U v0 v1 v2 s0 s1 s2) := ⟨H.out.below hb⟩
theorem xb {w1 : World} (H : Aside0 (Below w0.heap.size w0 w)) (hb : Below w.heap.size w w1) : Aside0 (Below w0.heap.size w0 w1) := ⟨below_step H.out hb⟩
theorem gE (H : Aside0 (Below w0.heap.size w0 w)) (hg : g = w.heap.size) : Aside0 (w0.heap.size ≤ g) := ⟨by rw [hg]; exact below_size H.out⟩
theorem nE (B : Aside0 (w.heap[g']? = some o)) (hg : g = w.heap.size) : Aside0 (g' ≠ g) := ⟨by rw [hg]; exact Nat.ne_of_lt (blk_lt B.out)⟩
theorem oadd {p q : Prop} (H : Aside0 p) (h : q) : Aside0 (p ∧ q) := ⟨⟨H.out, h⟩⟩
end
section
variable {P : Program} {md : Region.Mode} {ops : Array Oper} {Q : Exit → Act → World → Prop} {S : World → Prop} {ds : List Nat} {fuel : Nat} {l l' : Array Bool} {a a' : Act} {oi : Oper} {v : Value} {W : World}
/-- A region's steps in short: an operation that yields in every world; one that reads what is held; the act written out. -/
theorem pk_ (i n : Nat) (h : wpAnyLast P md ops Q S ds fuel l' a' W) (hi : ops[i]? = some oi := by rfl) (hN : oi.dst = some n := by rfl)
  (hl : l.setIfInBounds i true = l' := by simp only [List.setIfInBounds_toArray, List.set_cons_zero, List.set_cons_succ]; rfl) (hc : anyB md ops l l' i = true := by kernel_rfl)
  (hy : Yields P ops oi v a := by exact Or.inl ⟨by rfl, by intro w'; go_simp; with_reducible rfl⟩)
  (ha : a.put (some n) v = a' := by simp only [Act.put, List.setIfInBounds_toArray, List.set_cons_zero, List.set_cons_succ, i64_w, i32_w]; rfl)
  (hQ : ∀ c a w, Q (.panic c) (a.put oi.dst v) w → Q (.panic c) a w := by exact fun _ _ _ h => h) : wpAnyLast P md ops Q S ds (fuel + 1) l a W := pure_ l' hi hN hc hQ hy ha h
theorem tk2_ (i n : Nat) (hS : S W) (h : wpAnyLast P md ops Q S ds fuel l' a' W) (hi : ops[i]? = some oi := by rfl) (hN : oi.dst = some n := by rfl)
  (hl : l.setIfInBounds i true = l' := by simp only [List.setIfInBounds_toArray, List.set_cons_zero, List.set_cons_succ]; rfl) (hc : takeB md ops ds l l' i = true := by kernel_rfl)
  (hy : YieldsIf P ops S oi v a := by exact Or.inl ⟨by rfl, by intro w' hs_; obtain ⟨hA_, hB_⟩ := hs_; (first | obtain ⟨_, _, _, _, _⟩ := cl5 ⟨hA_⟩ | obtain ⟨_, _, _, _, _, _, _⟩ := cl7 ⟨hA_⟩); (first | obtain ⟨_, _, _, _, _⟩ := cl5 ⟨hB_⟩ | obtain ⟨_, _, _, _, _, _, _⟩ := cl7 ⟨hB_⟩); go_simp; with_reducible rfl⟩)
  (ha : a.put (some n) v = a' := by simp only [Act.put, List.setIfInBounds_toArray, List.set_cons_zero, List.set_cons_succ, i64_w, i32_w]; rfl)
  (hQ : ∀ c a w, Q (.panic c) (a.put oi.dst v) w → Q (.panic c) a w := by exact fun _ _ _ h => h) : wpAnyLast P md ops Q S ds (fuel + 1) l a W := take_ l' hi hN hc hQ hy hS ha h
theorem tk3_ (i n : Nat) (hS : S W) (h : wpAnyLast P md ops Q S ds fuel l' a' W) (hi : ops[i]? = some oi := by rfl) (hN : oi.dst = some n := by rfl)
  (hl : l.setIfInBounds i true = l' := by simp only [List.setIfInBounds_toArray, List.set_cons_zero, List.set_cons_succ]; rfl) (hc : takeB md ops ds l l' i = true := by kernel_rfl)
  (hy : YieldsIf P ops S oi v a := by exact Or.inl ⟨by rfl, by intro w' hs_; (repeat (have s_ := And.left hs_; replace hs_ := And.right hs_)); go_simp; with_reducible rfl⟩)
  (ha : a.put (some n) v = a' := by simp only [Act.put, List.setIfInBounds_toArray, List.set_cons_zero, List.set_cons_succ, i64_w, i32_w]; rfl)
  (hQ : ∀ c a w, Q (.panic c) (a.put oi.dst v) w → Q (.panic c) a w := by exact fun _ _ _ h => h) : wpAnyLast P md ops Q S ds (fuel + 1) l a W := take_ l' hi hN hc hQ hy hS ha h
theorem nk_ (n : Nat) {d : Option Tmp} (h : wpAnyLast P md ops Q S ds fuel l a' W) (hd : d = some n := by rfl)
  (ha : a.put (some n) v = a' := by simp only [Act.put, List.setIfInBounds_toArray, List.set_cons_zero, List.set_cons_succ, i64_w, i32_w]; rfl) : wpAnyLast P md ops Q S ds fuel l (a.put d v) W := by
 subst hd; exact norm_ ha h
end
/-- Blocks made in a time. -/
def Bt (a b k : Nat) : Prop := a ≤ k ∧ k < b
/-- A page in a box of one's own. -/
def PgS (base : Nat) (w : World) (U : Nat → Prop) (g : Nat) (s0 : List S53) (s1 s2 : List Int) (h b : Int) : Prop :=
 ∃ v0 v1 v2 : Value, w.heap[g]? = some (.cells #[v0, v1, v2, .int .i64 h, .int .i64 b] 31 (0, 0)) ∧ base ≤ g ∧ (∀ k, U k → k ≠ g) ∧ OwnP w base U v0 v1 v2 s0 s1 s2
theorem PgS.isS (H : PgS base w U g s0 s1 s2 h b) : IsS31 w w g s0 s1 s2 h b := by
 obtain ⟨v0, v1, v2, hg, hb, hu, ho⟩ := H
 obtain ⟨A0, c0, A1, c1, A2, c2, rfl, rfl, rfl, ⟨l0, r0⟩, ⟨l1, r1⟩, ⟨l2, r2⟩⟩ := ho.slices
 exact ⟨A0, c0, A1, c1, A2, c2, hg, ⟨trivial, l0, l1, l2⟩, r0, r1, r2⟩
theorem PgS.below (H : PgS base w U g s0 s1 s2 h b) (hb : Below w.heap.size w w1) : PgS base w1 U g s0 s1 s2 h b := by
 obtain ⟨v0, v1, v2, hg, hb', hu, ho⟩ := H
 exact ⟨v0, v1, v2, blk_below hg hb, hb', hu, ho.below hb⟩
theorem PgS.mono (H : PgS base w U g s0 s1 s2 h b) (hU : ∀ k, U k → U' k) (hg : ∀ k, U' k → k ≠ g) : PgS base w U' g s0 s1 s2 h b := by
 obtain ⟨v0, v1, v2, hg', hb', hu, ho⟩ := H
 exact ⟨v0, v1, v2, hg', hb', hg, ho.mono hU⟩
theorem PgS.lt (H : PgS base w U g s0 s1 s2 h b) : g < w.heap.size := by
 obtain ⟨v0, v1, v2, hg', hb', hu, ho⟩ := H
 exact blk_lt hg'
end
def laws_markPage.f (k : Nat) (s0 : List S53) (s1 s2 : List Int) (a1 : Int) : Option (Int × List S53 × List Int × List Int) :=
 (laws_markItemS.g k s0 a1).bind fun t => (laws_markIntS.f k s1 t.1).bind fun u => (laws_markIntS.f k s2 u.1).bind fun v => some (v.1, t.2, u.2, v.2)
theorem laws_markPage.calls (k : Nat) (U : Nat → Prop) (v0 v1 v2 : Value) (s0 : List S53) (s1 s2 : List Int) (h b a1 : Int) (r : Int) (r0 : List S53) (r1 r2 : List Int) (w0 w : World) (hB : Below w0.heap.size w0 w) (hO : OwnP w w0.heap.size U v0 v1 v2 s0 s1 s2) (H : laws_markPage.f k s0 s1 s2 a1 = some (r, r0, r1, r2)) :
  Calls Tryz.prog 14 #[.agg #[v0, v1, v2, .int .i64 h, .int .i64 b], .int .i64 a1] w fun e w' => e = .returned (.int .i64 r) ∧ OwnP w' w0.heap.size (fun k => U k ∨ w.heap.size ≤ k) v0 v1 v2 r0 r1 r2 ∧ Below w0.heap.size w0 w' ∧ Kept w w' U := by
 unfold laws_markPage.f at H
 obtain ⟨⟨t, t0⟩, ht, H⟩ := Option.bind_eq_some_iff.mp H
 obtain ⟨⟨u, u1⟩, hu, H⟩ := Option.bind_eq_some_iff.mp H
 obtain ⟨⟨v, v2_⟩, hv, H⟩ := Option.bind_eq_some_iff.mp H
 simp only [Option.some.injEq, Prod.mk.injEq] at H
 obtain ⟨rfl, rfl, rfl, rfl⟩ := H
 dsimp only at hu hv
 obtain ⟨A0, c0, A1, c1, A2, c2, rfl, rfl, rfl, _, _, _⟩ := hO.slices
 have HB := am hB
 have HO := am (hO.bound.mono (U' := fun k => U k ∧ k < w.heap.size) (fun k hk => ⟨hk.1, hk.2.2⟩))
 have HX := am (Below.refl w.heap.size w)
 have AT := am ht
 have AU := am hu
 have AV := am hv
 clear hB hO ht hu hv
 go_enter Tryz.func14, Tryz.ntmps14
 go_wp2_with (first | ((with_reducible refine gd_ 2 ?_); refine bx_ 2 (cs := #[.slice A0 s0.length c0, .slice A1 s1.length c1, .slice A2 s2.length c2, .int .i64 h, .int .i64 b]) 31 ?_; intro gbp hg wp hbox hb; have GE := am (show w.heap.size ≤ gbp by rw [hg]; exact Nat.le_refl _); replace HO := am (HO.out.below hb); replace HB := am (below_step HB.out hb); have HK := am (Kept.of_below hb U); have BKp := am hbox; have LW := am (show w.heap.size ≤ wp.heap.size from hb.size); have LPa := am (blk_lt hbox); clear HX hb hbox hg; have hca0 : wp.cell? ⟨gbp, 0, none⟩ = some (.slice A0 s0.length c0) := (blk_cell BKp.out 0).trans rfl; have hca1 : wp.cell? ⟨gbp, 1, none⟩ = some (.slice A1 s1.length c1) := (blk_cell BKp.out 1).trans rfl; have hca2 : wp.cell? ⟨gbp, 2, none⟩ = some (.slice A2 s2.length c2) := (blk_cell BKp.out 2).trans rfl; have hca3 : wp.cell? ⟨gbp, 3, none⟩ = some (.int .i64 h) := (blk_cell BKp.out 3).trans rfl; have hca4 : wp.cell? ⟨gbp, 4, none⟩ = some (.int .i64 b) := (blk_cell BKp.out 4).trans rfl) | ((with_reducible refine gate_callee (f := 38) rfl ?_); refine goesL_ (some 8) rfl rfl Tryz.func38 (by kernel_rfl) rfl #[.slice A0 s0.length c0, .int .i64 a1] rfl ab5 ?_; obtain ⟨P_, hP_, h_, hback_⟩ := OwnP.items HO.out; (refine (laws_markItemS.calls_g k P_ _ s0 a1 t t0 w0 _ HB.out h_ AT.out).mono ?_); rintro e wa ⟨rfl, hs_, hb_, hk_⟩; refine ⟨_, rfl, ?_⟩; have HO2 := am (hback_ _ _ _ hs_ hk_); have LWa := am (Nat.le_trans LW.out hk_.1); have LPb := am (Nat.lt_of_lt_of_le LPa.out hk_.1); replace BKp := am (blk_kept BKp.out hk_ (fun q_ => by have h1_ := (hP_ _ q_).2; have h2_ := GE.out; omega)); replace HK := am (Kept.then_ HK.out hk_ (fun k_ q_ => Or.inl (hP_ _ q_).1)); replace HB := am hb_; clear HO; have HO := HO2; clear HO2 h_ hback_ hs_ hb_ hk_ hP_ hca0 hca1 hca2 hca3 hca4; have hcb0 : wa.cell? ⟨gbp, 0, none⟩ = some (.slice A0 s0.length c0) := (blk_cell BKp.out 0).trans rfl; have hcb1 : wa.cell? ⟨gbp, 1, none⟩ = some (.slice A1 s1.length c1) := (blk_cell BKp.out 1).trans rfl; have hcb2 : wa.cell? ⟨gbp, 2, none⟩ = some (.slice A2 s2.length c2) := (blk_cell BKp.out 2).trans rfl; have hcb3 : wa.cell? ⟨gbp, 3, none⟩ = some (.int .i64 h) := (blk_cell BKp.out 3).trans rfl; have hcb4 : wa.cell? ⟨gbp, 4, none⟩ = some (.int .i64 b) := (blk_cell BKp.out 4).trans rfl) | ((with_reducible refine gate_callee (f := 39) rfl ?_); refine goesL_ (some 12) rfl rfl Tryz.func39 (by kernel_rfl) rfl #[.slice A1 s1.length c1, .int .i64 t] rfl ab5 ?_; obtain ⟨P_, hP_, h_, hback_⟩ := OwnP.open_ HO.out; (refine (laws_markIntS.calls k P_ _ s1 t u u1 w0 _ HB.out h_ AU.out).mono ?_); rintro e wb ⟨rfl, hs_, hb_, hk_⟩; refine ⟨_, rfl, ?_⟩; have HO2 := am (hback_ _ _ _ hs_ hk_); have LWb := am (Nat.le_trans LWa.out hk_.1); replace BKp := am (blk_kept BKp.out hk_ (fun q_ => by have h2_ := GE.out; have h3_ := LPa.out; rcases hP_ _ q_ with h1_ | h1_; (have := h1_.2; omega); omega)); replace HK := am (Kept.then_ HK.out hk_ (fun k_ q_ => (hP_ _ q_).elim (fun z_ => Or.inl z_.1) (fun z_ => Or.inr (Nat.le_trans LW.out z_)))); replace HB := am hb_; clear HO; have HO := HO2; clear HO2 h_ hback_ hs_ hb_ hk_ hP_ hcb0 hcb1 hcb2 hcb3 hcb4; have hcc0 : wb.cell? ⟨gbp, 0, none⟩ = some (.slice A0 s0.length c0) := (blk_cell BKp.out 0).trans rfl; have hcc1 : wb.cell? ⟨gbp, 1, none⟩ = some (.slice A1 s1.length c1) := (blk_cell BKp.out 1).trans rfl; have hcc2 : wb.cell? ⟨gbp, 2, none⟩ = some (.slice A2 s2.length c2) := (blk_cell BKp.out 2).trans rfl; have hcc3 : wb.cell? ⟨gbp, 3, none⟩ = some (.int .i64 h) := (blk_cell BKp.out 3).trans rfl; have hcc4 : wb.cell? ⟨gbp, 4, none⟩ = some (.int .i64 b) := (blk_cell BKp.out 4).trans rfl) | ((with_reducible refine gate_callee (f := 39) rfl ?_); refine goesL_ (some 16) rfl rfl Tryz.func39 (by kernel_rfl) rfl #[.slice A2 s2.length c2, .int .i64 u] rfl ab5 ?_; obtain ⟨P_, hP_, h_, hback_⟩ := OwnP.forms HO.out; (refine (laws_markIntS.calls k P_ _ s2 u v v2_ w0 _ HB.out h_ AV.out).mono ?_); rintro e wc ⟨rfl, hs_, hb_, hk_⟩; refine ⟨_, rfl, ?_⟩; have HO2 := am (hback_ _ _ _ hs_ hk_); replace BKp := am (blk_kept BKp.out hk_ (fun q_ => by have h2_ := GE.out; have h3_ := LPa.out; have h4_ := LPb.out; rcases hP_ _ q_ with (h1_ | h1_) | h1_; (have := h1_.2; omega); omega; omega)); replace HK := am (Kept.then_ HK.out hk_ (fun k_ q_ => (hP_ _ q_).elim (fun z_ => z_.elim (fun z_ => Or.inl z_.1) (fun z_ => Or.inr (Nat.le_trans LW.out z_))) (fun z_ => Or.inr (Nat.le_trans LWa.out z_)))); replace HB := am hb_; clear HO; have HO := HO2; clear HO2 h_ hback_ hs_ hb_ hk_ hP_ hcc0 hcc1 hcc2 hcc3 hcc4; have hcd0 : wc.cell? ⟨gbp, 0, none⟩ = some (.slice A0 s0.length c0) := (blk_cell BKp.out 0).trans rfl; have hcd1 : wc.cell? ⟨gbp, 1, none⟩ = some (.slice A1 s1.length c1) := (blk_cell BKp.out 1).trans rfl; have hcd2 : wc.cell? ⟨gbp, 2, none⟩ = some (.slice A2 s2.length c2) := (blk_cell BKp.out 2).trans rfl; have hcd3 : wc.cell? ⟨gbp, 3, none⟩ = some (.int .i64 h) := (blk_cell BKp.out 3).trans rfl; have hcd4 : wc.cell? ⟨gbp, 4, none⟩ = some (.int .i64 b) := (blk_cell BKp.out 4).trans rfl))
 go_ret
 refine ⟨rfl, HO.out.mono (fun k hk => ?_), HB.out, HK.out⟩
 rcases hk with ((h1 | h1) | h1) | h1
 ·exact Or.inl h1.1
 ·exact Or.inr (Nat.le_trans LW.out h1)
 ·exact Or.inr (Nat.le_trans LWa.out h1)
 ·exact Or.inr (Nat.le_trans LWb.out h1)
theorem bu_Contains (s sub : ByteArray) (b : Bool) (m : Int) (w : World) (h : Lib.contains s.data.toList sub.data.toList = b) (hs : s.size ≤ 100000000) (hm : w.cell? ⟨0, 0, none⟩ = some (.int .i64 m)) :
  Calls Tryz.prog 116 #[.string s, .string sub] w fun e w' => e = .returned (.bool b) ∧ w' = w := by
 subst h
 exact Tryz.strings_Contains s sub m w (by omega) hm
def strings_Contains.f (a0 a1 : ByteArray) : Option Bool := if a0.size ≤ 100000000 then some (Lib.contains a0.data.toList a1.data.toList) else none
theorem strings_Contains.calls (a0 a1 : ByteArray) (r : Bool) (w : World) (M_ : Int) (hm_ : w.cell? ⟨0, 0, none⟩ = some (.int .i64 M_)) (h : strings_Contains.f a0 a1 = some r) :
  Calls Tryz.prog 116 #[.string a0, .string a1] w fun e w' => e = .returned (.bool r) ∧ Drawn0 w w' := by
 unfold strings_Contains.f at h
 by_cases hs : a0.size ≤ 100000000
 ·rw [if_pos hs] at h
  exact (bu_Contains a0 a1 r M_ w (Option.some.inj h) hs hm_).mono fun e w' ⟨he, hw⟩ => ⟨he, by rw [hw]; exact Drawn0.refl _⟩
 ·rw [if_neg hs] at h; cases h
theorem z24_0 {q0 p : Prop} (g0 : Aside0 q0) (h : Aside0 q0 → p := by intro g0_; repeat (first | (with_reducible first | exact g0_.out | apply IsS31.alloc | apply IsS31.drewN | apply IsS31.drew | apply IsS31.set_3 | apply IsS31.set_4) | exact g0_.out)) : p := h g0
theorem z24_1 {p : Prop} (h : p := by repeat (first | (with_reducible first | exact HB.out | apply below_alloc | apply pw_below_drewN | apply below_drew1) | exact HB.out)) : p := h
theorem z24_2 {p : Prop} (h : p := by repeat (first | (with_reducible first | exact HK.out | apply KeepBut.set_ | apply keep_drewN | apply keep_drew | apply keep_alloc) | exact HK.out)) : p := h
def impl_isOneOf.f (a0 : ByteArray) (a1 : ByteArray) : Option (Bool) := if a0.toList = ([] : List UInt8) then (some false) else ((strings_Contains.f a0 (⟨#[32]⟩ : ByteArray)).bind fun t415 => (if t415 = true then (some false) else (if 1 + a1.size ≤ 9223372036854775807 then (if ((⟨#[32]⟩ : ByteArray) ++ a1).size + 1 ≤ 9223372036854775807 then (if 1 + a0.size ≤ 9223372036854775807 then (if ((⟨#[32]⟩ : ByteArray) ++ a0).size + 1 ≤ 9223372036854775807 then ((strings_Contains.f (((⟨#[32]⟩ : ByteArray) ++ a1) ++ (⟨#[32]⟩ : ByteArray)) (((⟨#[32]⟩ : ByteArray) ++ a0) ++ (⟨#[32]⟩ : ByteArray))).bind fun t416 => (some t416)) else (none)) else (none)) else (none)) else (none))))
theorem impl_isOneOf.calls (a0 : ByteArray) (a1 : ByteArray) (r : Bool) (w : World) (M_ : Int) (hm_ : w.cell? ⟨0, 0, none⟩ = some (.int .i64 M_)) (h : impl_isOneOf.f a0 a1 = some r) :
  Calls Tryz.prog 106 #[.string a0, .string a1] w fun e w' => e = .returned (.bool r) ∧ Drawn0 w w' := by
 have HM_ := am hm_
 clear hm_
 have H : (if a0.toList = ([] : List UInt8) then (some false) else ((strings_Contains.f a0 (⟨#[32]⟩ : ByteArray)).bind fun t415 => (if t415 = true then (some false) else (if 1 + a1.size ≤ 9223372036854775807 then (if ((⟨#[32]⟩ : ByteArray) ++ a1).size + 1 ≤ 9223372036854775807 then (if 1 + a0.size ≤ 9223372036854775807 then (if ((⟨#[32]⟩ : ByteArray) ++ a0).size + 1 ≤ 9223372036854775807 then ((strings_Contains.f (((⟨#[32]⟩ : ByteArray) ++ a1) ++ (⟨#[32]⟩ : ByteArray)) (((⟨#[32]⟩ : ByteArray) ++ a0) ++ (⟨#[32]⟩ : ByteArray))).bind fun t416 => (some t416)) else (none)) else (none)) else (none)) else (none))))) = some r := h
 clear h
 replace H := ie_ H; rcases H with ⟨c3b0, c3b1, H⟩ | ⟨c3, c3b0, c3b1, H⟩
 ·obtain rfl := Option.some.inj H
  go_enter Tryz.func106, Tryz.ntmps106
  go_wp2
  go_ret
  exact ⟨ab6, by repeat (first | exact Drawn0.refl _ | apply Drawn0.step)⟩
 ·replace H := bi_ H; obtain ⟨t415, A4, H⟩ := H
  replace H := ib_ H; rcases H with ⟨rfl, H⟩ | ⟨rfl, H⟩
  ·obtain rfl := Option.some.inj H
   go_enter Tryz.func106, Tryz.ntmps106
   go_wp2_with (first | (go_at_call 116; (with_reducible refine (strings_Contains.calls a0 (⟨#[32]⟩ : ByteArray) true _ M_ HM_.out A4.out).mono ?_); rintro e w' ⟨rfl, ⟨nd, rfl⟩⟩))
   go_ret
   exact ⟨ab6, by repeat (first | exact Drawn0.refl _ | apply Drawn0.step)⟩
  ·by_cases c6 : 1 + a1.size ≤ 9223372036854775807
   case neg => rw [if_neg c6] at H; exact absurd H (by simp)
   rw [if_pos c6] at H
   have c6b0 := eq_true c6
   have c6b1 := decide_eq_true c6
   try have c6b2 : (9223372036854775807 < 1 + a1.size) = False := eq_false (Nat.not_lt.2 c6)
   by_cases c7 : ((⟨#[32]⟩ : ByteArray) ++ a1).size + 1 ≤ 9223372036854775807
   case neg => rw [if_neg c7] at H; exact absurd H (by simp)
   rw [if_pos c7] at H
   have c7b0 := eq_true c7
   have c7b1 := decide_eq_true c7
   try (have c7b5 := c7; simp only [ByteArray.size_append, show (⟨#[32]⟩ : ByteArray).size = 1 from rfl] at c7b5; have c7b6 := eq_false (Nat.not_lt.2 c7b5))
   try have c7b2 : (9223372036854775807 < ((⟨#[32]⟩ : ByteArray) ++ a1).size + 1) = False := eq_false (Nat.not_lt.2 c7)
   by_cases c8 : 1 + a0.size ≤ 9223372036854775807
   case neg => rw [if_neg c8] at H; exact absurd H (by simp)
   rw [if_pos c8] at H
   have c8b0 := eq_true c8
   have c8b1 := decide_eq_true c8
   try have c8b2 : (9223372036854775807 < 1 + a0.size) = False := eq_false (Nat.not_lt.2 c8)
   by_cases c9 : ((⟨#[32]⟩ : ByteArray) ++ a0).size + 1 ≤ 9223372036854775807
   case neg => rw [if_neg c9] at H; exact absurd H (by simp)
   rw [if_pos c9] at H
   have c9b0 := eq_true c9
   have c9b1 := decide_eq_true c9
   try (have c9b5 := c9; simp only [ByteArray.size_append, show (⟨#[32]⟩ : ByteArray).size = 1 from rfl] at c9b5; have c9b6 := eq_false (Nat.not_lt.2 c9b5))
   try have c9b2 : (9223372036854775807 < ((⟨#[32]⟩ : ByteArray) ++ a0).size + 1) = False := eq_false (Nat.not_lt.2 c9)
   replace H := bi_ H; obtain ⟨t416, A10, H⟩ := H
   obtain rfl := Option.some.inj H
   go_enter Tryz.func106, Tryz.ntmps106
   go_wp2_with (first | (go_at_call 116; (with_reducible refine (strings_Contains.calls a0 (⟨#[32]⟩ : ByteArray) false _ M_ HM_.out A4.out).mono ?_); rintro e w' ⟨rfl, ⟨nd, rfl⟩⟩) | ((with_reducible refine gf_ 116 ?_); refine gc_ Tryz.func116 (strings_Contains.calls (((⟨#[32]⟩ : ByteArray) ++ a1) ++ (⟨#[32]⟩ : ByteArray)) (((⟨#[32]⟩ : ByteArray) ++ a0) ++ (⟨#[32]⟩ : ByteArray)) t416 _ M_ HM_.out A10.out) ?_; rintro w' ⟨nd, rfl⟩))
   go_ret
   exact ⟨ab6, by repeat (first | exact Drawn0.refl _ | apply Drawn0.step)⟩
def impl_Format.f (a0 : ByteArray) : Option (Bool) := (impl_isOneOf.f a0 (⟨#[97, 32, 98, 32, 105, 32, 117, 32, 101, 109, 32, 115, 116, 114, 111, 110, 103, 32, 99, 111, 100, 101, 32, 115, 109, 97, 108, 108]⟩ : ByteArray)).bind fun t417 => (some t417)
theorem impl_Format.calls (a0 : ByteArray) (r : Bool) (w : World) (M_ : Int) (hm_ : w.cell? ⟨0, 0, none⟩ = some (.int .i64 M_)) (h : impl_Format.f a0 = some r) :
  Calls Tryz.prog 88 #[.string a0] w fun e w' => e = .returned (.bool r) ∧ Drawn0 w w' := by
 have HM_ := am hm_
 clear hm_
 have H : ((impl_isOneOf.f a0 (⟨#[97, 32, 98, 32, 105, 32, 117, 32, 101, 109, 32, 115, 116, 114, 111, 110, 103, 32, 99, 111, 100, 101, 32, 115, 109, 97, 108, 108]⟩ : ByteArray)).bind fun t417 => (some t417)) = some r := h
 clear h
 replace H := bi_ H; obtain ⟨t417, A2, H⟩ := H
 obtain rfl := Option.some.inj H
 go_enter Tryz.func88, Tryz.ntmps88
 go_wp2_with (first | ((with_reducible refine gf_ 106 ?_); refine gc_ Tryz.func106 (impl_isOneOf.calls a0 (⟨#[97, 32, 98, 32, 105, 32, 117, 32, 101, 109, 32, 115, 116, 114, 111, 110, 103, 32, 99, 111, 100, 101, 32, 115, 109, 97, 108, 108]⟩ : ByteArray) t417 _ M_ HM_.out A2.out) ?_; rintro w' ⟨nd, rfl⟩))
 go_ret
 exact ⟨ab6, by repeat (first | exact Drawn0.refl _ | apply Drawn0.step)⟩
def impl_Page_isFormat.f (s0_0 : List (S53)) (s0_1 : List Int) (s0_2 : List Int) (s0_3 : Int) (s0_4 : Int) (a1 : Int) : Option (Bool × Int × Int) := (impl_Page_isTag.f s0_0 s0_1 s0_2 s0_3 s0_4 a1).bind fun bt418 => (if bt418.1 = true then (if 0 ≤ a1 then (if a1 < (s0_0.length : Int) then ((impl_Format.f ((rd_T53 s0_0 a1).f2)).bind fun t422 => (some (t422, bt418.2.1, bt418.2.2))) else (none)) else (none)) else (some (false, bt418.2.1, bt418.2.2)))
theorem impl_Page_isFormat.calls (g : Nat) (s0_0 : List (S53)) (s0_1 : List Int) (s0_2 : List Int) (s0_3 : Int) (s0_4 : Int) (a1 : Int) (r1 : Bool) (r2 : Int) (r3 : Int) (w0 w : World) (hI : IsS31 w0 w g s0_0 s0_1 s0_2 s0_3 s0_4) (hB : Below w0.heap.size w0 w) (M_ : Int) (hm_ : w0.cell? ⟨0, 0, none⟩ = some (.int .i64 M_)) (h : impl_Page_isFormat.f s0_0 s0_1 s0_2 s0_3 s0_4 a1 = some (r1, r2, r3)) :
  Calls Tryz.prog 63 #[.pointer (some ⟨g, 0, none⟩), .int .i64 a1] w fun e w' => e = .returned (.bool r1) ∧ IsS31 w0 w' g s0_0 s0_1 s0_2 r2 r3 ∧ Below w0.heap.size w0 w' ∧ KeepBut w w' g none := by
 have HI0 := am hI
 have HK := am (KeepBut.refl w g none)
 have HL := am hB.size
 clear hI
 have HW0 := am hB.size
 have HB := am hB
 clear hB
 have HM_ := am hm_
 clear hm_
 have H : ((impl_Page_isTag.f s0_0 s0_1 s0_2 s0_3 s0_4 a1).bind fun bt418 => (if bt418.1 = true then (if 0 ≤ a1 then (if a1 < (s0_0.length : Int) then ((impl_Format.f ((rd_T53 s0_0 a1).f2)).bind fun t422 => (some (t422, bt418.2.1, bt418.2.2))) else (none)) else (none)) else (some (false, bt418.2.1, bt418.2.2)))) = some (r1, r2, r3) := h
 clear h
 replace H := Option.bind_eq_some_iff.mp H
 obtain ⟨⟨t418, t419, t420⟩, A30, H⟩ := H
 try dsimp only at H
 have A3 := am A30
 clear A30
 replace H := ib_ H; rcases H with ⟨rfl, H⟩ | ⟨rfl, H⟩
 ·replace H := iq_ H; obtain ⟨c5b0, H⟩ := H
  replace H := iq_ H; obtain ⟨c6b0, H⟩ := H
  replace H := bi_ H; obtain ⟨t422, A7, H⟩ := H
  simp only [Option.some.injEq, Prod.mk.injEq] at H
  obtain ⟨rfl, rfl, rfl⟩ := H
  go_enter Tryz.func63, Tryz.ntmps63
  go_wp2_with (first | ((with_reducible refine gf_ 61 ?_); refine gc_ Tryz.func61 (impl_Page_isTag.calls g s0_0 s0_1 s0_2 s0_3 s0_4 a1 true t419 t420 w0 _ ?side1 ?side2 A3.out) ?_; (case side1 => exact (z24_0 HI0)); (case side2 => exact (z24_1)); rintro w8 ⟨hi, hb, hk⟩; replace HK := am (KeepBut.trans (z24_2) hk (.inl rfl)); replace HB := am hb; replace HI0 := am hi; (try clear hb); (try clear hk); (try clear hi); obtain ⟨ASz9_0, cSz9_0, ASz9_1, cSz9_1, ASz9_2, cSz9_2, HGz9, hgz9, HSz9_0, HSz9_1, HSz9_2⟩ := HI0.out; obtain ⟨⟨_, _, _, _, _⟩, _, _, _, _, _⟩ := Op.cells5 HGz9; clear HGz9 hgz9; have p421 : 0 ≤ (a1 : Int) := of_decide_eq_true ab4; have q421 : a1 < (s0_0.length : Int) := of_decide_eq_true ab4; obtain ⟨ad421, A421_3, c421_3, A421_6, c421_6, e421, hx421_0, hx421_1, hx421_2, hx421_3, hx421_4, hx421_5, hx421_6, hl421_3, hi421_3, hl421_6, hi421_6⟩ := at_T53 HSz9_0 a1 p421 q421; cases e421; replace hx421_0 := pc_ HB hx421_0; replace hx421_1 := pc_ HB hx421_1; replace hx421_2 := pc_ HB hx421_2; replace hx421_3 := pc_ HB hx421_3; replace hx421_4 := pc_ HB hx421_4; replace hx421_5 := pc_ HB hx421_5; replace hx421_6 := pc_ HB hx421_6; have HR421_3 := am hi421_3; have HC421_3 := am hl421_3; clear hi421_3 hl421_3; have HR421_6 := am hi421_6; have HC421_6 := am hl421_6; clear hi421_6 hl421_6; replace p421 := eq_true p421; replace q421 := eq_true q421) | (go_at_call 88; (with_reducible refine (impl_Format.calls ((rd_T53 s0_0 a1).f2) t422 _ M_ (pw_cell_below ab1 HM_.out) A7.out).mono ?_); rintro e w' ⟨rfl, ⟨nd, rfl⟩⟩))
  go_ret
  exact ⟨ab7, (z24_0 HI0), ab1, z24_2⟩
 ·simp only [Option.some.injEq, Prod.mk.injEq] at H
  obtain ⟨rfl, rfl, rfl⟩ := H
  go_enter Tryz.func63, Tryz.ntmps63
  go_wp2_with (first | ((with_reducible refine gf_ 61 ?_); refine gc_ Tryz.func61 (impl_Page_isTag.calls g s0_0 s0_1 s0_2 s0_3 s0_4 a1 false t419 t420 w0 _ ?side1 ?side2 A3.out) ?_; (case side1 => exact (z24_0 HI0)); (case side2 => exact (z24_1)); rintro w10 ⟨hi, hb, hk⟩; replace HK := am (KeepBut.trans (z24_2) hk (.inl rfl)); replace HB := am hb; replace HI0 := am hi; (try clear hb); (try clear hk); (try clear hi)))
  go_ret
  exact ⟨ab7, (z24_0 HI0), ab1, z24_2⟩
def impl_Page_isNamed.f (s0_0 : List (S53)) (s0_1 : List Int) (s0_2 : List Int) (s0_3 : Int) (s0_4 : Int) (a1 : Int) (a2 : ByteArray) : Option (Bool × Int × Int) := if a1 = 0 then (some (true, s0_3, s0_4)) else ((impl_Page_isTag.f s0_0 s0_1 s0_2 s0_3 s0_4 a1).bind fun bt423 => (if bt423.1 = true then (if 0 ≤ a1 then (if a1 < (s0_0.length : Int) then (some ((((rd_T53 s0_0 a1).f2).toList == a2.toList), bt423.2.1, bt423.2.2)) else (none)) else (none)) else (some (false, bt423.2.1, bt423.2.2))))
theorem impl_Page_isNamed.calls (g : Nat) (s0_0 : List (S53)) (s0_1 : List Int) (s0_2 : List Int) (s0_3 : Int) (s0_4 : Int) (a1 : Int) (a2 : ByteArray) (r1 : Bool) (r2 : Int) (r3 : Int) (w0 w : World) (hI : IsS31 w0 w g s0_0 s0_1 s0_2 s0_3 s0_4) (hB : Below w0.heap.size w0 w) (h : impl_Page_isNamed.f s0_0 s0_1 s0_2 s0_3 s0_4 a1 a2 = some (r1, r2, r3)) :
  Calls Tryz.prog 64 #[.pointer (some ⟨g, 0, none⟩), .int .i64 a1, .string a2] w fun e w' => e = .returned (.bool r1) ∧ IsS31 w0 w' g s0_0 s0_1 s0_2 r2 r3 ∧ Below w0.heap.size w0 w' ∧ KeepBut w w' g none := by
 have HI0 := am hI
 have HK := am (KeepBut.refl w g none)
 have HL := am hB.size
 clear hI
 have HW0 := am hB.size
 have HB := am hB
 clear hB
 have H : (if a1 = 0 then (some (true, s0_3, s0_4)) else ((impl_Page_isTag.f s0_0 s0_1 s0_2 s0_3 s0_4 a1).bind fun bt423 => (if bt423.1 = true then (if 0 ≤ a1 then (if a1 < (s0_0.length : Int) then (some ((((rd_T53 s0_0 a1).f2).toList == a2.toList), bt423.2.1, bt423.2.2)) else (none)) else (none)) else (some (false, bt423.2.1, bt423.2.2))))) = some (r1, r2, r3) := h
 clear h
 replace H := ie_ H; rcases H with ⟨c4b0, c4b1, H⟩ | ⟨c4, c4b0, c4b1, H⟩
 ·simp only [Option.some.injEq, Prod.mk.injEq] at H
  obtain ⟨rfl, rfl, rfl⟩ := H
  go_enter Tryz.func64, Tryz.ntmps64
  go_wp2
  go_ret
  exact ⟨ab7, (z24_0 HI0), ab1, z24_2⟩
 ·replace H := Option.bind_eq_some_iff.mp H
  obtain ⟨⟨t423, t424, t425⟩, A50, H⟩ := H
  try dsimp only at H
  have A5 := am A50
  clear A50
  replace H := ib_ H; rcases H with ⟨rfl, H⟩ | ⟨rfl, H⟩
  ·replace H := iq_ H; obtain ⟨c7b0, H⟩ := H
   replace H := iq_ H; obtain ⟨c8b0, H⟩ := H
   simp only [Option.some.injEq, Prod.mk.injEq] at H
   obtain ⟨rfl, rfl, rfl⟩ := H
   go_enter Tryz.func64, Tryz.ntmps64
   go_wp2_with (first | (go_at_call 61; (with_reducible refine (impl_Page_isTag.calls g s0_0 s0_1 s0_2 s0_3 s0_4 a1 true t424 t425 w0 _ ?side1 ?side2 A5.out).mono ?_); (case side1 => exact (z24_0 HI0)); (case side2 => exact (z24_1)); rintro e w9 ⟨rfl, hi, hb, hk⟩; replace HK := am (KeepBut.trans (z24_2) hk (.inl rfl)); replace HB := am hb; replace HI0 := am hi; (try clear hb); (try clear hk); (try clear hi); obtain ⟨ASz10_0, cSz10_0, ASz10_1, cSz10_1, ASz10_2, cSz10_2, HGz10, hgz10, HSz10_0, HSz10_1, HSz10_2⟩ := HI0.out; obtain ⟨⟨_, _, _, _, _⟩, _, _, _, _, _⟩ := Op.cells5 HGz10; clear HGz10 hgz10; have p426 : 0 ≤ (a1 : Int) := of_decide_eq_true ab4; have q426 : a1 < (s0_0.length : Int) := of_decide_eq_true ab4; obtain ⟨ad426, A426_3, c426_3, A426_6, c426_6, e426, hx426_0, hx426_1, hx426_2, hx426_3, hx426_4, hx426_5, hx426_6, hl426_3, hi426_3, hl426_6, hi426_6⟩ := at_T53 HSz10_0 a1 p426 q426; cases e426; replace hx426_0 := pc_ HB hx426_0; replace hx426_1 := pc_ HB hx426_1; replace hx426_2 := pc_ HB hx426_2; replace hx426_3 := pc_ HB hx426_3; replace hx426_4 := pc_ HB hx426_4; replace hx426_5 := pc_ HB hx426_5; replace hx426_6 := pc_ HB hx426_6; have HR426_3 := am hi426_3; have HC426_3 := am hl426_3; clear hi426_3 hl426_3; have HR426_6 := am hi426_6; have HC426_6 := am hl426_6; clear hi426_6 hl426_6; replace p426 := eq_true p426; replace q426 := eq_true q426))
   go_ret
   exact ⟨ab7, (z24_0 HI0), ab1, z24_2⟩
  ·simp only [Option.some.injEq, Prod.mk.injEq] at H
   obtain ⟨rfl, rfl, rfl⟩ := H
   go_enter Tryz.func64, Tryz.ntmps64
   go_wp2_with (first | (go_at_call 61; (with_reducible refine (impl_Page_isTag.calls g s0_0 s0_1 s0_2 s0_3 s0_4 a1 false t424 t425 w0 _ ?side1 ?side2 A5.out).mono ?_); (case side1 => exact (z24_0 HI0)); (case side2 => exact (z24_1)); rintro e w11 ⟨rfl, hi, hb, hk⟩; replace HK := am (KeepBut.trans (z24_2) hk (.inl rfl)); replace HB := am hb; replace HI0 := am hi; (try clear hb); (try clear hk); (try clear hi)))
   go_ret
   exact ⟨ab7, (z24_0 HI0), ab1, z24_2⟩
def impl_pageOk.f (a0_0 : Int) (a0_1 : Int) (a0_2 : ByteArray) (l0_3 : List (S56)) (a0_4 : ByteArray) (a0_5 : Int) (l0_6 : List Int) : Option (Bool) := if a0_0 = 1 then (if a0_5 = (-1) then (if a0_2.toList = ([] : List UInt8) then (if (l0_3.length : Int) = 0 then (if a0_1 = 0 then (some (a0_4.toList == ([] : List UInt8))) else (some false)) else (some false)) else (some false)) else (some false)) else (some false)
theorem impl_pageOk.calls (a0_0 : Int) (a0_1 : Int) (a0_2 : ByteArray) (A0_3 : Option Addr) (c0_3 : Nat) (l0_3 : List (S56)) (a0_4 : ByteArray) (a0_5 : Int) (A0_6 : Option Addr) (c0_6 : Nat) (l0_6 : List Int) (r : Bool) (w : World) (hr0_3 : Kd.C k56 w A0_3 l0_3.length l0_3) (hc0_3 : l0_3.length ≤ c0_3) (hr0_6 : Kd.C (Kd.int .i64) w A0_6 l0_6.length l0_6) (hc0_6 : l0_6.length ≤ c0_6) (h : impl_pageOk.f a0_0 a0_1 a0_2 l0_3 a0_4 a0_5 l0_6 = some r) :
  Calls Tryz.prog 89 #[.agg #[.int .i64 a0_0, .int .i64 a0_1, .string a0_2, .slice A0_3 l0_3.length c0_3, .string a0_4, .int .i64 a0_5, .slice A0_6 l0_6.length c0_6]] w fun e w' => e = .returned (.bool r) ∧ Below w.heap.size w w' := by
 have hu53 := Tryz.underlying53
 have HR0_3 := am hr0_3
 have HC0_3 := am hc0_3
 clear hr0_3 hc0_3
 have HR0_6 := am hr0_6
 have HC0_6 := am hc0_6
 clear hr0_6 hc0_6
 have HB := am (Below.refl w.heap.size w)
 have H : (if a0_0 = 1 then (if a0_5 = (-1) then (if a0_2.toList = ([] : List UInt8) then (if (l0_3.length : Int) = 0 then (if a0_1 = 0 then (some (a0_4.toList == ([] : List UInt8))) else (some false)) else (some false)) else (some false)) else (some false)) else (some false)) = some r := h
 clear h
 replace H := ie_ H; rcases H with ⟨c2b0, c2b1, H⟩ | ⟨c2, c2b0, c2b1, H⟩
 ·replace H := ie_ H; rcases H with ⟨c3b0, c3b1, H⟩ | ⟨c3, c3b0, c3b1, H⟩
  ·replace H := ie_ H; rcases H with ⟨c4b0, c4b1, H⟩ | ⟨c4, c4b0, c4b1, H⟩
   ·replace H := ie_ H; rcases H with ⟨c5b0, c5b1, H⟩ | ⟨c5, c5b0, c5b1, H⟩
    ·replace H := ie_ H; rcases H with ⟨c6b0, c6b1, H⟩ | ⟨c6, c6b0, c6b1, H⟩
     ·obtain rfl := Option.some.inj H
      go_enter Tryz.func89, Tryz.ntmps89
      go_wp2_with (first | ((with_reducible refine gd_ 1 ?_); (try (refine gate_guard (by rfl) ?_; dsimp only)); refine bx_ 1 (cs := #[.int .i64 a0_0, .int .i64 a0_1, .string a0_2, .slice A0_3 l0_3.length c0_3, .string a0_4, .int .i64 a0_5, .slice A0_6 l0_6.length c0_6]) 53 ?_; intro gb427 hg w7 hbox hb; have BK427 := am hbox; have GW427 := ge_ (w := w) hg; have GE427 := ge_ (w := w) hg; replace HB := am (below_step ab1 hb); clear hb hbox hg; obtain ⟨⟨_, _, _, _, _, _, _⟩, _, _, _, _, _, _, _⟩ := Op.cells7 BK427.out))
      go_ret
      exact ⟨ab7, ab2 GE427⟩
     ·obtain rfl := Option.some.inj H
      go_enter Tryz.func89, Tryz.ntmps89
      go_wp2_with (first | ((with_reducible refine gd_ 1 ?_); (try (refine gate_guard (by rfl) ?_; dsimp only)); refine bx_ 1 (cs := #[.int .i64 a0_0, .int .i64 a0_1, .string a0_2, .slice A0_3 l0_3.length c0_3, .string a0_4, .int .i64 a0_5, .slice A0_6 l0_6.length c0_6]) 53 ?_; intro gb427 hg w9 hbox hb; have BK427 := am hbox; have GW427 := ge_ (w := w) hg; have GE427 := ge_ (w := w) hg; replace HB := am (below_step ab1 hb); clear hb hbox hg; obtain ⟨⟨_, _, _, _, _, _, _⟩, _, _, _, _, _, _, _⟩ := Op.cells7 BK427.out))
      go_ret
      exact ⟨ab7, ab2 GE427⟩
    ·have c5b2 : ¬ (l0_3 = []) := fun h_ => c5 (by rw [h_]; rfl)
     obtain rfl := Option.some.inj H
     go_enter Tryz.func89, Tryz.ntmps89
     go_wp2_with (first | ((with_reducible refine gd_ 1 ?_); (try (refine gate_guard (by rfl) ?_; dsimp only)); refine bx_ 1 (cs := #[.int .i64 a0_0, .int .i64 a0_1, .string a0_2, .slice A0_3 l0_3.length c0_3, .string a0_4, .int .i64 a0_5, .slice A0_6 l0_6.length c0_6]) 53 ?_; intro gb427 hg w11 hbox hb; have BK427 := am hbox; have GW427 := ge_ (w := w) hg; have GE427 := ge_ (w := w) hg; replace HB := am (below_step ab1 hb); clear hb hbox hg; obtain ⟨⟨_, _, _, _, _, _, _⟩, _, _, _, _, _, _, _⟩ := Op.cells7 BK427.out))
     go_ret
     exact ⟨ab7, ab2 GE427⟩
   ·obtain rfl := Option.some.inj H
    go_enter Tryz.func89, Tryz.ntmps89
    go_wp2_with (first | ((with_reducible refine gd_ 1 ?_); (try (refine gate_guard (by rfl) ?_; dsimp only)); refine bx_ 1 (cs := #[.int .i64 a0_0, .int .i64 a0_1, .string a0_2, .slice A0_3 l0_3.length c0_3, .string a0_4, .int .i64 a0_5, .slice A0_6 l0_6.length c0_6]) 53 ?_; intro gb427 hg w13 hbox hb; have BK427 := am hbox; have GW427 := ge_ (w := w) hg; have GE427 := ge_ (w := w) hg; replace HB := am (below_step ab1 hb); clear hb hbox hg; obtain ⟨⟨_, _, _, _, _, _, _⟩, _, _, _, _, _, _, _⟩ := Op.cells7 BK427.out))
    go_ret
    exact ⟨ab7, ab2 GE427⟩
  ·obtain rfl := Option.some.inj H
   go_enter Tryz.func89, Tryz.ntmps89
   go_wp2_with (first | ((with_reducible refine gd_ 1 ?_); (try (refine gate_guard (by rfl) ?_; dsimp only)); refine bx_ 1 (cs := #[.int .i64 a0_0, .int .i64 a0_1, .string a0_2, .slice A0_3 l0_3.length c0_3, .string a0_4, .int .i64 a0_5, .slice A0_6 l0_6.length c0_6]) 53 ?_; intro gb427 hg w15 hbox hb; have BK427 := am hbox; have GW427 := ge_ (w := w) hg; have GE427 := ge_ (w := w) hg; replace HB := am (below_step ab1 hb); clear hb hbox hg; obtain ⟨⟨_, _, _, _, _, _, _⟩, _, _, _, _, _, _, _⟩ := Op.cells7 BK427.out))
   go_ret
   exact ⟨ab7, ab2 GE427⟩
 ·obtain rfl := Option.some.inj H
  go_enter Tryz.func89, Tryz.ntmps89
  go_wp2_with (first | ((with_reducible refine gd_ 1 ?_); (try (refine gate_guard (by rfl) ?_; dsimp only)); refine bx_ 1 (cs := #[.int .i64 a0_0, .int .i64 a0_1, .string a0_2, .slice A0_3 l0_3.length c0_3, .string a0_4, .int .i64 a0_5, .slice A0_6 l0_6.length c0_6]) 53 ?_; intro gb427 hg w17 hbox hb; have BK427 := am hbox; have GW427 := ge_ (w := w) hg; have GE427 := ge_ (w := w) hg; replace HB := am (below_step ab1 hb); clear hb hbox hg; obtain ⟨⟨_, _, _, _, _, _, _⟩, _, _, _, _, _, _, _⟩ := Op.cells7 BK427.out))
  go_ret
  exact ⟨ab7, ab2 GE427⟩
def hasA (name : ByteArray) (a : S56) : Bool := a.f0.toList == name.toList
def idxA (name : ByteArray) : List S56 → Nat → Int
 | [], _ => -1
 | a :: l, j => if hasA name a = true then (j : Int) else idxA name l (j + 1)
def impl_hasAttr.f (l0 : List S56) (a1 : ByteArray) : Option Bool := some (l0.any (hasA a1))
theorem idxA_drop (name : ByteArray) (l : List S56) (j : Nat) (h : j < l.length) : idxA name (l.drop j) j = if hasA name l[j] = true then (j : Int) else idxA name (l.drop (j + 1)) (j + 1) := by
 rw [List.drop_eq_getElem_cons h]; rfl
theorem idxA_any (name : ByteArray) : ∀ (l : List S56) (j : Nat), decide (0 ≤ idxA name l j) = l.any (hasA name)
 | [], _ => rfl
 | a :: l, j => by
  unfold idxA
  by_cases h : hasA name a = true
  ·rw [if_pos h, List.any_cons, h, Bool.true_or, decide_eq_true (by omega)]
  ·rw [if_neg h, idxA_any name l (j + 1), List.any_cons, Bool.eq_false_iff.mpr h, Bool.false_or]
theorem lit_hasAttr (n v name : ByteArray) (b : Nat) (w : World) (hc : w.cell? ⟨b, 0, none⟩ = some (.string name)) :
  Calls Tryz.prog 123 #[.agg #[.string n, .string v], .pointer (some ⟨b, 0, none⟩)] w fun e w' => e = .returned (.bool (n.toList == name.toList)) ∧ Below w.heap.size w w' := by
 have hu := Tryz.underlying56
 have HB := am (Below.refl w.heap.size w)
 have hc2 := fun o => pw_cell_below ((Below.refl _ w).alloc (Nat.le_refl _) o) hc
 go_enter Tryz.func123, Tryz.ntmps123
 go_wp2
 go_ret
 exact ⟨rfl, ab1⟩
theorem lit_hasAttr_q (n v name : ByteArray) (b : Nat) (q : Bool) (w : World) (hq : (n.toList == name.toList) = q) (hc : w.cell? ⟨b, 0, none⟩ = some (.string name)) :
  Calls Tryz.prog 123 #[.agg #[.string n, .string v], .pointer (some ⟨b, 0, none⟩)] w fun e w' => e = .returned (.bool q) ∧ Below w.heap.size w w' := by
 subst hq
 exact lit_hasAttr n v name b w hc
theorem rdA (l : List S56) (j : Nat) (h : j < l.length) : rd_T56 l (j : Int) = l[j] := by
 unfold rd_T56
 rw [Int.toNat_natCast, List.getD_eq_getElem?_getD, List.getElem?_eq_getElem h]; rfl
theorem idx_hasAttr (A0 : Option Addr) (c0 : Nat) (l0 : List S56) (name : ByteArray) (b : Nat) (w : World) (hr0 : Kd.C k56 w A0 l0.length l0) (hc : w.cell? ⟨b, 0, none⟩ = some (.string name)) :
  Calls Tryz.prog 126 #[.slice A0 l0.length c0, .func (.func 123) #[] #[.pointer (some ⟨b, 0, none⟩)]] w fun e w' => e = .returned (.int .i64 (idxA name l0 0)) ∧ Below w.heap.size w w' := by
 have hu := Tryz.underlying56
 have HR0 := am hr0
 have HC := am hc
 clear hr0 hc
 go_enter Tryz.func126, Tryz.ntmps126
 go_wp2
 go_loopw [8] (fun v8 wr => ∃ (j : Nat), v8 = .int .i64 j ∧ Aside0 (Below w.heap.size w wr) ∧ Aside0 (j ≤ l0.length) ∧ Aside0 (idxA name (l0.drop j) j = idxA name l0 0)) (fun v8 _ => l0.length - (intOf v8).toNat)
 case atStart => exact ⟨0, rfl, ⟨Below.refl _ _⟩, ⟨Nat.zero_le _⟩, ⟨by rw [List.drop_zero]⟩⟩
 case round =>
  obtain ⟨j, rfl, HB, HJ, HE⟩ := hrel
  by_cases hlt : j < l0.length
  ·have hE := HE.out
   rw [idxA_drop name l0 j hlt] at hE
   have hlen : (l0.length : Int) ≤ 9223372036854775807 := by have := HR0.out.2.1; omega
   have hltI : (j : Int) < (l0.length : Int) := Int.ofNat_lt.mpr hlt
   obtain ⟨ad, ea, hx0, hx1⟩ := at_T56 HR0.out (j : Int) (Int.natCast_nonneg j) hltI
   subst ea
   rw [Int.toNat_natCast] at hx0 hx1
   have hy0 := pc_ HB hx0
   have hy1 := pc_ HB hx1
   clear hx0 hx1
   have HCN := am (pc_ HB HC.out)
   have HL := am HB.out.size
   have hq : ((rd_T56 l0 (j : Int)).f0.toList == name.toList) = hasA name l0[j] := by rw [rdA l0 j hlt]; rfl
   by_cases h : hasA name l0[j] = true
   ·rw [if_pos h] at hE
    rw [h] at hq
    have HQ := am hq
    have HE2 := am hE
    clear hq hE h
    go_wp2_with (go_at_call 123; (with_reducible refine (lit_hasAttr_q _ _ name b true _ HQ.out HCN.out).mono ?_); rintro e w1 ⟨rfl, hb1⟩)
    go_ret
    exact ⟨by rw [← HE2.out]; rfl, below_then HB.out HL.out hb1⟩
   ·rw [if_neg h] at hE
    rw [Bool.eq_false_iff.mpr h] at hq
    have HQ := am hq
    have HE2 := am hE
    clear hq hE h
    go_wp2_with (go_at_call 123; (with_reducible refine (lit_hasAttr_q _ _ name b false _ HQ.out HCN.out).mono ?_); rintro e w1 ⟨rfl, hb1⟩)
    go_roundw
    case rel => exact ⟨j + 1, by go_num, ⟨below_then HB.out HL.out hb1⟩, ⟨hlt⟩, HE2⟩
    case measure => simp [intOf]; omega
  ·have hE := HE.out
   rw [List.drop_eq_nil_of_le (by omega)] at hE
   have HE2 := am hE
   clear hE
   go_wp2
   go_ret
   exact ⟨by rw [← HE2.out]; rfl, HB.out⟩
theorem con_hasAttr (A0 : Option Addr) (c0 : Nat) (l0 : List S56) (name : ByteArray) (b : Nat) (w : World) (hr0 : Kd.C k56 w A0 l0.length l0) (hc : w.cell? ⟨b, 0, none⟩ = some (.string name)) :
  Calls Tryz.prog 122 #[.slice A0 l0.length c0, .func (.func 123) #[] #[.pointer (some ⟨b, 0, none⟩)]] w fun e w' => e = .returned (.bool (l0.any (hasA name))) ∧ Below w.heap.size w w' := by
 have HR0 := am hr0
 have HC := am hc
 clear hr0 hc
 rw [← idxA_any name l0 0]
 go_enter Tryz.func122, Tryz.ntmps122
 go_wp2_with (go_at_call 126; (with_reducible refine (idx_hasAttr A0 c0 l0 name b _ HR0.out HC.out).mono ?_); rintro e w1 ⟨rfl, hb1⟩)
 go_ret
 exact ⟨rfl, hb1⟩
theorem impl_hasAttr.calls (A0 : Option Addr) (c0 : Nat) (l0 : List S56) (a1 : ByteArray) (r : Bool) (w : World) (hr0 : Kd.C k56 w A0 l0.length l0) (hc0 : l0.length ≤ c0) (h : impl_hasAttr.f l0 a1 = some r) :
  Calls Tryz.prog 117 #[.slice A0 l0.length c0, .string a1] w fun e w' => e = .returned (.bool r) ∧ Below w.heap.size w w' := by
 obtain rfl := Option.some.inj h
 clear h
 have HR0 := am hr0
 clear hr0 hc0
 go_enter Tryz.func117, Tryz.ntmps117
 go_wp2_with (go_at_call 122; (refine (con_hasAttr A0 c0 l0 a1 w.heap.size _ (Kd.C_below HR0.out ((Below.refl _ w).alloc (Nat.le_refl _) _)) (by rw [Go.Lib.cell_of_heap (show (w.heap.push _)[w.heap.size]? = _ from Array.getElem?_push_size)]; rfl)).mono ?_); rintro e w1 ⟨rfl, hb1⟩)
 go_ret
 exact ⟨rfl, below_then ((Below.refl _ w).alloc (Nat.le_refl _) _) (by show w.heap.size ≤ (w.heap.push _).size; rw [Array.size_push]; omega) hb1⟩
def impl_namesOnce.l0 : Nat → List (S56) → List (S56) → Int → Int → Option (Bool)
 | 0, _, _, _, _ => none
 | k + 1, x0, x5, x6, x7 => if x7 < x6 then (if 0 ≤ x7 then (if x7 < (x5.length : Int) then (if x7 ≤ (x0.length : Int) then ((impl_hasAttr.f (x0.take (x7 : Int).toNat) ((rd_T56 x5 x7).f0)).bind fun t434 => (if t434 = true then (some false) else (impl_namesOnce.l0 k x0 x5 x6 (wrap64 (x7 + 1))))) else (none)) else (none)) else (none)) else (some true)
def impl_namesOnce.f (k : Nat) (l0 : List (S56)) : Option (Bool) := impl_namesOnce.l0 k l0 l0 (l0.length : Int) 0
theorem impl_namesOnce.calls (k : Nat) (A0 : Option Addr) (c0 : Nat) (l0 : List (S56)) (r : Bool) (w : World) (hr0 : Kd.C k56 w A0 l0.length l0) (hc0 : l0.length ≤ c0) (h : impl_namesOnce.f k l0 = some r) :
  Calls Tryz.prog 107 #[.slice A0 l0.length c0] w fun e w' => e = .returned (.bool r) ∧ Below w.heap.size w w' := by
 have hu56 := Tryz.underlying56
 have HR0 := am hr0
 have HC0 := am hc0
 clear hr0 hc0
 have HB := am (Below.refl w.heap.size w)
 have H : (impl_namesOnce.l0 k l0 l0 (l0.length : Int) 0) = some r := h
 clear h
 have H' := am H
 clear H
 go_enter Tryz.func107, Tryz.ntmps107
 go_wp2
 go_loopg [7] k (fun kq v7 w' => ∃ (x7_1 : Int), v7 = .int .i64 x7_1 ∧ Aside0 (impl_namesOnce.l0 kq l0 l0 (l0.length : Int) x7_1 = some r) ∧ Aside0 (kq ≤ k) ∧ Aside0 (Below w.heap.size w w'))
 case atStart => exact ⟨(0), ab6, H', ⟨Nat.le_refl _⟩, ⟨ab1⟩⟩
 case round =>
  clear H'
  try clear c1
  obtain ⟨x7_1, rfl, HA, HK1, HB⟩ := hrel
  cases gk with
  | zero => exact absurd HA.out (by simp [impl_namesOnce.l0])
  | succ k1 =>
   have H := HA.out
   clear HA
   simp only [impl_namesOnce.l0] at H
   replace H := ir_ H; rcases H with ⟨c2b0, H⟩ | ⟨c2b0, H⟩
   ·replace H := iq_ H; obtain ⟨c3b0, H⟩ := H
    replace H := iq_ H; obtain ⟨c4b0, H⟩ := H
    have c5b0 := eq_true (of_decide_eq_true ab4 : 0 ≤ x7_1)
    by_cases c6 : x7_1 ≤ (l0.length : Int)
    case neg => rw [if_neg c6] at H; exact absurd H (by simp)
    rw [if_pos c6] at H
    have c6b0 := eq_true c6
    have c6b1 := decide_eq_true c6
    clear c6
    obtain ⟨y430, hy430⟩ : ∃ y_ : List (S56), y_ = (l0.take (x7_1 : Int).toNat) := ⟨_, rfl⟩
    replace H : ((impl_hasAttr.f y430 ((rd_T56 l0 x7_1).f0)).bind fun t434 => (if t434 = true then (some false) else (impl_namesOnce.l0 k1 l0 l0 (l0.length : Int) (wrap64 (x7_1 + 1))))) = some r := by first | (rw [hy430]; with_reducible exact H) | (have H2_ := (Option.bind_some _ _).symm.trans H; rw [hy430]; with_reducible exact H2_) | (have H2_ := (Option.bind_some _ _).symm.trans H; with_reducible exact H2_) | with_reducible exact H | (rw [hy430]; exact H) | exact H
    have Ny430 := am hy430
    clear hy430
    replace H := bi_ H; obtain ⟨t434, A7, H⟩ := H
    replace H := ib_ H; rcases H with ⟨rfl, H⟩ | ⟨rfl, H⟩
    ·obtain rfl := Option.some.inj H
     obtain ⟨p428, q428, ad428, rfl, hx428_0, hx428_1, -⟩ := otT56 HB HR0.out x7_1 (of_decide_eq_true ab4) (of_decide_eq_true ab4)
     try go_wp2_with (first | ((with_reducible refine gd_ 4 ?_); refine bx_ 4 (cs := #[.string (⟨#[]⟩ : ByteArray), .string (⟨#[]⟩ : ByteArray)]) 56 ?_; intro gb429 hg w9 hbox hb; have BK429 := am hbox; have GW429 := ge_ (w := w) hg; have GE429 := ge_ (w := w) hg; replace HB := am (below_step ab1 hb); clear hb hbox hg; obtain ⟨⟨_, _⟩, _, _⟩ := Op.cells2 BK429.out))
     have n0_ : Aside0 (((w9.setCell ⟨gb429, 0, none⟩ (.string ((rd_T56 l0 x7_1).f0))).setCell ⟨gb429, 1, none⟩ (.string ((rd_T56 l0 x7_1).f1))).heap[gb429]? = some (.cells #[.string ((rd_T56 l0 x7_1).f0), .string ((rd_T56 l0 x7_1).f1)] 56 (0, 0))) := ⟨by (with_reducible repeat (first | refine blk_drewN ?_ _ | refine blk_drew ?_ | refine blk_alloc ?_ _)); refine blk_put (cs := #[.string ((rd_T56 l0 x7_1).f0), .string (⟨#[]⟩ : ByteArray)]) ?_ 1 _ rfl; (with_reducible repeat (first | refine blk_drewN ?_ _ | refine blk_drew ?_ | refine blk_alloc ?_ _)); refine blk_put (cs := #[.string (⟨#[]⟩ : ByteArray), .string (⟨#[]⟩ : ByteArray)]) ?_ 0 _ rfl; (with_reducible repeat (first | refine blk_drewN ?_ _ | refine blk_drew ?_ | refine blk_alloc ?_ _)); exact BK429.out⟩
     have n1_ : Aside0 (Below w.heap.size w ((w9.setCell ⟨gb429, 0, none⟩ (.string ((rd_T56 l0 x7_1).f0))).setCell ⟨gb429, 1, none⟩ (.string ((rd_T56 l0 x7_1).f1)))) := ⟨ab2 GE429⟩
     (try clear BK429)
     (try clear HB)
     generalize ((w9.setCell ⟨gb429, 0, none⟩ (.string ((rd_T56 l0 x7_1).f0))).setCell ⟨gb429, 1, none⟩ (.string ((rd_T56 l0 x7_1).f1))) = w11 at n0_ n1_ ⊢
     have BK429 := n0_
     have HB := n1_
     clear n0_ n1_
     replace BK429 := am (blk_drew BK429.out)
     replace HB := am (below_drew1 HB.out)
     have q13 : (x7_1 : Int) ≤ ((l0.length : Int) : Int) := of_decide_eq_true ab4
     obtain ⟨i013, hi013, _, hsz13, _⟩ := info_parts info56
     have hroom13 : l0.length ≤ c0 := HC0.out
     have hC13 : Kd.C k56 _ (some ad428) l0.length l0 := HR0.out
     have hcut13 := cut_to (P := Tryz.prog) 34 56 .i64 Tryz.underlying34 hi013 (some ad428) l0.length c0 x7_1 (of_decide_eq_true ab4) q13 hroom13
     have hr13 := Kd.C_take (m := (x7_1 : Int).toNat) hC13 (by omega)
     have hy13 : y430.length = (x7_1 : Int).toNat := (by rw [Ny430.out, List.length_take]; omega)
     rw [← Ny430.out] at hr13
     rw [← hy13] at hcut13
     have HR433 := am hr13
     have HC433 := am (show y430.length ≤ c0 from by omega)
     clear hr13 hC13 hroom13 hi013 hsz13
     have KY13 := am hy13
     clear hy13
     replace q13 := eq_true q13
     refine start_ (n := 6) (S := fun w' => w'.cell? ⟨gb429, 0, none⟩ = some (.string ((rd_T56 l0 x7_1).f0)) ∧ w'.cell? ⟨gb429, 1, none⟩ = some (.string ((rd_T56 l0 x7_1).f1))) (ds := []) #[false, false, false, false, false, false] (by kernel_rfl) rfl rfl ⟨(blk_cell BK429.out 0).trans rfl, (blk_cell BK429.out 1).trans rfl⟩ (fun hHeld => ?_)
     generalize w11.drew = w12 at BK429 HB HR433 hHeld ⊢
     refine pure_ (i := 0) (N := some 12) (v := ?_) (a' := ?_) #[true, false, false, false, false, false] rfl rfl (by kernel_rfl) (fun _ _ _ h => h) (Or.inl ⟨by rfl, ?_⟩) ?_ ?_
     rotate_left
     ·intro w'
      go_simp
      with_reducible rfl
     rotate_left
     ·simp only [Act.put, List.setIfInBounds_toArray, List.set_cons_zero, List.set_cons_succ, i64_w, i32_w]
      rfl
     refine pure_ (i := 1) (N := some 13) (v := ?_) (a' := ?_) #[true, true, false, false, false, false] rfl rfl (by kernel_rfl) (fun _ _ _ h => h) (Or.inl ⟨by rfl, ?_⟩) ?_ ?_
     rotate_left
     ·intro w'
      go_simp
      with_reducible rfl
     rotate_left
     ·simp only [Act.put, List.setIfInBounds_toArray, List.set_cons_zero, List.set_cons_succ, i64_w, i32_w]
      rfl
     refine pure_ (i := 2) (N := some 14) (v := ?_) (a' := ?_) #[true, true, true, false, false, false] rfl rfl (by kernel_rfl) (fun _ _ _ h => h) (Or.inl ⟨by rfl, ?_⟩) ?_ ?_
     rotate_left
     ·intro w'
      go_simp
      with_reducible rfl
     rotate_left
     ·simp only [Act.put, List.setIfInBounds_toArray, List.set_cons_zero, List.set_cons_succ, i64_w, i32_w]
      rfl
     refine pure_ (i := 3) (N := some 15) (v := ?_) (a' := ?_) #[true, true, true, true, false, false] rfl rfl (by kernel_rfl) (fun _ _ _ h => h) (Or.inl ⟨by rfl, ?_⟩) ?_ ?_
     rotate_left
     ·intro w'
      go_simp
      with_reducible rfl
     rotate_left
     ·simp only [Act.put, List.setIfInBounds_toArray, List.set_cons_zero, List.set_cons_succ, i64_w, i32_w]
      rfl
     refine take_ (i := 4) (N := some 16) (v := ?_) (a' := ?_) #[true, true, true, true, true, false] rfl rfl (by kernel_rfl) (fun _ _ _ h => h) (Or.inl ⟨by rfl, ?_⟩) hHeld ?_ ?_
     rotate_left
     ·rintro w' ⟨s0, s1⟩
      go_simp
      with_reducible rfl
     rotate_left
     ·simp only [Act.put, List.setIfInBounds_toArray, List.set_cons_zero, List.set_cons_succ, i64_w, i32_w]
      rfl
     refine one_ (i := 5) (N := some 17) #[true, true, true, true, true, true] rfl rfl (by kernel_rfl) (by decide) (fun K hK => ?_)
     refine goes_ Tryz.func117 (by kernel_rfl) rfl #[.slice (some ad428) y430.length c0, .string ((rd_T56 l0 x7_1).f0)] (by rfl) rfl rfl ab5 ?_
     with_reducible refine (impl_hasAttr.calls _ _ y430 ((rd_T56 l0 x7_1).f0) true _ ?side1 ?side2 A7.out).mono ?_
     (case side1 => repeat (first | exact (Kd.C_below HR433.out HB.out) | (with_reducible refine Kd.C_alloc ?_ _) | (with_reducible refine Kd.C_drewN ?_ _) | (with_reducible refine Kd.C_drew ?_)))
     (case side2 => exact HC433.out)
     rintro e w14 ⟨rfl, hb⟩
     refine ⟨_, rfl, ?_⟩
     replace BK429 := bl_ BK429 hb
     replace HB := am (below_step (ab2 GE429) hb)
     (try clear hb)
     refine hK.out _ _ ⟨(blk_cell BK429.out 0).trans rfl, (blk_cell BK429.out 1).trans rfl⟩ (fun hHeld => ?_)
     clear hK K
     refine nm_ ?_
     refine done_ (by kernel_rfl) ?_
     try go_wp2
     go_ret
     exact ⟨ab7, ab2 GE429⟩
    ·have H' := am H
     clear H
     obtain ⟨p428, q428, ad428, rfl, hx428_0, hx428_1, -⟩ := otT56 HB HR0.out x7_1 (of_decide_eq_true ab4) (of_decide_eq_true ab4)
     try go_wp2_with (first | ((with_reducible refine gd_ 4 ?_); refine bx_ 4 (cs := #[.string (⟨#[]⟩ : ByteArray), .string (⟨#[]⟩ : ByteArray)]) 56 ?_; intro gb429 hg w15 hbox hb; have BK429 := am hbox; have GW429 := ge_ (w := w) hg; have GE429 := ge_ (w := w) hg; replace HB := am (below_step ab1 hb); clear hb hbox hg; obtain ⟨⟨_, _⟩, _, _⟩ := Op.cells2 BK429.out))
     have n0_ : Aside0 (((w15.setCell ⟨gb429, 0, none⟩ (.string ((rd_T56 l0 x7_1).f0))).setCell ⟨gb429, 1, none⟩ (.string ((rd_T56 l0 x7_1).f1))).heap[gb429]? = some (.cells #[.string ((rd_T56 l0 x7_1).f0), .string ((rd_T56 l0 x7_1).f1)] 56 (0, 0))) := ⟨by (with_reducible repeat (first | refine blk_drewN ?_ _ | refine blk_drew ?_ | refine blk_alloc ?_ _)); refine blk_put (cs := #[.string ((rd_T56 l0 x7_1).f0), .string (⟨#[]⟩ : ByteArray)]) ?_ 1 _ rfl; (with_reducible repeat (first | refine blk_drewN ?_ _ | refine blk_drew ?_ | refine blk_alloc ?_ _)); refine blk_put (cs := #[.string (⟨#[]⟩ : ByteArray), .string (⟨#[]⟩ : ByteArray)]) ?_ 0 _ rfl; (with_reducible repeat (first | refine blk_drewN ?_ _ | refine blk_drew ?_ | refine blk_alloc ?_ _)); exact BK429.out⟩
     have n1_ : Aside0 (Below w.heap.size w ((w15.setCell ⟨gb429, 0, none⟩ (.string ((rd_T56 l0 x7_1).f0))).setCell ⟨gb429, 1, none⟩ (.string ((rd_T56 l0 x7_1).f1)))) := ⟨ab2 GE429⟩
     (try clear BK429)
     (try clear HB)
     generalize ((w15.setCell ⟨gb429, 0, none⟩ (.string ((rd_T56 l0 x7_1).f0))).setCell ⟨gb429, 1, none⟩ (.string ((rd_T56 l0 x7_1).f1))) = w17 at n0_ n1_ ⊢
     have BK429 := n0_
     have HB := n1_
     clear n0_ n1_
     replace BK429 := am (blk_drew BK429.out)
     replace HB := am (below_drew1 HB.out)
     have q19 : (x7_1 : Int) ≤ ((l0.length : Int) : Int) := of_decide_eq_true ab4
     obtain ⟨i019, hi019, _, hsz19, _⟩ := info_parts info56
     have hroom19 : l0.length ≤ c0 := HC0.out
     have hC19 : Kd.C k56 _ (some ad428) l0.length l0 := HR0.out
     have hcut19 := cut_to (P := Tryz.prog) 34 56 .i64 Tryz.underlying34 hi019 (some ad428) l0.length c0 x7_1 (of_decide_eq_true ab4) q19 hroom19
     have hr19 := Kd.C_take (m := (x7_1 : Int).toNat) hC19 (by omega)
     have hy19 : y430.length = (x7_1 : Int).toNat := (by rw [Ny430.out, List.length_take]; omega)
     rw [← Ny430.out] at hr19
     rw [← hy19] at hcut19
     have HR433 := am hr19
     have HC433 := am (show y430.length ≤ c0 from by omega)
     clear hr19 hC19 hroom19 hi019 hsz19
     have KY19 := am hy19
     clear hy19
     replace q19 := eq_true q19
     refine start_ (n := 6) (S := fun w' => w'.cell? ⟨gb429, 0, none⟩ = some (.string ((rd_T56 l0 x7_1).f0)) ∧ w'.cell? ⟨gb429, 1, none⟩ = some (.string ((rd_T56 l0 x7_1).f1))) (ds := []) #[false, false, false, false, false, false] (by kernel_rfl) rfl rfl ⟨(blk_cell BK429.out 0).trans rfl, (blk_cell BK429.out 1).trans rfl⟩ (fun hHeld => ?_)
     generalize w17.drew = w18 at BK429 HB HR433 hHeld ⊢
     refine pure_ (i := 0) (N := some 12) (v := ?_) (a' := ?_) #[true, false, false, false, false, false] rfl rfl (by kernel_rfl) (fun _ _ _ h => h) (Or.inl ⟨by rfl, ?_⟩) ?_ ?_
     rotate_left
     ·intro w'
      go_simp
      with_reducible rfl
     rotate_left
     ·simp only [Act.put, List.setIfInBounds_toArray, List.set_cons_zero, List.set_cons_succ, i64_w, i32_w]
      rfl
     refine pure_ (i := 1) (N := some 13) (v := ?_) (a' := ?_) #[true, true, false, false, false, false] rfl rfl (by kernel_rfl) (fun _ _ _ h => h) (Or.inl ⟨by rfl, ?_⟩) ?_ ?_
     rotate_left
     ·intro w'
      go_simp
      with_reducible rfl
     rotate_left
     ·simp only [Act.put, List.setIfInBounds_toArray, List.set_cons_zero, List.set_cons_succ, i64_w, i32_w]
      rfl
     refine pure_ (i := 2) (N := some 14) (v := ?_) (a' := ?_) #[true, true, true, false, false, false] rfl rfl (by kernel_rfl) (fun _ _ _ h => h) (Or.inl ⟨by rfl, ?_⟩) ?_ ?_
     rotate_left
     ·intro w'
      go_simp
      with_reducible rfl
     rotate_left
     ·simp only [Act.put, List.setIfInBounds_toArray, List.set_cons_zero, List.set_cons_succ, i64_w, i32_w]
      rfl
     refine pure_ (i := 3) (N := some 15) (v := ?_) (a' := ?_) #[true, true, true, true, false, false] rfl rfl (by kernel_rfl) (fun _ _ _ h => h) (Or.inl ⟨by rfl, ?_⟩) ?_ ?_
     rotate_left
     ·intro w'
      go_simp
      with_reducible rfl
     rotate_left
     ·simp only [Act.put, List.setIfInBounds_toArray, List.set_cons_zero, List.set_cons_succ, i64_w, i32_w]
      rfl
     refine take_ (i := 4) (N := some 16) (v := ?_) (a' := ?_) #[true, true, true, true, true, false] rfl rfl (by kernel_rfl) (fun _ _ _ h => h) (Or.inl ⟨by rfl, ?_⟩) hHeld ?_ ?_
     rotate_left
     ·rintro w' ⟨s0, s1⟩
      go_simp
      with_reducible rfl
     rotate_left
     ·simp only [Act.put, List.setIfInBounds_toArray, List.set_cons_zero, List.set_cons_succ, i64_w, i32_w]
      rfl
     refine one_ (i := 5) (N := some 17) #[true, true, true, true, true, true] rfl rfl (by kernel_rfl) (by decide) (fun K hK => ?_)
     refine goes_ Tryz.func117 (by kernel_rfl) rfl #[.slice (some ad428) y430.length c0, .string ((rd_T56 l0 x7_1).f0)] (by rfl) rfl rfl ab5 ?_
     with_reducible refine (impl_hasAttr.calls _ _ y430 ((rd_T56 l0 x7_1).f0) false _ ?side1 ?side2 A7.out).mono ?_
     (case side1 => repeat (first | exact (Kd.C_below HR433.out HB.out) | (with_reducible refine Kd.C_alloc ?_ _) | (with_reducible refine Kd.C_drewN ?_ _) | (with_reducible refine Kd.C_drew ?_)))
     (case side2 => exact HC433.out)
     rintro e w20 ⟨rfl, hb⟩
     refine ⟨_, rfl, ?_⟩
     replace BK429 := bl_ BK429 hb
     replace HB := am (below_step (ab2 GE429) hb)
     (try clear hb)
     refine hK.out _ _ ⟨(blk_cell BK429.out 0).trans rfl, (blk_cell BK429.out 1).trans rfl⟩ (fun hHeld => ?_)
     clear hK K
     refine nm_ ?_
     refine done_ (by kernel_rfl) ?_
     try go_wp2
     go_roundg k1
     case measure => have := HK1.out; omega
     case rel => exact ⟨(wrap64 (x7_1 + 1)), ab6, H', ⟨by have := HK1.out; omega⟩, ⟨ab2 GE429⟩⟩
   ·obtain rfl := Option.some.inj H
    go_wp2
    go_ret
    exact ⟨ab7, ab1⟩
def impl_itemOk.f (k : Nat) (a0_0 : Int) (a0_1 : Int) (a0_2 : ByteArray) (l0_3 : List (S56)) (a0_4 : ByteArray) (a0_5 : Int) (l0_6 : List Int) : Option (Bool) := if a0_0 = 2 then (if a0_4.toList = ([] : List UInt8) then (if a0_2.toList = ([] : List UInt8) then (some false) else ((impl_inRange.f a0_1 0 2).bind fun t436 => (if t436 = true then ((impl_namesOnce.f k l0_3).bind fun t437 => (some t437)) else (some false)))) else (some false)) else (if a0_0 = 3 then (if a0_2.toList = ([] : List UInt8) then (if a0_1 = 0 then (if (l0_3.length : Int) = 0 then (some ((l0_6.length : Int) == 0)) else (some false)) else (some false)) else (some false)) else (if a0_0 = 4 then (if a0_2.toList = ([] : List UInt8) then (if a0_1 = 0 then (if (l0_3.length : Int) = 0 then (some ((l0_6.length : Int) == 0)) else (some false)) else (some false)) else (some false)) else (if a0_0 = 5 then (if a0_2.toList = ([] : List UInt8) then (if a0_1 = 0 then (if (l0_3.length : Int) = 0 then (some ((l0_6.length : Int) == 0)) else (some false)) else (some false)) else (some false)) else (some false))))
theorem impl_itemOk.calls (k : Nat) (a0_0 : Int) (a0_1 : Int) (a0_2 : ByteArray) (A0_3 : Option Addr) (c0_3 : Nat) (l0_3 : List (S56)) (a0_4 : ByteArray) (a0_5 : Int) (A0_6 : Option Addr) (c0_6 : Nat) (l0_6 : List Int) (r : Bool) (w : World) (hr0_3 : Kd.C k56 w A0_3 l0_3.length l0_3) (hc0_3 : l0_3.length ≤ c0_3) (hr0_6 : Kd.C (Kd.int .i64) w A0_6 l0_6.length l0_6) (hc0_6 : l0_6.length ≤ c0_6) (h : impl_itemOk.f k a0_0 a0_1 a0_2 l0_3 a0_4 a0_5 l0_6 = some r) :
  Calls Tryz.prog 90 #[.agg #[.int .i64 a0_0, .int .i64 a0_1, .string a0_2, .slice A0_3 l0_3.length c0_3, .string a0_4, .int .i64 a0_5, .slice A0_6 l0_6.length c0_6]] w fun e w' => e = .returned (.bool r) ∧ Below w.heap.size w w' := by
 have hu53 := Tryz.underlying53
 have HR0_3 := am hr0_3
 have HC0_3 := am hc0_3
 clear hr0_3 hc0_3
 have HR0_6 := am hr0_6
 have HC0_6 := am hc0_6
 clear hr0_6 hc0_6
 have HB := am (Below.refl w.heap.size w)
 have H : (if a0_0 = 2 then (if a0_4.toList = ([] : List UInt8) then (if a0_2.toList = ([] : List UInt8) then (some false) else ((impl_inRange.f a0_1 0 2).bind fun t436 => (if t436 = true then ((impl_namesOnce.f k l0_3).bind fun t437 => (some t437)) else (some false)))) else (some false)) else (if a0_0 = 3 then (if a0_2.toList = ([] : List UInt8) then (if a0_1 = 0 then (if (l0_3.length : Int) = 0 then (some ((l0_6.length : Int) == 0)) else (some false)) else (some false)) else (some false)) else (if a0_0 = 4 then (if a0_2.toList = ([] : List UInt8) then (if a0_1 = 0 then (if (l0_3.length : Int) = 0 then (some ((l0_6.length : Int) == 0)) else (some false)) else (some false)) else (some false)) else (if a0_0 = 5 then (if a0_2.toList = ([] : List UInt8) then (if a0_1 = 0 then (if (l0_3.length : Int) = 0 then (some ((l0_6.length : Int) == 0)) else (some false)) else (some false)) else (some false)) else (some false))))) = some r := h
 clear h
 replace H := ie_ H; rcases H with ⟨c2b0, c2b1, H⟩ | ⟨c2, c2b0, c2b1, H⟩
 ·replace H := ie_ H; rcases H with ⟨c3b0, c3b1, H⟩ | ⟨c3, c3b0, c3b1, H⟩
  ·replace H := ie_ H; rcases H with ⟨c4b0, c4b1, H⟩ | ⟨c4, c4b0, c4b1, H⟩
   ·obtain rfl := Option.some.inj H
    go_enter Tryz.func90, Tryz.ntmps90
    go_wp2_with (first | ((with_reducible refine gd_ 1 ?_); (try (refine gate_guard (by rfl) ?_; dsimp only)); refine bx_ 1 (cs := #[.int .i64 a0_0, .int .i64 a0_1, .string a0_2, .slice A0_3 l0_3.length c0_3, .string a0_4, .int .i64 a0_5, .slice A0_6 l0_6.length c0_6]) 53 ?_; intro gb435 hg w5 hbox hb; have BK435 := am hbox; have GW435 := ge_ (w := w) hg; have GE435 := ge_ (w := w) hg; replace HB := am (below_step ab1 hb); clear hb hbox hg; obtain ⟨⟨_, _, _, _, _, _, _⟩, _, _, _, _, _, _, _⟩ := Op.cells7 BK435.out))
    go_ret
    exact ⟨ab7, ab2 GE435⟩
   ·replace H := bi_ H; obtain ⟨t436, A7, H⟩ := H
    replace H := ib_ H; rcases H with ⟨rfl, H⟩ | ⟨rfl, H⟩
    ·replace H := bi_ H; obtain ⟨t437, A9, H⟩ := H
     obtain rfl := Option.some.inj H
     go_enter Tryz.func90, Tryz.ntmps90
     go_wp2_with (first | ((with_reducible refine gd_ 1 ?_); (try (refine gate_guard (by rfl) ?_; dsimp only)); refine bx_ 1 (cs := #[.int .i64 a0_0, .int .i64 a0_1, .string a0_2, .slice A0_3 l0_3.length c0_3, .string a0_4, .int .i64 a0_5, .slice A0_6 l0_6.length c0_6]) 53 ?_; intro gb435 hg w10 hbox hb; have BK435 := am hbox; have GW435 := ge_ (w := w) hg; have GE435 := ge_ (w := w) hg; replace HB := am (below_step ab1 hb); clear hb hbox hg; obtain ⟨⟨_, _, _, _, _, _, _⟩, _, _, _, _, _, _, _⟩ := Op.cells7 BK435.out) | (go_at_call 87; (with_reducible refine (impl_inRange.calls a0_1 0 2 true _ A7.out).mono ?_); rintro e w' ⟨rfl, ⟨nd, rfl⟩⟩) | (go_at_call 107; (with_reducible refine (impl_namesOnce.calls k _ _ l0_3 t437 _ ?side1 ?side2 A9.out).mono ?_); (case side1 => repeat (first | exact (Kd.C_below HR0_3.out (ab2 GE435)) | (with_reducible refine Kd.C_alloc ?_ _) | (with_reducible refine Kd.C_drewN ?_ _) | (with_reducible refine Kd.C_drew ?_))); (case side2 => exact HC0_3.out); rintro e w12 ⟨rfl, hb⟩; replace BK435 := bl_ BK435 hb; replace HB := am (below_step (ab2 GE435) hb); (try clear hb)))
     go_ret
     exact ⟨ab7, ab2 GE435⟩
    ·obtain rfl := Option.some.inj H
     go_enter Tryz.func90, Tryz.ntmps90
     go_wp2_with (first | ((with_reducible refine gd_ 1 ?_); (try (refine gate_guard (by rfl) ?_; dsimp only)); refine bx_ 1 (cs := #[.int .i64 a0_0, .int .i64 a0_1, .string a0_2, .slice A0_3 l0_3.length c0_3, .string a0_4, .int .i64 a0_5, .slice A0_6 l0_6.length c0_6]) 53 ?_; intro gb435 hg w13 hbox hb; have BK435 := am hbox; have GW435 := ge_ (w := w) hg; have GE435 := ge_ (w := w) hg; replace HB := am (below_step ab1 hb); clear hb hbox hg; obtain ⟨⟨_, _, _, _, _, _, _⟩, _, _, _, _, _, _, _⟩ := Op.cells7 BK435.out) | (go_at_call 87; (with_reducible refine (impl_inRange.calls a0_1 0 2 false _ A7.out).mono ?_); rintro e w' ⟨rfl, ⟨nd, rfl⟩⟩))
     go_ret
     exact ⟨ab7, ab2 GE435⟩
  ·obtain rfl := Option.some.inj H
   go_enter Tryz.func90, Tryz.ntmps90
   go_wp2_with (first | ((with_reducible refine gd_ 1 ?_); (try (refine gate_guard (by rfl) ?_; dsimp only)); refine bx_ 1 (cs := #[.int .i64 a0_0, .int .i64 a0_1, .string a0_2, .slice A0_3 l0_3.length c0_3, .string a0_4, .int .i64 a0_5, .slice A0_6 l0_6.length c0_6]) 53 ?_; intro gb435 hg w15 hbox hb; have BK435 := am hbox; have GW435 := ge_ (w := w) hg; have GE435 := ge_ (w := w) hg; replace HB := am (below_step ab1 hb); clear hb hbox hg; obtain ⟨⟨_, _, _, _, _, _, _⟩, _, _, _, _, _, _, _⟩ := Op.cells7 BK435.out))
   go_ret
   exact ⟨ab7, ab2 GE435⟩
 ·replace H := ie_ H; rcases H with ⟨c17b0, c17b1, H⟩ | ⟨c17, c17b0, c17b1, H⟩
  ·replace H := ie_ H; rcases H with ⟨c18b0, c18b1, H⟩ | ⟨c18, c18b0, c18b1, H⟩
   ·replace H := ie_ H; rcases H with ⟨c19b0, c19b1, H⟩ | ⟨c19, c19b0, c19b1, H⟩
    ·replace H := ie_ H; rcases H with ⟨c20b0, c20b1, H⟩ | ⟨c20, c20b0, c20b1, H⟩
     ·obtain rfl := Option.some.inj H
      go_enter Tryz.func90, Tryz.ntmps90
      go_wp2_with (first | ((with_reducible refine gd_ 1 ?_); (try (refine gate_guard (by rfl) ?_; dsimp only)); refine bx_ 1 (cs := #[.int .i64 a0_0, .int .i64 a0_1, .string a0_2, .slice A0_3 l0_3.length c0_3, .string a0_4, .int .i64 a0_5, .slice A0_6 l0_6.length c0_6]) 53 ?_; intro gb435 hg w21 hbox hb; have BK435 := am hbox; have GW435 := ge_ (w := w) hg; have GE435 := ge_ (w := w) hg; replace HB := am (below_step ab1 hb); clear hb hbox hg; obtain ⟨⟨_, _, _, _, _, _, _⟩, _, _, _, _, _, _, _⟩ := Op.cells7 BK435.out))
      go_ret
      exact ⟨ab7, ab2 GE435⟩
     ·have c20b2 : ¬ (l0_3 = []) := fun h_ => c20 (by rw [h_]; rfl)
      obtain rfl := Option.some.inj H
      go_enter Tryz.func90, Tryz.ntmps90
      go_wp2_with (first | ((with_reducible refine gd_ 1 ?_); (try (refine gate_guard (by rfl) ?_; dsimp only)); refine bx_ 1 (cs := #[.int .i64 a0_0, .int .i64 a0_1, .string a0_2, .slice A0_3 l0_3.length c0_3, .string a0_4, .int .i64 a0_5, .slice A0_6 l0_6.length c0_6]) 53 ?_; intro gb435 hg w23 hbox hb; have BK435 := am hbox; have GW435 := ge_ (w := w) hg; have GE435 := ge_ (w := w) hg; replace HB := am (below_step ab1 hb); clear hb hbox hg; obtain ⟨⟨_, _, _, _, _, _, _⟩, _, _, _, _, _, _, _⟩ := Op.cells7 BK435.out))
      go_ret
      exact ⟨ab7, ab2 GE435⟩
    ·obtain rfl := Option.some.inj H
     go_enter Tryz.func90, Tryz.ntmps90
     go_wp2_with (first | ((with_reducible refine gd_ 1 ?_); (try (refine gate_guard (by rfl) ?_; dsimp only)); refine bx_ 1 (cs := #[.int .i64 a0_0, .int .i64 a0_1, .string a0_2, .slice A0_3 l0_3.length c0_3, .string a0_4, .int .i64 a0_5, .slice A0_6 l0_6.length c0_6]) 53 ?_; intro gb435 hg w25 hbox hb; have BK435 := am hbox; have GW435 := ge_ (w := w) hg; have GE435 := ge_ (w := w) hg; replace HB := am (below_step ab1 hb); clear hb hbox hg; obtain ⟨⟨_, _, _, _, _, _, _⟩, _, _, _, _, _, _, _⟩ := Op.cells7 BK435.out))
     go_ret
     exact ⟨ab7, ab2 GE435⟩
   ·obtain rfl := Option.some.inj H
    go_enter Tryz.func90, Tryz.ntmps90
    go_wp2_with (first | ((with_reducible refine gd_ 1 ?_); (try (refine gate_guard (by rfl) ?_; dsimp only)); refine bx_ 1 (cs := #[.int .i64 a0_0, .int .i64 a0_1, .string a0_2, .slice A0_3 l0_3.length c0_3, .string a0_4, .int .i64 a0_5, .slice A0_6 l0_6.length c0_6]) 53 ?_; intro gb435 hg w27 hbox hb; have BK435 := am hbox; have GW435 := ge_ (w := w) hg; have GE435 := ge_ (w := w) hg; replace HB := am (below_step ab1 hb); clear hb hbox hg; obtain ⟨⟨_, _, _, _, _, _, _⟩, _, _, _, _, _, _, _⟩ := Op.cells7 BK435.out))
    go_ret
    exact ⟨ab7, ab2 GE435⟩
  ·replace H := ie_ H; rcases H with ⟨c29b0, c29b1, H⟩ | ⟨c29, c29b0, c29b1, H⟩
   ·replace H := ie_ H; rcases H with ⟨c30b0, c30b1, H⟩ | ⟨c30, c30b0, c30b1, H⟩
    ·replace H := ie_ H; rcases H with ⟨c31b0, c31b1, H⟩ | ⟨c31, c31b0, c31b1, H⟩
     ·replace H := ie_ H; rcases H with ⟨c32b0, c32b1, H⟩ | ⟨c32, c32b0, c32b1, H⟩
      ·obtain rfl := Option.some.inj H
       go_enter Tryz.func90, Tryz.ntmps90
       go_wp2_with (first | ((with_reducible refine gd_ 1 ?_); (try (refine gate_guard (by rfl) ?_; dsimp only)); refine bx_ 1 (cs := #[.int .i64 a0_0, .int .i64 a0_1, .string a0_2, .slice A0_3 l0_3.length c0_3, .string a0_4, .int .i64 a0_5, .slice A0_6 l0_6.length c0_6]) 53 ?_; intro gb435 hg w33 hbox hb; have BK435 := am hbox; have GW435 := ge_ (w := w) hg; have GE435 := ge_ (w := w) hg; replace HB := am (below_step ab1 hb); clear hb hbox hg; obtain ⟨⟨_, _, _, _, _, _, _⟩, _, _, _, _, _, _, _⟩ := Op.cells7 BK435.out))
       go_ret
       exact ⟨ab7, ab2 GE435⟩
      ·have c32b2 : ¬ (l0_3 = []) := fun h_ => c32 (by rw [h_]; rfl)
       obtain rfl := Option.some.inj H
       go_enter Tryz.func90, Tryz.ntmps90
       go_wp2_with (first | ((with_reducible refine gd_ 1 ?_); (try (refine gate_guard (by rfl) ?_; dsimp only)); refine bx_ 1 (cs := #[.int .i64 a0_0, .int .i64 a0_1, .string a0_2, .slice A0_3 l0_3.length c0_3, .string a0_4, .int .i64 a0_5, .slice A0_6 l0_6.length c0_6]) 53 ?_; intro gb435 hg w35 hbox hb; have BK435 := am hbox; have GW435 := ge_ (w := w) hg; have GE435 := ge_ (w := w) hg; replace HB := am (below_step ab1 hb); clear hb hbox hg; obtain ⟨⟨_, _, _, _, _, _, _⟩, _, _, _, _, _, _, _⟩ := Op.cells7 BK435.out))
       go_ret
       exact ⟨ab7, ab2 GE435⟩
     ·obtain rfl := Option.some.inj H
      go_enter Tryz.func90, Tryz.ntmps90
      go_wp2_with (first | ((with_reducible refine gd_ 1 ?_); (try (refine gate_guard (by rfl) ?_; dsimp only)); refine bx_ 1 (cs := #[.int .i64 a0_0, .int .i64 a0_1, .string a0_2, .slice A0_3 l0_3.length c0_3, .string a0_4, .int .i64 a0_5, .slice A0_6 l0_6.length c0_6]) 53 ?_; intro gb435 hg w37 hbox hb; have BK435 := am hbox; have GW435 := ge_ (w := w) hg; have GE435 := ge_ (w := w) hg; replace HB := am (below_step ab1 hb); clear hb hbox hg; obtain ⟨⟨_, _, _, _, _, _, _⟩, _, _, _, _, _, _, _⟩ := Op.cells7 BK435.out))
      go_ret
      exact ⟨ab7, ab2 GE435⟩
    ·obtain rfl := Option.some.inj H
     go_enter Tryz.func90, Tryz.ntmps90
     go_wp2_with (first | ((with_reducible refine gd_ 1 ?_); (try (refine gate_guard (by rfl) ?_; dsimp only)); refine bx_ 1 (cs := #[.int .i64 a0_0, .int .i64 a0_1, .string a0_2, .slice A0_3 l0_3.length c0_3, .string a0_4, .int .i64 a0_5, .slice A0_6 l0_6.length c0_6]) 53 ?_; intro gb435 hg w39 hbox hb; have BK435 := am hbox; have GW435 := ge_ (w := w) hg; have GE435 := ge_ (w := w) hg; replace HB := am (below_step ab1 hb); clear hb hbox hg; obtain ⟨⟨_, _, _, _, _, _, _⟩, _, _, _, _, _, _, _⟩ := Op.cells7 BK435.out))
     go_ret
     exact ⟨ab7, ab2 GE435⟩
   ·replace H := ie_ H; rcases H with ⟨c41b0, c41b1, H⟩ | ⟨c41, c41b0, c41b1, H⟩
    ·replace H := ie_ H; rcases H with ⟨c42b0, c42b1, H⟩ | ⟨c42, c42b0, c42b1, H⟩
     ·replace H := ie_ H; rcases H with ⟨c43b0, c43b1, H⟩ | ⟨c43, c43b0, c43b1, H⟩
      ·replace H := ie_ H; rcases H with ⟨c44b0, c44b1, H⟩ | ⟨c44, c44b0, c44b1, H⟩
       ·obtain rfl := Option.some.inj H
        go_enter Tryz.func90, Tryz.ntmps90
        go_wp2_with (first | ((with_reducible refine gd_ 1 ?_); (try (refine gate_guard (by rfl) ?_; dsimp only)); refine bx_ 1 (cs := #[.int .i64 a0_0, .int .i64 a0_1, .string a0_2, .slice A0_3 l0_3.length c0_3, .string a0_4, .int .i64 a0_5, .slice A0_6 l0_6.length c0_6]) 53 ?_; intro gb435 hg w45 hbox hb; have BK435 := am hbox; have GW435 := ge_ (w := w) hg; have GE435 := ge_ (w := w) hg; replace HB := am (below_step ab1 hb); clear hb hbox hg; obtain ⟨⟨_, _, _, _, _, _, _⟩, _, _, _, _, _, _, _⟩ := Op.cells7 BK435.out))
        go_ret
        exact ⟨ab7, ab2 GE435⟩
       ·have c44b2 : ¬ (l0_3 = []) := fun h_ => c44 (by rw [h_]; rfl)
        obtain rfl := Option.some.inj H
        go_enter Tryz.func90, Tryz.ntmps90
        go_wp2_with (first | ((with_reducible refine gd_ 1 ?_); (try (refine gate_guard (by rfl) ?_; dsimp only)); refine bx_ 1 (cs := #[.int .i64 a0_0, .int .i64 a0_1, .string a0_2, .slice A0_3 l0_3.length c0_3, .string a0_4, .int .i64 a0_5, .slice A0_6 l0_6.length c0_6]) 53 ?_; intro gb435 hg w47 hbox hb; have BK435 := am hbox; have GW435 := ge_ (w := w) hg; have GE435 := ge_ (w := w) hg; replace HB := am (below_step ab1 hb); clear hb hbox hg; obtain ⟨⟨_, _, _, _, _, _, _⟩, _, _, _, _, _, _, _⟩ := Op.cells7 BK435.out))
        go_ret
        exact ⟨ab7, ab2 GE435⟩
      ·obtain rfl := Option.some.inj H
       go_enter Tryz.func90, Tryz.ntmps90
       go_wp2_with (first | ((with_reducible refine gd_ 1 ?_); (try (refine gate_guard (by rfl) ?_; dsimp only)); refine bx_ 1 (cs := #[.int .i64 a0_0, .int .i64 a0_1, .string a0_2, .slice A0_3 l0_3.length c0_3, .string a0_4, .int .i64 a0_5, .slice A0_6 l0_6.length c0_6]) 53 ?_; intro gb435 hg w49 hbox hb; have BK435 := am hbox; have GW435 := ge_ (w := w) hg; have GE435 := ge_ (w := w) hg; replace HB := am (below_step ab1 hb); clear hb hbox hg; obtain ⟨⟨_, _, _, _, _, _, _⟩, _, _, _, _, _, _, _⟩ := Op.cells7 BK435.out))
       go_ret
       exact ⟨ab7, ab2 GE435⟩
     ·obtain rfl := Option.some.inj H
      go_enter Tryz.func90, Tryz.ntmps90
      go_wp2_with (first | ((with_reducible refine gd_ 1 ?_); (try (refine gate_guard (by rfl) ?_; dsimp only)); refine bx_ 1 (cs := #[.int .i64 a0_0, .int .i64 a0_1, .string a0_2, .slice A0_3 l0_3.length c0_3, .string a0_4, .int .i64 a0_5, .slice A0_6 l0_6.length c0_6]) 53 ?_; intro gb435 hg w51 hbox hb; have BK435 := am hbox; have GW435 := ge_ (w := w) hg; have GE435 := ge_ (w := w) hg; replace HB := am (below_step ab1 hb); clear hb hbox hg; obtain ⟨⟨_, _, _, _, _, _, _⟩, _, _, _, _, _, _, _⟩ := Op.cells7 BK435.out))
      go_ret
      exact ⟨ab7, ab2 GE435⟩
    ·obtain rfl := Option.some.inj H
     go_enter Tryz.func90, Tryz.ntmps90
     go_wp2_with (first | ((with_reducible refine gd_ 1 ?_); (try (refine gate_guard (by rfl) ?_; dsimp only)); refine bx_ 1 (cs := #[.int .i64 a0_0, .int .i64 a0_1, .string a0_2, .slice A0_3 l0_3.length c0_3, .string a0_4, .int .i64 a0_5, .slice A0_6 l0_6.length c0_6]) 53 ?_; intro gb435 hg w53 hbox hb; have BK435 := am hbox; have GW435 := ge_ (w := w) hg; have GE435 := ge_ (w := w) hg; replace HB := am (below_step ab1 hb); clear hb hbox hg; obtain ⟨⟨_, _, _, _, _, _, _⟩, _, _, _, _, _, _, _⟩ := Op.cells7 BK435.out))
     go_ret
     exact ⟨ab7, ab2 GE435⟩
def impl_hasKids.f (a0 : Int) : Option (Bool) := if a0 = 1 then (some true) else (some (a0 == 2))
theorem impl_hasKids.calls (a0 : Int) (r : Bool) (w : World) (h : impl_hasKids.f a0 = some r) :
  Calls Tryz.prog 91 #[.int .i64 a0] w fun e w' => e = .returned (.bool r) ∧ Drawn0 w w' := by
 have H : (if a0 = 1 then (some true) else (some (a0 == 2))) = some r := h
 clear h
 replace H := ie_ H; rcases H with ⟨c2b0, c2b1, H⟩ | ⟨c2, c2b0, c2b1, H⟩
 ·obtain rfl := Option.some.inj H
  go_enter Tryz.func91, Tryz.ntmps91
  go_wp2
  go_ret
  exact ⟨ab6, by repeat (first | exact Drawn0.refl _ | apply Drawn0.step)⟩
 ·obtain rfl := Option.some.inj H
  go_enter Tryz.func91, Tryz.ntmps91
  go_wp2
  go_ret
  exact ⟨ab6, by repeat (first | exact Drawn0.refl _ | apply Drawn0.step)⟩
end Go.Proofs.YtekkalnafngfeaaGreat.P
