-- WRITTEN BY this session's own programs
import Derived.Test.YtekkalnafngfeaaGreatPr2
import Derived.Test.YtekkalnafngfeaaGreatPr13
namespace Go.Proofs.YtekkalnafngfeaaGreat.P
open Go.RowKit Go.Proofs.YtekkalnafngfeaaGreatW.PrintWords Go.Proofs.YtekkalnafngfeaaGreatW.PrintLast Go.Proofs.YtekkalnafngfeaaGreatW.PrintMore
set_option linter.unusedVariables false
set_option linter.unusedSimpArgs false
set_option maxHeartbeats 8000000
set_option maxRecDepth 100000
attribute [local go_sem] max2_int min2_int max_two min_two max_three min_three max_four min_four
def spec_l8Copy.f (k : Nat) (l0_0 : List (S53)) (l0_1 : List Int) (l0_2 : List Int) (a0_3 : Int) (a0_4 : Int) : Option ((List (S53)) × List Int × List Int × Int × Int) := (spec_l6Copy.f k l0_0).bind fun t314 => ((some (([] : List Int) : List Int)).bind fun y317 => (if y317.length + l0_1.length < 17592186044416 then ((some (([] : List Int) : List Int)).bind fun y323 => (if y323.length + l0_2.length < 17592186044416 then (some (t314, (y317 ++ l0_1), (y323 ++ l0_2), a0_3, a0_4)) else (none))) else (none)))
def spec_l8Copy.T1 : Bool × List (List Nat × List Nat) := (true, [([], []), ([0], [0]), ([1], [1]), ([], []), ([], []), ([4], [4]), ([3, 5, 2], [3, 5]), ([], []), ([], []), ([8], [8]), ([7, 9, 6], [7, 9]), ([], []), ([11], [11]), ([], []), ([13], [13]), ([2, 6, 10, 12, 14], [2, 6, 10, 12, 14]), ([15, 10, 0, 1, 2, 3, 4, 5, 6, 7, 8, 9, 10, 11, 12, 13, 14, 15], [15])])
def spec_l8Copy.B1 : List Nat := [0, 1, 3, 0, 0, 16, 63, 0, 0, 256, 1023, 0, 2048, 0, 8192, 32767, 65535]
theorem spec_l8Copy.tab1 : rtab .any (opsOf Tryz.f26 1) = spec_l8Copy.T1 := by kernel_rfl
theorem spec_l8Copy.bits1 : waitsOk spec_l8Copy.T1.2 spec_l8Copy.B1 = true := by kernel_rfl
theorem spec_l8Copy.calls (k : Nat) (A0_0 : Option Addr) (c0_0 : Nat) (l0_0 : List (S53)) (A0_1 : Option Addr) (c0_1 : Nat) (l0_1 : List Int) (A0_2 : Option Addr) (c0_2 : Nat) (l0_2 : List Int) (a0_3 : Int) (a0_4 : Int) (r1 : List (S53)) (r2 : List Int) (r3 : List Int) (r4 : Int) (r5 : Int) (w : World) (hr0_0 : Kd.C k53 w A0_0 l0_0.length l0_0) (hc0_0 : l0_0.length ≤ c0_0) (hr0_1 : Kd.C (Kd.int .i64) w A0_1 l0_1.length l0_1) (hc0_1 : l0_1.length ≤ c0_1) (hr0_2 : Kd.C (Kd.int .i64) w A0_2 l0_2.length l0_2) (hc0_2 : l0_2.length ≤ c0_2) (h : spec_l8Copy.f k l0_0 l0_1 l0_2 a0_3 a0_4 = some (r1, r2, r3, r4, r5)) :
  Calls Tryz.prog 26 #[.agg #[.slice A0_0 l0_0.length c0_0, .slice A0_1 l0_1.length c0_1, .slice A0_2 l0_2.length c0_2, .int .i64 a0_3, .int .i64 a0_4]] w fun e w' => ∃ v0_ v1_ v2_ : Value, e = .returned (.agg #[v0_, v1_, v2_, .int .i64 r4, .int .i64 r5]) ∧ Kd.S k53 53 w' w.heap.size (fun k_ => some k_ ≠ (v1_ : Value).ownBlock ∧ some k_ ≠ (v2_ : Value).ownBlock) v0_ r1 ∧ Kd.R (Kd.int .i64) 3 w' w.heap.size (fun k_ => some k_ ≠ (v2_ : Value).ownBlock) v1_ r2 ∧ Kd.R (Kd.int .i64) 3 w' w.heap.size (fun k_ => some k_ ≠ (v1_ : Value).ownBlock) v2_ r3 ∧ Below w.heap.size w w' := by
 have hu31 := Tryz.underlying31
 have HR0_0 := am hr0_0
 have HC0_0 := am hc0_0
 clear hr0_0 hc0_0
 have HR0_1 := am hr0_1
 have HC0_1 := am hc0_1
 clear hr0_1 hc0_1
 have HR0_2 := am hr0_2
 have HC0_2 := am hc0_2
 clear hr0_2 hc0_2
 have HB := am (Below.refl w.heap.size w)
 have H : ((spec_l6Copy.f k l0_0).bind fun t314 => ((some (([] : List Int) : List Int)).bind fun y317 => (if y317.length + l0_1.length < 17592186044416 then ((some (([] : List Int) : List Int)).bind fun y323 => (if y323.length + l0_2.length < 17592186044416 then (some (t314, (y317 ++ l0_1), (y323 ++ l0_2), a0_3, a0_4)) else (none))) else (none)))) = some (r1, r2, r3, r4, r5) := h
 clear h
 replace H := bi_ H; obtain ⟨t314, A2, H⟩ := H
 obtain ⟨y317, hy317⟩ : ∃ y_ : List Int, y_ = (([] : List Int)) := ⟨_, rfl⟩
 replace H : (if y317.length + l0_1.length < 17592186044416 then ((some (([] : List Int) : List Int)).bind fun y323 => (if y323.length + l0_2.length < 17592186044416 then (some (t314, (y317 ++ l0_1), (y323 ++ l0_2), a0_3, a0_4)) else (none))) else (none)) = some (r1, r2, r3, r4, r5) := by first | (rw [hy317]; with_reducible exact H) | (have H2_ := (Option.bind_some _ _).symm.trans H; rw [hy317]; with_reducible exact H2_) | (have H2_ := (Option.bind_some _ _).symm.trans H; with_reducible exact H2_) | with_reducible exact H | (rw [hy317]; exact H) | exact H
 have Ny317 := am hy317
 clear hy317
 by_cases c3 : y317.length + l0_1.length < 17592186044416
 case neg => rw [if_neg c3] at H; exact absurd H (by simp)
 rw [if_pos c3] at H
 have LMc3 := am c3
 clear c3
 obtain ⟨y320, hy320⟩ : ∃ y_ : List Int, y_ = (y317 ++ l0_1) := ⟨_, rfl⟩
 replace H : ((some (([] : List Int) : List Int)).bind fun y323 => (if y323.length + l0_2.length < 17592186044416 then (some (t314, y320, (y323 ++ l0_2), a0_3, a0_4)) else (none))) = some (r1, r2, r3, r4, r5) := by first | (rw [hy320]; with_reducible exact H) | (have H2_ := (Option.bind_some _ _).symm.trans H; rw [hy320]; with_reducible exact H2_) | (have H2_ := (Option.bind_some _ _).symm.trans H; with_reducible exact H2_) | with_reducible exact H | (rw [hy320]; exact H) | exact H
 have Ny320 := am hy320
 clear hy320
 obtain ⟨y323, hy323⟩ : ∃ y_ : List Int, y_ = (([] : List Int)) := ⟨_, rfl⟩
 replace H : (if y323.length + l0_2.length < 17592186044416 then (some (t314, y320, (y323 ++ l0_2), a0_3, a0_4)) else (none)) = some (r1, r2, r3, r4, r5) := by first | (rw [hy323]; with_reducible exact H) | (have H2_ := (Option.bind_some _ _).symm.trans H; rw [hy323]; with_reducible exact H2_) | (have H2_ := (Option.bind_some _ _).symm.trans H; with_reducible exact H2_) | with_reducible exact H | (rw [hy323]; exact H) | exact H
 have Ny323 := am hy323
 clear hy323
 by_cases c4 : y323.length + l0_2.length < 17592186044416
 case neg => rw [if_neg c4] at H; exact absurd H (by simp)
 rw [if_pos c4] at H
 have LMc4 := am c4
 clear c4
 obtain ⟨y326, hy326⟩ : ∃ y_ : List Int, y_ = (y323 ++ l0_2) := ⟨_, rfl⟩
 replace H : (some (t314, y320, y326, a0_3, a0_4)) = some (r1, r2, r3, r4, r5) := by first | (rw [hy326]; with_reducible exact H) | (have H2_ := (Option.bind_some _ _).symm.trans H; rw [hy326]; with_reducible exact H2_) | (have H2_ := (Option.bind_some _ _).symm.trans H; with_reducible exact H2_) | with_reducible exact H | (rw [hy326]; exact H) | exact H
 have Ny326 := am hy326
 clear hy326
 simp only [Option.some.injEq, Prod.mk.injEq] at H
 obtain ⟨rfl, rfl, rfl, rfl, rfl⟩ := H
 go_enter Tryz.func26, Tryz.ntmps26
 try go_wp2_with (first | ((with_reducible refine gd_ 1 ?_); refine bx_ 1 (cs := #[.slice A0_0 l0_0.length c0_0, .slice A0_1 l0_1.length c0_1, .slice A0_2 l0_2.length c0_2, .int .i64 a0_3, .int .i64 a0_4]) 31 ?_; intro gb312 hg w5 hbox hb; have BK312 := am hbox; have GW312 := ge_ (w := w) hg; have GE312 := ge_ (w := w) hg; replace HB := am (below_step ab1 hb); clear hb hbox hg) | ((with_reducible refine gd_ 2 ?_); refine bx_ 2 (cs := #[.slice none 0 0, .slice none 0 0, .slice none 0 0, .int .i64 0, .int .i64 0]) 31 ?_; intro gb313 hg w6 hbox hb; have BK313 := am hbox; have GW313 := gE_ (w := w) GE312 hg; have GE313 := gE_ (w := w) GE312 hg; replace HB := am (below_step (ab2 GE312) hb); have NB312_313 := nl_ BK312 hg; have NB313_312 := ng_ BK312 hg; replace BK312 := bl_ BK312 hb; clear hb hbox hg))
 replace BK312 := am (blk_drew BK312.out)
 replace BK313 := am (blk_drew BK313.out)
 replace HB := am (below_drew1 HB.out)
 refine start_ (n := 17) (S := fun w' => w'.cell? ⟨gb312, 0, none⟩ = some (.slice A0_0 l0_0.length c0_0) ∧ w'.cell? ⟨gb312, 1, none⟩ = some (.slice A0_1 l0_1.length c0_1) ∧ w'.cell? ⟨gb312, 2, none⟩ = some (.slice A0_2 l0_2.length c0_2) ∧ w'.cell? ⟨gb312, 3, none⟩ = some (.int .i64 a0_3) ∧ w'.cell? ⟨gb312, 4, none⟩ = some (.int .i64 a0_4)) (ds := []) #[false, false, false, false, false, false, false, false, false, false, false, false, false, false, false, false, false] (by kernel_rfl) rfl rfl ⟨(blk_cell BK312.out 0).trans rfl, (blk_cell BK312.out 1).trans rfl, (blk_cell BK312.out 2).trans rfl, (blk_cell BK312.out 3).trans rfl, (blk_cell BK312.out 4).trans rfl⟩ (fun hHeld => ?_); refine with_tabW spec_l8Copy.tab1 spec_l8Copy.bits1 (fun HT_ HW_ => ?_)
 generalize w6.drew = w7 at BK312 BK313 HB hHeld ⊢
 refine pa_ 0 3 HT_ ?_
 refine pa_ 4 7 HT_ ?_
 refine pa_ 8 11 HT_ ?_
 refine pa_ 11 14 HT_ ?_
 refine pa_ 13 16 HT_ ?_
 refine tk_ 1 4 HT_ HW_ hHeld ?_
 refine tk_ 5 8 HT_ HW_ hHeld ?_
 refine tk_ 9 12 HT_ HW_ hHeld ?_
 refine tk_ 12 15 HT_ HW_ hHeld ?_
 refine tk_ 14 17 HT_ HW_ hHeld ?_
 refine join_ (σ := Value × Value × Value × Value) 3 #[true, true, true, true, true, true, true, true, true, true, false, true, true, true, true, false, false] (fun s_ => [(5, s_.1), (6, s_.2.1), (9, s_.2.2.1), (10, s_.2.2.2)]) (fun s_ w' => (w'.cell? ⟨gb312, 0, none⟩ = some (.slice A0_0 l0_0.length c0_0) ∧ w'.cell? ⟨gb312, 1, none⟩ = some (.slice A0_1 l0_1.length c0_1) ∧ w'.cell? ⟨gb312, 2, none⟩ = some (.slice A0_2 l0_2.length c0_2) ∧ w'.cell? ⟨gb312, 3, none⟩ = some (.int .i64 a0_3) ∧ w'.cell? ⟨gb312, 4, none⟩ = some (.int .i64 a0_4)) ∧ (Kd.S k53 53 w' w.heap.size (fun k_ => some k_ ≠ (s_.2.2.1 : Value).ownBlock ∧ some k_ ≠ (s_.2.2.2 : Value).ownBlock) s_.1 t314) ∧ (Kd.R (Kd.int .i64) 3 w' w.heap.size (fun k_ => some k_ ≠ (s_.2.2.2 : Value).ownBlock) s_.2.2.1 y320) ∧ (Kd.R (Kd.int .i64) 3 w' w.heap.size (fun k_ => some k_ ≠ (s_.2.2.1 : Value).ownBlock) s_.2.2.2 y323) ∧ (w'.heap[gb312]? = some (.cells #[.slice A0_0 l0_0.length c0_0, .slice A0_1 l0_1.length c0_1, .slice A0_2 l0_2.length c0_2, .int .i64 a0_3, .int .i64 a0_4] 31 (0, 0))) ∧ (w'.heap[gb313]? = some (.cells #[.slice none 0 0, .slice none 0 0, .slice none 0 0, .int .i64 0, .int .i64 0] 31 (0, 0))) ∧ (Below w.heap.size w w')) ?_ ?_
 rotate_left
 ·intro hJ2_3_6_7
  refine join_ (σ := Value × Value × Value) 4 #[true, true, true, true, true, true, true, false, true, true, false, true, true, true, true, false, false] (fun s_ => [(5, s_.1), (6, s_.2.1), (9, s_.2.2)]) (fun s_ w' => (w'.cell? ⟨gb312, 0, none⟩ = some (.slice A0_0 l0_0.length c0_0) ∧ w'.cell? ⟨gb312, 1, none⟩ = some (.slice A0_1 l0_1.length c0_1) ∧ w'.cell? ⟨gb312, 2, none⟩ = some (.slice A0_2 l0_2.length c0_2) ∧ w'.cell? ⟨gb312, 3, none⟩ = some (.int .i64 a0_3) ∧ w'.cell? ⟨gb312, 4, none⟩ = some (.int .i64 a0_4)) ∧ (Kd.S k53 53 w' w.heap.size (fun k_ => some k_ ≠ (s_.2.2 : Value).ownBlock) s_.1 t314) ∧ (Kd.R (Kd.int .i64) 3 w' w.heap.size (fun _ => True) s_.2.2 y320) ∧ (w'.heap[gb312]? = some (.cells #[.slice A0_0 l0_0.length c0_0, .slice A0_1 l0_1.length c0_1, .slice A0_2 l0_2.length c0_2, .int .i64 a0_3, .int .i64 a0_4] 31 (0, 0))) ∧ (w'.heap[gb313]? = some (.cells #[.slice none 0 0, .slice none 0 0, .slice none 0 0, .int .i64 0, .int .i64 0] 31 (0, 0))) ∧ (Below w.heap.size w w')) ?_ ?_
  rotate_left
  ·intro hJ2_3_6
   refine join_ (σ := Value × Value × Value) 4 #[true, true, true, true, true, true, false, true, true, true, false, true, true, true, true, false, false] (fun s_ => [(5, s_.1), (6, s_.2.1), (10, s_.2.2)]) (fun s_ w' => (w'.cell? ⟨gb312, 0, none⟩ = some (.slice A0_0 l0_0.length c0_0) ∧ w'.cell? ⟨gb312, 1, none⟩ = some (.slice A0_1 l0_1.length c0_1) ∧ w'.cell? ⟨gb312, 2, none⟩ = some (.slice A0_2 l0_2.length c0_2) ∧ w'.cell? ⟨gb312, 3, none⟩ = some (.int .i64 a0_3) ∧ w'.cell? ⟨gb312, 4, none⟩ = some (.int .i64 a0_4)) ∧ (Kd.S k53 53 w' w.heap.size (fun k_ => some k_ ≠ (s_.2.1 : Value).ownBlock ∧ some k_ ≠ (s_.2.2 : Value).ownBlock) s_.1 t314) ∧ (Kd.R (Kd.int .i64) 3 w' w.heap.size (fun k_ => some k_ ≠ (s_.2.2 : Value).ownBlock) s_.2.1 y317) ∧ (Kd.R (Kd.int .i64) 3 w' w.heap.size (fun k_ => some k_ ≠ (s_.2.1 : Value).ownBlock) s_.2.2 y323) ∧ (w'.heap[gb312]? = some (.cells #[.slice A0_0 l0_0.length c0_0, .slice A0_1 l0_1.length c0_1, .slice A0_2 l0_2.length c0_2, .int .i64 a0_3, .int .i64 a0_4] 31 (0, 0))) ∧ (w'.heap[gb313]? = some (.cells #[.slice none 0 0, .slice none 0 0, .slice none 0 0, .int .i64 0, .int .i64 0] 31 (0, 0))) ∧ (Below w.heap.size w w')) ?_ ?_
   rotate_left
   ·intro hJ2_3_7
    refine join_ (σ := Value × Value) 5 #[true, true, true, true, true, true, false, false, true, true, false, true, true, true, true, false, false] (fun s_ => [(5, s_.1), (6, s_.2)]) (fun s_ w' => (w'.cell? ⟨gb312, 0, none⟩ = some (.slice A0_0 l0_0.length c0_0) ∧ w'.cell? ⟨gb312, 1, none⟩ = some (.slice A0_1 l0_1.length c0_1) ∧ w'.cell? ⟨gb312, 2, none⟩ = some (.slice A0_2 l0_2.length c0_2) ∧ w'.cell? ⟨gb312, 3, none⟩ = some (.int .i64 a0_3) ∧ w'.cell? ⟨gb312, 4, none⟩ = some (.int .i64 a0_4)) ∧ (Kd.S k53 53 w' w.heap.size (fun k_ => some k_ ≠ (s_.2 : Value).ownBlock) s_.1 t314) ∧ (Kd.R (Kd.int .i64) 3 w' w.heap.size (fun _ => True) s_.2 y317) ∧ (w'.heap[gb312]? = some (.cells #[.slice A0_0 l0_0.length c0_0, .slice A0_1 l0_1.length c0_1, .slice A0_2 l0_2.length c0_2, .int .i64 a0_3, .int .i64 a0_4] 31 (0, 0))) ∧ (w'.heap[gb313]? = some (.cells #[.slice none 0 0, .slice none 0 0, .slice none 0 0, .int .i64 0, .int .i64 0] 31 (0, 0))) ∧ (Below w.heap.size w w')) ?_ ?_
    rotate_left
    ·intro hJ2_3
     refine join_ (σ := Value × Value) 5 #[true, true, true, false, true, true, false, true, true, true, false, true, true, true, true, false, false] (fun s_ => [(5, s_.1), (10, s_.2)]) (fun s_ w' => (w'.cell? ⟨gb312, 0, none⟩ = some (.slice A0_0 l0_0.length c0_0) ∧ w'.cell? ⟨gb312, 1, none⟩ = some (.slice A0_1 l0_1.length c0_1) ∧ w'.cell? ⟨gb312, 2, none⟩ = some (.slice A0_2 l0_2.length c0_2) ∧ w'.cell? ⟨gb312, 3, none⟩ = some (.int .i64 a0_3) ∧ w'.cell? ⟨gb312, 4, none⟩ = some (.int .i64 a0_4)) ∧ (Kd.S k53 53 w' w.heap.size (fun k_ => some k_ ≠ (s_.2 : Value).ownBlock) s_.1 t314) ∧ (Kd.R (Kd.int .i64) 3 w' w.heap.size (fun _ => True) s_.2 y323) ∧ (w'.heap[gb312]? = some (.cells #[.slice A0_0 l0_0.length c0_0, .slice A0_1 l0_1.length c0_1, .slice A0_2 l0_2.length c0_2, .int .i64 a0_3, .int .i64 a0_4] 31 (0, 0))) ∧ (w'.heap[gb313]? = some (.cells #[.slice none 0 0, .slice none 0 0, .slice none 0 0, .int .i64 0, .int .i64 0] 31 (0, 0))) ∧ (Below w.heap.size w w')) ?_ ?_
     rotate_left
     ·intro hJ2_7
      refine join_ (σ := Value × Value) 5 #[true, true, false, true, true, true, false, true, true, true, false, true, true, true, true, false, false] (fun s_ => [(6, s_.1), (10, s_.2)]) (fun s_ w' => (w'.cell? ⟨gb312, 0, none⟩ = some (.slice A0_0 l0_0.length c0_0) ∧ w'.cell? ⟨gb312, 1, none⟩ = some (.slice A0_1 l0_1.length c0_1) ∧ w'.cell? ⟨gb312, 2, none⟩ = some (.slice A0_2 l0_2.length c0_2) ∧ w'.cell? ⟨gb312, 3, none⟩ = some (.int .i64 a0_3) ∧ w'.cell? ⟨gb312, 4, none⟩ = some (.int .i64 a0_4)) ∧ (Kd.R (Kd.int .i64) 3 w' w.heap.size (fun k_ => some k_ ≠ (s_.2 : Value).ownBlock) s_.1 y317) ∧ (Kd.R (Kd.int .i64) 3 w' w.heap.size (fun k_ => some k_ ≠ (s_.1 : Value).ownBlock) s_.2 y323) ∧ (w'.heap[gb312]? = some (.cells #[.slice A0_0 l0_0.length c0_0, .slice A0_1 l0_1.length c0_1, .slice A0_2 l0_2.length c0_2, .int .i64 a0_3, .int .i64 a0_4] 31 (0, 0))) ∧ (w'.heap[gb313]? = some (.cells #[.slice none 0 0, .slice none 0 0, .slice none 0 0, .int .i64 0, .int .i64 0] 31 (0, 0))) ∧ (Below w.heap.size w w')) ?_ ?_
      rotate_left
      ·intro hJ3_7
       refine join_ (σ := Value) 6 #[true, true, true, false, true, true, false, false, true, true, false, true, true, true, true, false, false] (fun s_ => [(5, s_)]) (fun s_ w' => (w'.cell? ⟨gb312, 0, none⟩ = some (.slice A0_0 l0_0.length c0_0) ∧ w'.cell? ⟨gb312, 1, none⟩ = some (.slice A0_1 l0_1.length c0_1) ∧ w'.cell? ⟨gb312, 2, none⟩ = some (.slice A0_2 l0_2.length c0_2) ∧ w'.cell? ⟨gb312, 3, none⟩ = some (.int .i64 a0_3) ∧ w'.cell? ⟨gb312, 4, none⟩ = some (.int .i64 a0_4)) ∧ (Kd.S k53 53 w' w.heap.size (fun _ => True) s_ t314) ∧ (w'.heap[gb312]? = some (.cells #[.slice A0_0 l0_0.length c0_0, .slice A0_1 l0_1.length c0_1, .slice A0_2 l0_2.length c0_2, .int .i64 a0_3, .int .i64 a0_4] 31 (0, 0))) ∧ (w'.heap[gb313]? = some (.cells #[.slice none 0 0, .slice none 0 0, .slice none 0 0, .int .i64 0, .int .i64 0] 31 (0, 0))) ∧ (Below w.heap.size w w')) ?_ ?_
       rotate_left
       ·intro hJ2
        refine join_ (σ := Value) 6 #[true, true, false, true, true, true, false, false, true, true, false, true, true, true, true, false, false] (fun s_ => [(6, s_)]) (fun s_ w' => (w'.cell? ⟨gb312, 0, none⟩ = some (.slice A0_0 l0_0.length c0_0) ∧ w'.cell? ⟨gb312, 1, none⟩ = some (.slice A0_1 l0_1.length c0_1) ∧ w'.cell? ⟨gb312, 2, none⟩ = some (.slice A0_2 l0_2.length c0_2) ∧ w'.cell? ⟨gb312, 3, none⟩ = some (.int .i64 a0_3) ∧ w'.cell? ⟨gb312, 4, none⟩ = some (.int .i64 a0_4)) ∧ (Kd.R (Kd.int .i64) 3 w' w.heap.size (fun _ => True) s_ y317) ∧ (w'.heap[gb312]? = some (.cells #[.slice A0_0 l0_0.length c0_0, .slice A0_1 l0_1.length c0_1, .slice A0_2 l0_2.length c0_2, .int .i64 a0_3, .int .i64 a0_4] 31 (0, 0))) ∧ (w'.heap[gb313]? = some (.cells #[.slice none 0 0, .slice none 0 0, .slice none 0 0, .int .i64 0, .int .i64 0] 31 (0, 0))) ∧ (Below w.heap.size w w')) ?_ ?_
        rotate_left
        ·intro hJ3
         refine join_ (σ := Value) 6 #[true, true, false, false, true, true, false, true, true, true, false, true, true, true, true, false, false] (fun s_ => [(10, s_)]) (fun s_ w' => (w'.cell? ⟨gb312, 0, none⟩ = some (.slice A0_0 l0_0.length c0_0) ∧ w'.cell? ⟨gb312, 1, none⟩ = some (.slice A0_1 l0_1.length c0_1) ∧ w'.cell? ⟨gb312, 2, none⟩ = some (.slice A0_2 l0_2.length c0_2) ∧ w'.cell? ⟨gb312, 3, none⟩ = some (.int .i64 a0_3) ∧ w'.cell? ⟨gb312, 4, none⟩ = some (.int .i64 a0_4)) ∧ (Kd.R (Kd.int .i64) 3 w' w.heap.size (fun _ => True) s_ y323) ∧ (w'.heap[gb312]? = some (.cells #[.slice A0_0 l0_0.length c0_0, .slice A0_1 l0_1.length c0_1, .slice A0_2 l0_2.length c0_2, .int .i64 a0_3, .int .i64 a0_4] 31 (0, 0))) ∧ (w'.heap[gb313]? = some (.cells #[.slice none 0 0, .slice none 0 0, .slice none 0 0, .int .i64 0, .int .i64 0] 31 (0, 0))) ∧ (Below w.heap.size w w')) ?_ ?_
         rotate_left
         ·intro hJ7
          refine three_ (i := 2) (j := 3) (k := 7) (Ni := some 5) (Nj := some 6) (Nk := some 10) #[true, true, true, false, true, true, false, false, true, true, false, true, true, true, true, false, false] #[true, true, false, true, true, true, false, false, true, true, false, true, true, true, true, false, false] #[true, true, false, false, true, true, false, true, true, true, false, true, true, true, true, false, false] rfl rfl rfl rfl rfl rfl (three_of HT_.out (by kernel_rfl)) (by decide) (by decide) (by decide) (fun K hK => ?_) (fun K hK => ?_) (fun K hK => ?_)
          ·skip
           refine goes_ Tryz.func53 (by kernel_rfl) rfl #[.slice A0_0 l0_0.length c0_0] (by rfl) rfl rfl ab5 ?_
           with_reducible refine (spec_l6Copy.calls k _ _ l0_0 t314 _ ?side1 ?side2 A2.out).mono ?_
           (case side1 => repeat (first | exact (Kd.C_below HR0_0.out HB.out) | (with_reducible refine Kd.C_alloc ?_ _) | (with_reducible refine Kd.C_drewN ?_ _) | (with_reducible refine Kd.C_drew ?_)))
           (case side2 => exact HC0_0.out)
           rintro e w8 ⟨v315, rfl, ho0, hb⟩
           refine ⟨_, rfl, ?_⟩
           have HO316 := am (Kd.S_lower ho0 (below_size ba_))
           replace BK312 := bl_ BK312 hb
           replace BK313 := bl_ BK313 hb
           replace HB := am (below_step ba_ hb)
           (try clear hb)
           (try clear ho0)
           refine hK.out _ _ ⟨(blk_cell BK312.out 0).trans rfl, (blk_cell BK312.out 1).trans rfl, (blk_cell BK312.out 2).trans rfl, (blk_cell BK312.out 3).trans rfl, (blk_cell BK312.out 4).trans rfl⟩ (fun hHeld => ?_)
           clear hK K
           refine norm_ (a' := ?_) ?_ ?_
           rotate_left
           ·show Act.put _ (some 5) _ = _
            simp only [Act.put, List.setIfInBounds_toArray, List.set_cons_zero, List.set_cons_succ, i64_w, i32_w]
            rfl
           exact norm_ (by first | (simp only [putAll, Act.put, List.setIfInBounds_toArray, List.set_cons_zero, List.set_cons_succ]; done) | (simp only [putAll, Act.put, List.setIfInBounds_toArray, List.set_cons_zero, List.set_cons_succ]; rfl)) (hJ2 (v315) _ ⟨hHeld, (by (with_reducible repeat (first | apply Kd.S_alloc | apply Kd.S_drewN | apply Kd.S_drew)); exact HO316.out), (ab3 BK312), (ab3 BK313), ba_⟩)
          ·skip
           refine Kd.R_lit_step (Kd.int .i64) _ 3 ?hg (N := 6) ?hd (xs := ([] : List Int)) (inner := []) (ok := fun _ => True) (okp := fun _ => True) ?hr ?hp (fun _ hk => hk) trivial (Below.refl _ _) (Nat.le_refl _) (by simp) ?_; (case hd => rfl); (case hg => rfl); (case hr => first | (go_simp; done) | (go_simp; rfl)); (case hp => exact (Reps.none _ _))
           intro v318 w8 ho9 hb hg_ hnew_
           clear hg_ hnew_
           (first | rw [← Ny317.out] at ho9 | (simp only [Int.reduceToNat] at ho9; rw [← Ny317.out] at ho9))
           have HO319 := am (Kd.R_lower ho9 (below_size ba_))
           replace BK312 := bl_ BK312 hb
           replace BK313 := bl_ BK313 hb
           replace HB := am (below_step ba_ hb)
           clear hb ho9
           refine hK.out _ _ ⟨(blk_cell BK312.out 0).trans rfl, (blk_cell BK312.out 1).trans rfl, (blk_cell BK312.out 2).trans rfl, (blk_cell BK312.out 3).trans rfl, (blk_cell BK312.out 4).trans rfl⟩ (fun hHeld => ?_)
           clear hK K
           refine norm_ (a' := ?_) ?_ ?_
           rotate_left
           ·show Act.put _ (some 6) _ = _
            simp only [Act.put, List.setIfInBounds_toArray, List.set_cons_zero, List.set_cons_succ, i64_w, i32_w]
            rfl
           exact norm_ (by first | (simp only [putAll, Act.put, List.setIfInBounds_toArray, List.set_cons_zero, List.set_cons_succ]; done) | (simp only [putAll, Act.put, List.setIfInBounds_toArray, List.set_cons_zero, List.set_cons_succ]; rfl)) (hJ3 (v318) _ ⟨hHeld, (ab8 HO319), (ab3 BK312), (ab3 BK313), ba_⟩)
          ·skip
           refine Kd.R_lit_step (Kd.int .i64) _ 3 ?hg (N := 10) ?hd (xs := ([] : List Int)) (inner := []) (ok := fun _ => True) (okp := fun _ => True) ?hr ?hp (fun _ hk => hk) trivial (Below.refl _ _) (Nat.le_refl _) (by simp) ?_; (case hd => rfl); (case hg => rfl); (case hr => first | (go_simp; done) | (go_simp; rfl)); (case hp => exact (Reps.none _ _))
           intro v324 w8 ho9 hb hg_ hnew_
           clear hg_ hnew_
           (first | rw [← Ny323.out] at ho9 | (simp only [Int.reduceToNat] at ho9; rw [← Ny323.out] at ho9))
           have HO325 := am (Kd.R_lower ho9 (below_size ba_))
           replace BK312 := bl_ BK312 hb
           replace BK313 := bl_ BK313 hb
           replace HB := am (below_step ba_ hb)
           clear hb ho9
           refine hK.out _ _ ⟨(blk_cell BK312.out 0).trans rfl, (blk_cell BK312.out 1).trans rfl, (blk_cell BK312.out 2).trans rfl, (blk_cell BK312.out 3).trans rfl, (blk_cell BK312.out 4).trans rfl⟩ (fun hHeld => ?_)
           clear hK K
           refine norm_ (a' := ?_) ?_ ?_
           rotate_left
           ·show Act.put _ (some 10) _ = _
            simp only [Act.put, List.setIfInBounds_toArray, List.set_cons_zero, List.set_cons_succ, i64_w, i32_w]
            rfl
           exact norm_ (by first | (simp only [putAll, Act.put, List.setIfInBounds_toArray, List.set_cons_zero, List.set_cons_succ]; done) | (simp only [putAll, Act.put, List.setIfInBounds_toArray, List.set_cons_zero, List.set_cons_succ]; rfl)) (hJ7 (v324) _ ⟨hHeld, (ab8 HO325), (ab3 BK312), (ab3 BK313), ba_⟩)
         ·skip
          rintro v324 w10 ⟨hS_, h0_, h1_, h2_, h3_⟩
          have n0_ : Aside0 (Kd.R (Kd.int .i64) 3 w10 w.heap.size (fun _ => True) v324 y323) := ⟨h0_⟩
          have n1_ : Aside0 (w10.heap[gb312]? = some (.cells #[.slice A0_0 l0_0.length c0_0, .slice A0_1 l0_1.length c0_1, .slice A0_2 l0_2.length c0_2, .int .i64 a0_3, .int .i64 a0_4] 31 (0, 0))) := ⟨h1_⟩
          have n2_ : Aside0 (w10.heap[gb313]? = some (.cells #[.slice none 0 0, .slice none 0 0, .slice none 0 0, .int .i64 0, .int .i64 0] 31 (0, 0))) := ⟨h2_⟩
          have n3_ : Aside0 (Below w.heap.size w w10) := ⟨h3_⟩
          clear BK312
          clear BK313
          clear HB
          clear h0_ h1_ h2_ h3_
          have HO325 := n0_
          have BK312 := n1_
          have BK313 := n2_
          have HB := n3_
          clear n0_ n1_ n2_ n3_
          have hHeld : w10.cell? ⟨gb312, 0, none⟩ = some (.slice A0_0 l0_0.length c0_0) ∧ w10.cell? ⟨gb312, 1, none⟩ = some (.slice A0_1 l0_1.length c0_1) ∧ w10.cell? ⟨gb312, 2, none⟩ = some (.slice A0_2 l0_2.length c0_2) ∧ w10.cell? ⟨gb312, 3, none⟩ = some (.int .i64 a0_3) ∧ w10.cell? ⟨gb312, 4, none⟩ = some (.int .i64 a0_4) := hS_
          refine norm_ (a' := ?_) ?_ ?_
          rotate_left
          ·simp only [putAll, Act.put, List.setIfInBounds_toArray, List.set_cons_zero, List.set_cons_succ]
           rfl
          refine two_ (i := 2) (j := 3) (Ni := some 5) (Nj := some 6) #[true, true, true, false, true, true, false, true, true, true, false, true, true, true, true, false, false] #[true, true, false, true, true, true, false, true, true, true, false, true, true, true, true, false, false] rfl rfl rfl rfl (two_of HT_.out (by kernel_rfl)) (by decide) (by decide) (fun K hK => ?_) (fun K hK => ?_)
          ·skip
           refine goes_ Tryz.func53 (by kernel_rfl) rfl #[.slice A0_0 l0_0.length c0_0] (by rfl) rfl rfl ab5 ?_
           with_reducible refine (spec_l6Copy.calls k _ _ l0_0 t314 _ ?side1 ?side2 A2.out).mono ?_
           (case side1 => repeat (first | exact (Kd.C_below HR0_0.out HB.out) | (with_reducible refine Kd.C_alloc ?_ _) | (with_reducible refine Kd.C_drewN ?_ _) | (with_reducible refine Kd.C_drew ?_)))
           (case side2 => exact HC0_0.out)
           rintro e w11 ⟨v315, rfl, ho0, hb⟩
           refine ⟨_, rfl, ?_⟩
           have HO316 := am (Kd.S_lower (Kd.S_new' ho0 (Kd.R_lt (ab8 HO325))) (below_size ba_))
           replace HO325 := am (Kd.R_below (ab8 HO325) hb)
           replace BK312 := bl_ BK312 hb
           replace BK313 := bl_ BK313 hb
           replace HB := am (below_step ba_ hb)
           (try clear hb)
           (try clear ho0)
           refine hK.out _ _ ⟨(blk_cell BK312.out 0).trans rfl, (blk_cell BK312.out 1).trans rfl, (blk_cell BK312.out 2).trans rfl, (blk_cell BK312.out 3).trans rfl, (blk_cell BK312.out 4).trans rfl⟩ (fun hHeld => ?_)
           clear hK K
           refine norm_ (a' := ?_) ?_ ?_
           rotate_left
           ·show Act.put _ (some 5) _ = _
            simp only [Act.put, List.setIfInBounds_toArray, List.set_cons_zero, List.set_cons_succ, i64_w, i32_w]
            rfl
           exact norm_ (by first | (simp only [putAll, Act.put, List.setIfInBounds_toArray, List.set_cons_zero, List.set_cons_succ]; done) | (simp only [putAll, Act.put, List.setIfInBounds_toArray, List.set_cons_zero, List.set_cons_succ]; rfl)) (hJ2_7 (v315, v324) _ ⟨hHeld, (by (with_reducible repeat (first | apply Kd.S_alloc | apply Kd.S_drewN | apply Kd.S_drew)); exact Kd.S_mono HO316.out (fun _ hk => hk.2)), (ab8 HO325), (ab3 BK312), (ab3 BK313), ba_⟩)
          ·skip
           refine Kd.R_lit_step (Kd.int .i64) _ 3 ?hg (N := 6) ?hd (xs := ([] : List Int)) (inner := []) (ok := fun _ => True) (okp := fun _ => True) ?hr ?hp (fun _ hk => hk) trivial (Below.refl _ _) (Nat.le_refl _) (by simp) ?_; (case hd => rfl); (case hg => rfl); (case hr => first | (go_simp; done) | (go_simp; rfl)); (case hp => exact (Reps.none _ _))
           intro v318 w11 ho12 hb hg_ hnew_
           clear hg_ hnew_
           (first | rw [← Ny317.out] at ho12 | (simp only [Int.reduceToNat] at ho12; rw [← Ny317.out] at ho12))
           have HO319 := am (Kd.R_lower (Kd.R_new' ho12 (Kd.R_lt (ab8 HO325))) (below_size ba_))
           replace HO325 := am (Kd.R_elder' (ab8 HO325) (Kd.R_base ho12) hb)
           replace BK312 := bl_ BK312 hb
           replace BK313 := bl_ BK313 hb
           replace HB := am (below_step ba_ hb)
           clear hb ho12
           refine hK.out _ _ ⟨(blk_cell BK312.out 0).trans rfl, (blk_cell BK312.out 1).trans rfl, (blk_cell BK312.out 2).trans rfl, (blk_cell BK312.out 3).trans rfl, (blk_cell BK312.out 4).trans rfl⟩ (fun hHeld => ?_)
           clear hK K
           refine norm_ (a' := ?_) ?_ ?_
           rotate_left
           ·show Act.put _ (some 6) _ = _
            simp only [Act.put, List.setIfInBounds_toArray, List.set_cons_zero, List.set_cons_succ, i64_w, i32_w]
            rfl
           exact norm_ (by first | (simp only [putAll, Act.put, List.setIfInBounds_toArray, List.set_cons_zero, List.set_cons_succ]; done) | (simp only [putAll, Act.put, List.setIfInBounds_toArray, List.set_cons_zero, List.set_cons_succ]; rfl)) (hJ3_7 (v318, v324) _ ⟨hHeld, (by (with_reducible repeat (first | apply Kd.R_alloc | apply Kd.R_drewN | apply Kd.R_drew)); exact Kd.R_mono HO319.out (fun _ hk => hk.2)), (by (with_reducible repeat (first | apply Kd.R_alloc | apply Kd.R_drewN | apply Kd.R_drew)); exact Kd.R_mono HO325.out (fun _ hk => hk.2)), (ab3 BK312), (ab3 BK313), ba_⟩)
        ·skip
         rintro v318 w10 ⟨hS_, h0_, h1_, h2_, h3_⟩
         have n0_ : Aside0 (Kd.R (Kd.int .i64) 3 w10 w.heap.size (fun _ => True) v318 y317) := ⟨h0_⟩
         have n1_ : Aside0 (w10.heap[gb312]? = some (.cells #[.slice A0_0 l0_0.length c0_0, .slice A0_1 l0_1.length c0_1, .slice A0_2 l0_2.length c0_2, .int .i64 a0_3, .int .i64 a0_4] 31 (0, 0))) := ⟨h1_⟩
         have n2_ : Aside0 (w10.heap[gb313]? = some (.cells #[.slice none 0 0, .slice none 0 0, .slice none 0 0, .int .i64 0, .int .i64 0] 31 (0, 0))) := ⟨h2_⟩
         have n3_ : Aside0 (Below w.heap.size w w10) := ⟨h3_⟩
         clear BK312
         clear BK313
         clear HB
         clear h0_ h1_ h2_ h3_
         have HO319 := n0_
         have BK312 := n1_
         have BK313 := n2_
         have HB := n3_
         clear n0_ n1_ n2_ n3_
         have hHeld : w10.cell? ⟨gb312, 0, none⟩ = some (.slice A0_0 l0_0.length c0_0) ∧ w10.cell? ⟨gb312, 1, none⟩ = some (.slice A0_1 l0_1.length c0_1) ∧ w10.cell? ⟨gb312, 2, none⟩ = some (.slice A0_2 l0_2.length c0_2) ∧ w10.cell? ⟨gb312, 3, none⟩ = some (.int .i64 a0_3) ∧ w10.cell? ⟨gb312, 4, none⟩ = some (.int .i64 a0_4) := hS_
         refine norm_ (a' := ?_) ?_ ?_
         rotate_left
         ·simp only [putAll, Act.put, List.setIfInBounds_toArray, List.set_cons_zero, List.set_cons_succ]
          rfl
         refine two_ (i := 2) (j := 7) (Ni := some 5) (Nj := some 10) #[true, true, true, true, true, true, false, false, true, true, false, true, true, true, true, false, false] #[true, true, false, true, true, true, false, true, true, true, false, true, true, true, true, false, false] rfl rfl rfl rfl (two_of HT_.out (by kernel_rfl)) (by decide) (by decide) (fun K hK => ?_) (fun K hK => ?_)
         ·skip
          refine goes_ Tryz.func53 (by kernel_rfl) rfl #[.slice A0_0 l0_0.length c0_0] (by rfl) rfl rfl ab5 ?_
          with_reducible refine (spec_l6Copy.calls k _ _ l0_0 t314 _ ?side1 ?side2 A2.out).mono ?_
          (case side1 => repeat (first | exact (Kd.C_below HR0_0.out HB.out) | (with_reducible refine Kd.C_alloc ?_ _) | (with_reducible refine Kd.C_drewN ?_ _) | (with_reducible refine Kd.C_drew ?_)))
          (case side2 => exact HC0_0.out)
          rintro e w11 ⟨v315, rfl, ho0, hb⟩
          refine ⟨_, rfl, ?_⟩
          have HO316 := am (Kd.S_lower (Kd.S_new' ho0 (Kd.R_lt (ab8 HO319))) (below_size ba_))
          replace HO319 := am (Kd.R_below (ab8 HO319) hb)
          replace BK312 := bl_ BK312 hb
          replace BK313 := bl_ BK313 hb
          replace HB := am (below_step ba_ hb)
          (try clear hb)
          (try clear ho0)
          refine hK.out _ _ ⟨(blk_cell BK312.out 0).trans rfl, (blk_cell BK312.out 1).trans rfl, (blk_cell BK312.out 2).trans rfl, (blk_cell BK312.out 3).trans rfl, (blk_cell BK312.out 4).trans rfl⟩ (fun hHeld => ?_)
          clear hK K
          refine norm_ (a' := ?_) ?_ ?_
          rotate_left
          ·show Act.put _ (some 5) _ = _
           simp only [Act.put, List.setIfInBounds_toArray, List.set_cons_zero, List.set_cons_succ, i64_w, i32_w]
           rfl
          exact norm_ (by first | (simp only [putAll, Act.put, List.setIfInBounds_toArray, List.set_cons_zero, List.set_cons_succ]; done) | (simp only [putAll, Act.put, List.setIfInBounds_toArray, List.set_cons_zero, List.set_cons_succ]; rfl)) (hJ2_3 (v315, v318) _ ⟨hHeld, (by (with_reducible repeat (first | apply Kd.S_alloc | apply Kd.S_drewN | apply Kd.S_drew)); exact Kd.S_mono HO316.out (fun _ hk => hk.2)), (ab8 HO319), (ab3 BK312), (ab3 BK313), ba_⟩)
         ·skip
          refine Kd.R_lit_step (Kd.int .i64) _ 3 ?hg (N := 10) ?hd (xs := ([] : List Int)) (inner := []) (ok := fun _ => True) (okp := fun _ => True) ?hr ?hp (fun _ hk => hk) trivial (Below.refl _ _) (Nat.le_refl _) (by simp) ?_; (case hd => rfl); (case hg => rfl); (case hr => first | (go_simp; done) | (go_simp; rfl)); (case hp => exact (Reps.none _ _))
          intro v324 w11 ho12 hb hg_ hnew_
          clear hg_ hnew_
          (first | rw [← Ny323.out] at ho12 | (simp only [Int.reduceToNat] at ho12; rw [← Ny323.out] at ho12))
          have HO325 := am (Kd.R_lower (Kd.R_new' ho12 (Kd.R_lt (ab8 HO319))) (below_size ba_))
          replace HO319 := am (Kd.R_elder' (ab8 HO319) (Kd.R_base ho12) hb)
          replace BK312 := bl_ BK312 hb
          replace BK313 := bl_ BK313 hb
          replace HB := am (below_step ba_ hb)
          clear hb ho12
          refine hK.out _ _ ⟨(blk_cell BK312.out 0).trans rfl, (blk_cell BK312.out 1).trans rfl, (blk_cell BK312.out 2).trans rfl, (blk_cell BK312.out 3).trans rfl, (blk_cell BK312.out 4).trans rfl⟩ (fun hHeld => ?_)
          clear hK K
          refine norm_ (a' := ?_) ?_ ?_
          rotate_left
          ·show Act.put _ (some 10) _ = _
           simp only [Act.put, List.setIfInBounds_toArray, List.set_cons_zero, List.set_cons_succ, i64_w, i32_w]
           rfl
          exact norm_ (by first | (simp only [putAll, Act.put, List.setIfInBounds_toArray, List.set_cons_zero, List.set_cons_succ]; done) | (simp only [putAll, Act.put, List.setIfInBounds_toArray, List.set_cons_zero, List.set_cons_succ]; rfl)) (hJ3_7 (v318, v324) _ ⟨hHeld, (by (with_reducible repeat (first | apply Kd.R_alloc | apply Kd.R_drewN | apply Kd.R_drew)); exact Kd.R_mono HO319.out (fun _ hk => hk.2)), (by (with_reducible repeat (first | apply Kd.R_alloc | apply Kd.R_drewN | apply Kd.R_drew)); exact Kd.R_mono HO325.out (fun _ hk => hk.2)), (ab3 BK312), (ab3 BK313), ba_⟩)
       ·skip
        rintro v315 w9 ⟨hS_, h0_, h1_, h2_, h3_⟩
        have n0_ : Aside0 (Kd.S k53 53 w9 w.heap.size (fun _ => True) v315 t314) := ⟨h0_⟩
        have n1_ : Aside0 (w9.heap[gb312]? = some (.cells #[.slice A0_0 l0_0.length c0_0, .slice A0_1 l0_1.length c0_1, .slice A0_2 l0_2.length c0_2, .int .i64 a0_3, .int .i64 a0_4] 31 (0, 0))) := ⟨h1_⟩
        have n2_ : Aside0 (w9.heap[gb313]? = some (.cells #[.slice none 0 0, .slice none 0 0, .slice none 0 0, .int .i64 0, .int .i64 0] 31 (0, 0))) := ⟨h2_⟩
        have n3_ : Aside0 (Below w.heap.size w w9) := ⟨h3_⟩
        clear BK312
        clear BK313
        clear HB
        clear h0_ h1_ h2_ h3_
        have HO316 := n0_
        have BK312 := n1_
        have BK313 := n2_
        have HB := n3_
        clear n0_ n1_ n2_ n3_
        have hHeld : w9.cell? ⟨gb312, 0, none⟩ = some (.slice A0_0 l0_0.length c0_0) ∧ w9.cell? ⟨gb312, 1, none⟩ = some (.slice A0_1 l0_1.length c0_1) ∧ w9.cell? ⟨gb312, 2, none⟩ = some (.slice A0_2 l0_2.length c0_2) ∧ w9.cell? ⟨gb312, 3, none⟩ = some (.int .i64 a0_3) ∧ w9.cell? ⟨gb312, 4, none⟩ = some (.int .i64 a0_4) := hS_
        refine norm_ (a' := ?_) ?_ ?_
        rotate_left
        ·simp only [putAll, Act.put, List.setIfInBounds_toArray, List.set_cons_zero, List.set_cons_succ]
         rfl
        refine two_ (i := 3) (j := 7) (Ni := some 6) (Nj := some 10) #[true, true, true, true, true, true, false, false, true, true, false, true, true, true, true, false, false] #[true, true, true, false, true, true, false, true, true, true, false, true, true, true, true, false, false] rfl rfl rfl rfl (two_of HT_.out (by kernel_rfl)) (by decide) (by decide) (fun K hK => ?_) (fun K hK => ?_)
        ·skip
         refine Kd.R_lit_step (Kd.int .i64) _ 3 ?hg (N := 6) ?hd (xs := ([] : List Int)) (inner := []) (ok := fun _ => True) (okp := fun _ => True) ?hr ?hp (fun _ hk => hk) trivial (Below.refl _ _) (Nat.le_refl _) (by simp) ?_; (case hd => rfl); (case hg => rfl); (case hr => first | (go_simp; done) | (go_simp; rfl)); (case hp => exact (Reps.none _ _))
         intro v318 w10 ho11 hb hg_ hnew_
         clear hg_ hnew_
         (first | rw [← Ny317.out] at ho11 | (simp only [Int.reduceToNat] at ho11; rw [← Ny317.out] at ho11))
         replace HO316 := am (Kd.S_elder' (by (with_reducible repeat (first | apply Kd.S_alloc | apply Kd.S_drewN | apply Kd.S_drew)); exact HO316.out) (Kd.R_base ho11) hb)
         have HO319 := am (Kd.R_lower ho11 (below_size ba_))
         replace BK312 := bl_ BK312 hb
         replace BK313 := bl_ BK313 hb
         replace HB := am (below_step ba_ hb)
         clear hb ho11
         refine hK.out _ _ ⟨(blk_cell BK312.out 0).trans rfl, (blk_cell BK312.out 1).trans rfl, (blk_cell BK312.out 2).trans rfl, (blk_cell BK312.out 3).trans rfl, (blk_cell BK312.out 4).trans rfl⟩ (fun hHeld => ?_)
         clear hK K
         refine norm_ (a' := ?_) ?_ ?_
         rotate_left
         ·show Act.put _ (some 6) _ = _
          simp only [Act.put, List.setIfInBounds_toArray, List.set_cons_zero, List.set_cons_succ, i64_w, i32_w]
          rfl
         exact norm_ (by first | (simp only [putAll, Act.put, List.setIfInBounds_toArray, List.set_cons_zero, List.set_cons_succ]; done) | (simp only [putAll, Act.put, List.setIfInBounds_toArray, List.set_cons_zero, List.set_cons_succ]; rfl)) (hJ2_3 (v315, v318) _ ⟨hHeld, (by (with_reducible repeat (first | apply Kd.S_alloc | apply Kd.S_drewN | apply Kd.S_drew)); exact Kd.S_mono HO316.out (fun _ hk => hk.2)), (ab8 HO319), (ab3 BK312), (ab3 BK313), ba_⟩)
        ·skip
         refine Kd.R_lit_step (Kd.int .i64) _ 3 ?hg (N := 10) ?hd (xs := ([] : List Int)) (inner := []) (ok := fun _ => True) (okp := fun _ => True) ?hr ?hp (fun _ hk => hk) trivial (Below.refl _ _) (Nat.le_refl _) (by simp) ?_; (case hd => rfl); (case hg => rfl); (case hr => first | (go_simp; done) | (go_simp; rfl)); (case hp => exact (Reps.none _ _))
         intro v324 w10 ho11 hb hg_ hnew_
         clear hg_ hnew_
         (first | rw [← Ny323.out] at ho11 | (simp only [Int.reduceToNat] at ho11; rw [← Ny323.out] at ho11))
         replace HO316 := am (Kd.S_elder' (by (with_reducible repeat (first | apply Kd.S_alloc | apply Kd.S_drewN | apply Kd.S_drew)); exact HO316.out) (Kd.R_base ho11) hb)
         have HO325 := am (Kd.R_lower ho11 (below_size ba_))
         replace BK312 := bl_ BK312 hb
         replace BK313 := bl_ BK313 hb
         replace HB := am (below_step ba_ hb)
         clear hb ho11
         refine hK.out _ _ ⟨(blk_cell BK312.out 0).trans rfl, (blk_cell BK312.out 1).trans rfl, (blk_cell BK312.out 2).trans rfl, (blk_cell BK312.out 3).trans rfl, (blk_cell BK312.out 4).trans rfl⟩ (fun hHeld => ?_)
         clear hK K
         refine norm_ (a' := ?_) ?_ ?_
         rotate_left
         ·show Act.put _ (some 10) _ = _
          simp only [Act.put, List.setIfInBounds_toArray, List.set_cons_zero, List.set_cons_succ, i64_w, i32_w]
          rfl
         exact norm_ (by first | (simp only [putAll, Act.put, List.setIfInBounds_toArray, List.set_cons_zero, List.set_cons_succ]; done) | (simp only [putAll, Act.put, List.setIfInBounds_toArray, List.set_cons_zero, List.set_cons_succ]; rfl)) (hJ2_7 (v315, v324) _ ⟨hHeld, (by (with_reducible repeat (first | apply Kd.S_alloc | apply Kd.S_drewN | apply Kd.S_drew)); exact Kd.S_mono HO316.out (fun _ hk => hk.2)), (ab8 HO325), (ab3 BK312), (ab3 BK313), ba_⟩)
      ·skip
       rintro ⟨v318, v324⟩ w12 ⟨hS_, h0_, h1_, h2_, h3_, h4_⟩
       have n0_ : Aside0 (Kd.R (Kd.int .i64) 3 w12 w.heap.size (fun k_ => some k_ ≠ (v324 : Value).ownBlock) v318 y317) := ⟨h0_⟩
       have n1_ : Aside0 (Kd.R (Kd.int .i64) 3 w12 w.heap.size (fun k_ => some k_ ≠ (v318 : Value).ownBlock) v324 y323) := ⟨h1_⟩
       have n2_ : Aside0 (w12.heap[gb312]? = some (.cells #[.slice A0_0 l0_0.length c0_0, .slice A0_1 l0_1.length c0_1, .slice A0_2 l0_2.length c0_2, .int .i64 a0_3, .int .i64 a0_4] 31 (0, 0))) := ⟨h2_⟩
       have n3_ : Aside0 (w12.heap[gb313]? = some (.cells #[.slice none 0 0, .slice none 0 0, .slice none 0 0, .int .i64 0, .int .i64 0] 31 (0, 0))) := ⟨h3_⟩
       have n4_ : Aside0 (Below w.heap.size w w12) := ⟨h4_⟩
       clear BK312
       clear BK313
       clear HB
       clear h0_ h1_ h2_ h3_ h4_
       have HO319 := n0_
       have HO325 := n1_
       have BK312 := n2_
       have BK313 := n3_
       have HB := n4_
       clear n0_ n1_ n2_ n3_ n4_
       have hHeld : w12.cell? ⟨gb312, 0, none⟩ = some (.slice A0_0 l0_0.length c0_0) ∧ w12.cell? ⟨gb312, 1, none⟩ = some (.slice A0_1 l0_1.length c0_1) ∧ w12.cell? ⟨gb312, 2, none⟩ = some (.slice A0_2 l0_2.length c0_2) ∧ w12.cell? ⟨gb312, 3, none⟩ = some (.int .i64 a0_3) ∧ w12.cell? ⟨gb312, 4, none⟩ = some (.int .i64 a0_4) := hS_
       refine norm_ (a' := ?_) ?_ ?_
       rotate_left
       ·simp only [putAll, Act.put, List.setIfInBounds_toArray, List.set_cons_zero, List.set_cons_succ]
        rfl
       refine on_ 2 5 HT_ fun K hK => ?_
       refine goes_ Tryz.func53 (by kernel_rfl) rfl #[.slice A0_0 l0_0.length c0_0] (by rfl) rfl rfl ab5 ?_
       with_reducible refine (spec_l6Copy.calls k _ _ l0_0 t314 _ ?side1 ?side2 A2.out).mono ?_
       (case side1 => repeat (first | exact (Kd.C_below HR0_0.out HB.out) | (with_reducible refine Kd.C_alloc ?_ _) | (with_reducible refine Kd.C_drewN ?_ _) | (with_reducible refine Kd.C_drew ?_)))
       (case side2 => exact HC0_0.out)
       rintro e w13 ⟨v315, rfl, ho0, hb⟩
       refine ⟨_, rfl, ?_⟩
       have HO316 := am (Kd.S_lower (Kd.S_new' (Kd.S_new' ho0 (Kd.R_lt (ab8 HO319))) (Kd.R_lt (ab8 HO325))) (below_size ba_))
       replace HO319 := am (Kd.R_below (ab8 HO319) hb)
       replace HO325 := am (Kd.R_below (ab8 HO325) hb)
       replace BK312 := bl_ BK312 hb
       replace BK313 := bl_ BK313 hb
       replace HB := am (below_step ba_ hb)
       (try clear hb)
       (try clear ho0)
       refine hK.out _ _ ⟨(blk_cell BK312.out 0).trans rfl, (blk_cell BK312.out 1).trans rfl, (blk_cell BK312.out 2).trans rfl, (blk_cell BK312.out 3).trans rfl, (blk_cell BK312.out 4).trans rfl⟩ (fun hHeld => ?_)
       clear hK K
       refine norm_ (a' := ?_) ?_ ?_
       rotate_left
       ·show Act.put _ (some 5) _ = _
        simp only [Act.put, List.setIfInBounds_toArray, List.set_cons_zero, List.set_cons_succ, i64_w, i32_w]
        rfl
       exact norm_ (by first | (simp only [putAll, Act.put, List.setIfInBounds_toArray, List.set_cons_zero, List.set_cons_succ]; done) | (simp only [putAll, Act.put, List.setIfInBounds_toArray, List.set_cons_zero, List.set_cons_succ]; rfl)) (hJ2_3_7 (v315, v318, v324) _ ⟨hHeld, (by (with_reducible repeat (first | apply Kd.S_alloc | apply Kd.S_drewN | apply Kd.S_drew)); exact Kd.S_mono HO316.out (fun _ hk => ⟨hk.1.2, hk.2⟩)), (ab8 HO319), (ab8 HO325), (ab3 BK312), (ab3 BK313), ba_⟩)
     ·skip
      rintro ⟨v315, v324⟩ w11 ⟨hS_, h0_, h1_, h2_, h3_, h4_⟩
      have n0_ : Aside0 (Kd.S k53 53 w11 w.heap.size (fun k_ => some k_ ≠ (v324 : Value).ownBlock) v315 t314) := ⟨h0_⟩
      have n1_ : Aside0 (Kd.R (Kd.int .i64) 3 w11 w.heap.size (fun _ => True) v324 y323) := ⟨h1_⟩
      have n2_ : Aside0 (w11.heap[gb312]? = some (.cells #[.slice A0_0 l0_0.length c0_0, .slice A0_1 l0_1.length c0_1, .slice A0_2 l0_2.length c0_2, .int .i64 a0_3, .int .i64 a0_4] 31 (0, 0))) := ⟨h2_⟩
      have n3_ : Aside0 (w11.heap[gb313]? = some (.cells #[.slice none 0 0, .slice none 0 0, .slice none 0 0, .int .i64 0, .int .i64 0] 31 (0, 0))) := ⟨h3_⟩
      have n4_ : Aside0 (Below w.heap.size w w11) := ⟨h4_⟩
      clear BK312
      clear BK313
      clear HB
      clear h0_ h1_ h2_ h3_ h4_
      have HO316 := n0_
      have HO325 := n1_
      have BK312 := n2_
      have BK313 := n3_
      have HB := n4_
      clear n0_ n1_ n2_ n3_ n4_
      have hHeld : w11.cell? ⟨gb312, 0, none⟩ = some (.slice A0_0 l0_0.length c0_0) ∧ w11.cell? ⟨gb312, 1, none⟩ = some (.slice A0_1 l0_1.length c0_1) ∧ w11.cell? ⟨gb312, 2, none⟩ = some (.slice A0_2 l0_2.length c0_2) ∧ w11.cell? ⟨gb312, 3, none⟩ = some (.int .i64 a0_3) ∧ w11.cell? ⟨gb312, 4, none⟩ = some (.int .i64 a0_4) := hS_
      refine norm_ (a' := ?_) ?_ ?_
      rotate_left
      ·simp only [putAll, Act.put, List.setIfInBounds_toArray, List.set_cons_zero, List.set_cons_succ]
       rfl
      refine on_ 3 6 HT_ fun K hK => ?_
      refine Kd.R_lit_step (Kd.int .i64) _ 3 ?hg (N := 6) ?hd (xs := ([] : List Int)) (inner := []) (ok := fun _ => True) (okp := fun _ => True) ?hr ?hp (fun _ hk => hk) trivial (Below.refl _ _) (Nat.le_refl _) (by simp) ?_; (case hd => rfl); (case hg => rfl); (case hr => first | (go_simp; done) | (go_simp; rfl)); (case hp => exact (Reps.none _ _))
      intro v318 w12 ho13 hb hg_ hnew_
      clear hg_ hnew_
      (first | rw [← Ny317.out] at ho13 | (simp only [Int.reduceToNat] at ho13; rw [← Ny317.out] at ho13))
      replace HO316 := am (Kd.S_elder' (by (with_reducible repeat (first | apply Kd.S_alloc | apply Kd.S_drewN | apply Kd.S_drew)); exact HO316.out) (Kd.R_base ho13) hb)
      have HO319 := am (Kd.R_lower (Kd.R_new' ho13 (Kd.R_lt (ab8 HO325))) (below_size ba_))
      replace HO325 := am (Kd.R_elder' (ab8 HO325) (Kd.R_base ho13) hb)
      replace BK312 := bl_ BK312 hb
      replace BK313 := bl_ BK313 hb
      replace HB := am (below_step ba_ hb)
      clear hb ho13
      refine hK.out _ _ ⟨(blk_cell BK312.out 0).trans rfl, (blk_cell BK312.out 1).trans rfl, (blk_cell BK312.out 2).trans rfl, (blk_cell BK312.out 3).trans rfl, (blk_cell BK312.out 4).trans rfl⟩ (fun hHeld => ?_)
      clear hK K
      refine norm_ (a' := ?_) ?_ ?_
      rotate_left
      ·show Act.put _ (some 6) _ = _
       simp only [Act.put, List.setIfInBounds_toArray, List.set_cons_zero, List.set_cons_succ, i64_w, i32_w]
       rfl
      exact norm_ (by first | (simp only [putAll, Act.put, List.setIfInBounds_toArray, List.set_cons_zero, List.set_cons_succ]; done) | (simp only [putAll, Act.put, List.setIfInBounds_toArray, List.set_cons_zero, List.set_cons_succ]; rfl)) (hJ2_3_7 (v315, v318, v324) _ ⟨hHeld, (by (with_reducible repeat (first | apply Kd.S_alloc | apply Kd.S_drewN | apply Kd.S_drew)); exact Kd.S_mono HO316.out (fun _ hk => ⟨hk.2, hk.1⟩)), (by (with_reducible repeat (first | apply Kd.R_alloc | apply Kd.R_drewN | apply Kd.R_drew)); exact Kd.R_mono HO319.out (fun _ hk => hk.2)), (by (with_reducible repeat (first | apply Kd.R_alloc | apply Kd.R_drewN | apply Kd.R_drew)); exact Kd.R_mono HO325.out (fun _ hk => hk.2)), (ab3 BK312), (ab3 BK313), ba_⟩)
    ·skip
     rintro ⟨v315, v318⟩ w11 ⟨hS_, h0_, h1_, h2_, h3_, h4_⟩
     have n0_ : Aside0 (Kd.S k53 53 w11 w.heap.size (fun k_ => some k_ ≠ (v318 : Value).ownBlock) v315 t314) := ⟨h0_⟩
     have n1_ : Aside0 (Kd.R (Kd.int .i64) 3 w11 w.heap.size (fun _ => True) v318 y317) := ⟨h1_⟩
     have n2_ : Aside0 (w11.heap[gb312]? = some (.cells #[.slice A0_0 l0_0.length c0_0, .slice A0_1 l0_1.length c0_1, .slice A0_2 l0_2.length c0_2, .int .i64 a0_3, .int .i64 a0_4] 31 (0, 0))) := ⟨h2_⟩
     have n3_ : Aside0 (w11.heap[gb313]? = some (.cells #[.slice none 0 0, .slice none 0 0, .slice none 0 0, .int .i64 0, .int .i64 0] 31 (0, 0))) := ⟨h3_⟩
     have n4_ : Aside0 (Below w.heap.size w w11) := ⟨h4_⟩
     clear BK312
     clear BK313
     clear HB
     clear h0_ h1_ h2_ h3_ h4_
     have HO316 := n0_
     have HO319 := n1_
     have BK312 := n2_
     have BK313 := n3_
     have HB := n4_
     clear n0_ n1_ n2_ n3_ n4_
     have hHeld : w11.cell? ⟨gb312, 0, none⟩ = some (.slice A0_0 l0_0.length c0_0) ∧ w11.cell? ⟨gb312, 1, none⟩ = some (.slice A0_1 l0_1.length c0_1) ∧ w11.cell? ⟨gb312, 2, none⟩ = some (.slice A0_2 l0_2.length c0_2) ∧ w11.cell? ⟨gb312, 3, none⟩ = some (.int .i64 a0_3) ∧ w11.cell? ⟨gb312, 4, none⟩ = some (.int .i64 a0_4) := hS_
     refine norm_ (a' := ?_) ?_ ?_
     rotate_left
     ·simp only [putAll, Act.put, List.setIfInBounds_toArray, List.set_cons_zero, List.set_cons_succ]
      rfl
     refine two_ (i := 6) (j := 7) (Ni := some 9) (Nj := some 10) #[true, true, true, true, true, true, true, false, true, true, false, true, true, true, true, false, false] #[true, true, true, true, true, true, false, true, true, true, false, true, true, true, true, false, false] rfl rfl rfl rfl (two_of HT_.out (by kernel_rfl)) (by decide) (by decide) (fun K hK => ?_) (fun K hK => ?_)
     ·skip
      refine Kd.R_append_rows_step (Kd.int .i64) (w0 := w) w.heap.size (by rfl) (.tmp 6) (.tmp 8) 23 3 (.int .i64 0) 8 rfl Tryz.underlying23 info3 rfl (by decide) (by omega) v318 y317 l0_1 _ _ _ (fun _ => True) (fun _ => False) rfl rfl ?aO ?aR (fun _ _ h => h) (fun _ h => h.elim) ?aF ?aB ?aS ?aL ?_
      (case aR => repeat (first | exact (Kd.C_below HR0_1.out HB.out) | (with_reducible refine Kd.C_alloc ?_ _) | (with_reducible refine Kd.C_drewN ?_ _) | (with_reducible refine Kd.C_drew ?_)))
      (case aB => exact ba_)
      (case aF => exact (fun _ _ => trivial))
      (case aO => exact (ab8 HO319))
      (case aS => exact (below_size ba_))
      (case aL => have := LMc3.out; omega)
      intro v321 w12 ho hb hg hat
      rw [← Ny320.out] at ho
      replace BK312 := bg_ BK312 hg (Kd.R_ne HO319.out BK312.out (by decide))
      replace BK313 := bg_ BK313 hg (Kd.R_ne HO319.out BK313.out (by decide))
      replace HO316 := am (Kd.S_after (ok := (fun _ => True)) (by (with_reducible repeat (first | apply Kd.S_alloc | apply Kd.S_drewN | apply Kd.S_drew)); exact Kd.S_mono HO316.out (fun _ hk => ⟨trivial, hk⟩)) hg hat)
      replace HB := am hb
      have HO322 := am ho
      clear HO319
      clear ho hb hg hat
      refine hK.out _ _ ⟨(blk_cell BK312.out 0).trans rfl, (blk_cell BK312.out 1).trans rfl, (blk_cell BK312.out 2).trans rfl, (blk_cell BK312.out 3).trans rfl, (blk_cell BK312.out 4).trans rfl⟩ (fun hHeld => ?_)
      clear hK K
      refine norm_ (a' := ?_) ?_ ?_
      rotate_left
      ·show Act.put _ (some 9) _ = _
       simp only [Act.put, List.setIfInBounds_toArray, List.set_cons_zero, List.set_cons_succ, i64_w, i32_w]
       rfl
      exact norm_ (by first | (simp only [putAll, Act.put, List.setIfInBounds_toArray, List.set_cons_zero, List.set_cons_succ]; done) | (simp only [putAll, Act.put, List.setIfInBounds_toArray, List.set_cons_zero, List.set_cons_succ]; rfl)) (hJ2_3_6 (v315, v318, v321) _ ⟨hHeld, (by (with_reducible repeat (first | apply Kd.S_alloc | apply Kd.S_drewN | apply Kd.S_drew)); exact Kd.S_mono HO316.out (fun _ hk => hk.2)), (ab8 HO322), (ab3 BK312), (ab3 BK313), ba_⟩)
     ·skip
      refine Kd.R_lit_step (Kd.int .i64) _ 3 ?hg (N := 10) ?hd (xs := ([] : List Int)) (inner := []) (ok := fun _ => True) (okp := fun _ => True) ?hr ?hp (fun _ hk => hk) trivial (Below.refl _ _) (Nat.le_refl _) (by simp) ?_; (case hd => rfl); (case hg => rfl); (case hr => first | (go_simp; done) | (go_simp; rfl)); (case hp => exact (Reps.none _ _))
      intro v324 w12 ho13 hb hg_ hnew_
      clear hg_ hnew_
      (first | rw [← Ny323.out] at ho13 | (simp only [Int.reduceToNat] at ho13; rw [← Ny323.out] at ho13))
      replace HO316 := am (Kd.S_elder' (by (with_reducible repeat (first | apply Kd.S_alloc | apply Kd.S_drewN | apply Kd.S_drew)); exact HO316.out) (Kd.R_base ho13) hb)
      have HO325 := am (Kd.R_lower (Kd.R_new' ho13 (Kd.R_lt (ab8 HO319))) (below_size ba_))
      replace HO319 := am (Kd.R_elder' (ab8 HO319) (Kd.R_base ho13) hb)
      replace BK312 := bl_ BK312 hb
      replace BK313 := bl_ BK313 hb
      replace HB := am (below_step ba_ hb)
      clear hb ho13
      refine hK.out _ _ ⟨(blk_cell BK312.out 0).trans rfl, (blk_cell BK312.out 1).trans rfl, (blk_cell BK312.out 2).trans rfl, (blk_cell BK312.out 3).trans rfl, (blk_cell BK312.out 4).trans rfl⟩ (fun hHeld => ?_)
      clear hK K
      refine norm_ (a' := ?_) ?_ ?_
      rotate_left
      ·show Act.put _ (some 10) _ = _
       simp only [Act.put, List.setIfInBounds_toArray, List.set_cons_zero, List.set_cons_succ, i64_w, i32_w]
       rfl
      exact norm_ (by first | (simp only [putAll, Act.put, List.setIfInBounds_toArray, List.set_cons_zero, List.set_cons_succ]; done) | (simp only [putAll, Act.put, List.setIfInBounds_toArray, List.set_cons_zero, List.set_cons_succ]; rfl)) (hJ2_3_7 (v315, v318, v324) _ ⟨hHeld, (by (with_reducible repeat (first | apply Kd.S_alloc | apply Kd.S_drewN | apply Kd.S_drew)); exact HO316.out), (by (with_reducible repeat (first | apply Kd.R_alloc | apply Kd.R_drewN | apply Kd.R_drew)); exact Kd.R_mono HO319.out (fun _ hk => hk.2)), (by (with_reducible repeat (first | apply Kd.R_alloc | apply Kd.R_drewN | apply Kd.R_drew)); exact Kd.R_mono HO325.out (fun _ hk => hk.2)), (ab3 BK312), (ab3 BK313), ba_⟩)
   ·skip
    rintro ⟨v315, v318, v324⟩ w13 ⟨hS_, h0_, h1_, h2_, h3_, h4_, h5_⟩
    have n0_ : Aside0 (Kd.S k53 53 w13 w.heap.size (fun k_ => some k_ ≠ (v318 : Value).ownBlock ∧ some k_ ≠ (v324 : Value).ownBlock) v315 t314) := ⟨h0_⟩
    have n1_ : Aside0 (Kd.R (Kd.int .i64) 3 w13 w.heap.size (fun k_ => some k_ ≠ (v324 : Value).ownBlock) v318 y317) := ⟨h1_⟩
    have n2_ : Aside0 (Kd.R (Kd.int .i64) 3 w13 w.heap.size (fun k_ => some k_ ≠ (v318 : Value).ownBlock) v324 y323) := ⟨h2_⟩
    have n3_ : Aside0 (w13.heap[gb312]? = some (.cells #[.slice A0_0 l0_0.length c0_0, .slice A0_1 l0_1.length c0_1, .slice A0_2 l0_2.length c0_2, .int .i64 a0_3, .int .i64 a0_4] 31 (0, 0))) := ⟨h3_⟩
    have n4_ : Aside0 (w13.heap[gb313]? = some (.cells #[.slice none 0 0, .slice none 0 0, .slice none 0 0, .int .i64 0, .int .i64 0] 31 (0, 0))) := ⟨h4_⟩
    have n5_ : Aside0 (Below w.heap.size w w13) := ⟨h5_⟩
    clear BK312
    clear BK313
    clear HB
    clear h0_ h1_ h2_ h3_ h4_ h5_
    have HO316 := n0_
    have HO319 := n1_
    have HO325 := n2_
    have BK312 := n3_
    have BK313 := n4_
    have HB := n5_
    clear n0_ n1_ n2_ n3_ n4_ n5_
    have hHeld : w13.cell? ⟨gb312, 0, none⟩ = some (.slice A0_0 l0_0.length c0_0) ∧ w13.cell? ⟨gb312, 1, none⟩ = some (.slice A0_1 l0_1.length c0_1) ∧ w13.cell? ⟨gb312, 2, none⟩ = some (.slice A0_2 l0_2.length c0_2) ∧ w13.cell? ⟨gb312, 3, none⟩ = some (.int .i64 a0_3) ∧ w13.cell? ⟨gb312, 4, none⟩ = some (.int .i64 a0_4) := hS_
    refine norm_ (a' := ?_) ?_ ?_
    rotate_left
    ·simp only [putAll, Act.put, List.setIfInBounds_toArray, List.set_cons_zero, List.set_cons_succ]
     rfl
    refine on_ 6 9 HT_ fun K hK => ?_
    refine Kd.R_append_rows_step (Kd.int .i64) (w0 := w) w.heap.size (by rfl) (.tmp 6) (.tmp 8) 23 3 (.int .i64 0) 8 rfl Tryz.underlying23 info3 rfl (by decide) (by omega) v318 y317 l0_1 _ _ _ (fun k_ => some k_ ≠ (v324 : Value).ownBlock) (fun _ => False) rfl rfl ?aO ?aR (fun _ _ h => h) (fun _ h => h.elim) ?aF ?aB ?aS ?aL ?_
    (case aR => repeat (first | exact (Kd.C_below HR0_1.out HB.out) | (with_reducible refine Kd.C_alloc ?_ _) | (with_reducible refine Kd.C_drewN ?_ _) | (with_reducible refine Kd.C_drew ?_)))
    (case aB => exact ba_)
    (case aF => exact (fun k_ hk => Kd.fresh' (Kd.R_lt (ab8 HO325)) k_ hk))
    (case aO => exact (ab8 HO319))
    (case aS => exact (below_size ba_))
    (case aL => have := LMc3.out; omega)
    intro v321 w14 ho hb hg hat
    rw [← Ny320.out] at ho
    replace BK312 := bg_ BK312 hg (Kd.R_ne HO319.out BK312.out (by decide))
    replace BK313 := bg_ BK313 hg (Kd.R_ne HO319.out BK313.out (by decide))
    replace HO316 := am (Kd.S_after (ok := (fun k_ => some k_ ≠ (v324 : Value).ownBlock)) (by (with_reducible repeat (first | apply Kd.S_alloc | apply Kd.S_drewN | apply Kd.S_drew)); exact Kd.S_mono HO316.out (fun _ hk => ⟨hk.2, hk.1⟩)) hg hat)
    replace HO325 := am (Kd.R_after (ok := (fun _ => True)) (by (with_reducible repeat (first | apply Kd.R_alloc | apply Kd.R_drewN | apply Kd.R_drew)); exact Kd.R_mono HO325.out (fun _ hk => ⟨trivial, hk⟩)) hg hat)
    replace HB := am hb
    have HO322 := am ho
    clear HO319
    clear ho hb hg hat
    refine hK.out _ _ ⟨(blk_cell BK312.out 0).trans rfl, (blk_cell BK312.out 1).trans rfl, (blk_cell BK312.out 2).trans rfl, (blk_cell BK312.out 3).trans rfl, (blk_cell BK312.out 4).trans rfl⟩ (fun hHeld => ?_)
    clear hK K
    refine norm_ (a' := ?_) ?_ ?_
    rotate_left
    ·show Act.put _ (some 9) _ = _
     simp only [Act.put, List.setIfInBounds_toArray, List.set_cons_zero, List.set_cons_succ, i64_w, i32_w]
     rfl
    exact norm_ (by first | (simp only [putAll, Act.put, List.setIfInBounds_toArray, List.set_cons_zero, List.set_cons_succ]; done) | (simp only [putAll, Act.put, List.setIfInBounds_toArray, List.set_cons_zero, List.set_cons_succ]; rfl)) (hJ2_3_6_7 (v315, v318, v321, v324) _ ⟨hHeld, (by (with_reducible repeat (first | apply Kd.S_alloc | apply Kd.S_drewN | apply Kd.S_drew)); exact Kd.S_mono HO316.out (fun _ hk => ⟨hk.2, hk.1⟩)), (ab8 HO322), (by (with_reducible repeat (first | apply Kd.R_alloc | apply Kd.R_drewN | apply Kd.R_drew)); exact Kd.R_mono HO325.out (fun _ hk => hk.2)), (ab3 BK312), (ab3 BK313), ba_⟩)
  ·skip
   rintro ⟨v315, v318, v321⟩ w12 ⟨hS_, h0_, h1_, h2_, h3_, h4_⟩
   have n0_ : Aside0 (Kd.S k53 53 w12 w.heap.size (fun k_ => some k_ ≠ (v321 : Value).ownBlock) v315 t314) := ⟨h0_⟩
   have n1_ : Aside0 (Kd.R (Kd.int .i64) 3 w12 w.heap.size (fun _ => True) v321 y320) := ⟨h1_⟩
   have n2_ : Aside0 (w12.heap[gb312]? = some (.cells #[.slice A0_0 l0_0.length c0_0, .slice A0_1 l0_1.length c0_1, .slice A0_2 l0_2.length c0_2, .int .i64 a0_3, .int .i64 a0_4] 31 (0, 0))) := ⟨h2_⟩
   have n3_ : Aside0 (w12.heap[gb313]? = some (.cells #[.slice none 0 0, .slice none 0 0, .slice none 0 0, .int .i64 0, .int .i64 0] 31 (0, 0))) := ⟨h3_⟩
   have n4_ : Aside0 (Below w.heap.size w w12) := ⟨h4_⟩
   clear BK312
   clear BK313
   clear HB
   clear h0_ h1_ h2_ h3_ h4_
   have HO316 := n0_
   have HO322 := n1_
   have BK312 := n2_
   have BK313 := n3_
   have HB := n4_
   clear n0_ n1_ n2_ n3_ n4_
   have hHeld : w12.cell? ⟨gb312, 0, none⟩ = some (.slice A0_0 l0_0.length c0_0) ∧ w12.cell? ⟨gb312, 1, none⟩ = some (.slice A0_1 l0_1.length c0_1) ∧ w12.cell? ⟨gb312, 2, none⟩ = some (.slice A0_2 l0_2.length c0_2) ∧ w12.cell? ⟨gb312, 3, none⟩ = some (.int .i64 a0_3) ∧ w12.cell? ⟨gb312, 4, none⟩ = some (.int .i64 a0_4) := hS_
   refine norm_ (a' := ?_) ?_ ?_
   rotate_left
   ·simp only [putAll, Act.put, List.setIfInBounds_toArray, List.set_cons_zero, List.set_cons_succ]
    rfl
   refine on_ 7 10 HT_ fun K hK => ?_
   refine Kd.R_lit_step (Kd.int .i64) _ 3 ?hg (N := 10) ?hd (xs := ([] : List Int)) (inner := []) (ok := fun _ => True) (okp := fun _ => True) ?hr ?hp (fun _ hk => hk) trivial (Below.refl _ _) (Nat.le_refl _) (by simp) ?_; (case hd => rfl); (case hg => rfl); (case hr => first | (go_simp; done) | (go_simp; rfl)); (case hp => exact (Reps.none _ _))
   intro v324 w13 ho14 hb hg_ hnew_
   clear hg_ hnew_
   (first | rw [← Ny323.out] at ho14 | (simp only [Int.reduceToNat] at ho14; rw [← Ny323.out] at ho14))
   replace HO316 := am (Kd.S_elder' (by (with_reducible repeat (first | apply Kd.S_alloc | apply Kd.S_drewN | apply Kd.S_drew)); exact HO316.out) (Kd.R_base ho14) hb)
   have HO325 := am (Kd.R_lower (Kd.R_new' ho14 (Kd.R_lt (ab8 HO322))) (below_size ba_))
   replace HO322 := am (Kd.R_elder' (ab8 HO322) (Kd.R_base ho14) hb)
   replace BK312 := bl_ BK312 hb
   replace BK313 := bl_ BK313 hb
   replace HB := am (below_step ba_ hb)
   clear hb ho14
   refine hK.out _ _ ⟨(blk_cell BK312.out 0).trans rfl, (blk_cell BK312.out 1).trans rfl, (blk_cell BK312.out 2).trans rfl, (blk_cell BK312.out 3).trans rfl, (blk_cell BK312.out 4).trans rfl⟩ (fun hHeld => ?_)
   clear hK K
   refine norm_ (a' := ?_) ?_ ?_
   rotate_left
   ·show Act.put _ (some 10) _ = _
    simp only [Act.put, List.setIfInBounds_toArray, List.set_cons_zero, List.set_cons_succ, i64_w, i32_w]
    rfl
   exact norm_ (by first | (simp only [putAll, Act.put, List.setIfInBounds_toArray, List.set_cons_zero, List.set_cons_succ]; done) | (simp only [putAll, Act.put, List.setIfInBounds_toArray, List.set_cons_zero, List.set_cons_succ]; rfl)) (hJ2_3_6_7 (v315, v318, v321, v324) _ ⟨hHeld, (by (with_reducible repeat (first | apply Kd.S_alloc | apply Kd.S_drewN | apply Kd.S_drew)); exact HO316.out), (by (with_reducible repeat (first | apply Kd.R_alloc | apply Kd.R_drewN | apply Kd.R_drew)); exact Kd.R_mono HO322.out (fun _ hk => hk.2)), (by (with_reducible repeat (first | apply Kd.R_alloc | apply Kd.R_drewN | apply Kd.R_drew)); exact Kd.R_mono HO325.out (fun _ hk => hk.2)), (ab3 BK312), (ab3 BK313), ba_⟩)
 rintro ⟨v315, v318, v321, v324⟩ w14 ⟨hS_, h0_, h1_, h2_, h3_, h4_, h5_⟩
 have n0_ : Aside0 (Kd.S k53 53 w14 w.heap.size (fun k_ => some k_ ≠ (v321 : Value).ownBlock ∧ some k_ ≠ (v324 : Value).ownBlock) v315 t314) := ⟨h0_⟩
 have n1_ : Aside0 (Kd.R (Kd.int .i64) 3 w14 w.heap.size (fun k_ => some k_ ≠ (v324 : Value).ownBlock) v321 y320) := ⟨h1_⟩
 have n2_ : Aside0 (Kd.R (Kd.int .i64) 3 w14 w.heap.size (fun k_ => some k_ ≠ (v321 : Value).ownBlock) v324 y323) := ⟨h2_⟩
 have n3_ : Aside0 (w14.heap[gb312]? = some (.cells #[.slice A0_0 l0_0.length c0_0, .slice A0_1 l0_1.length c0_1, .slice A0_2 l0_2.length c0_2, .int .i64 a0_3, .int .i64 a0_4] 31 (0, 0))) := ⟨h3_⟩
 have n4_ : Aside0 (w14.heap[gb313]? = some (.cells #[.slice none 0 0, .slice none 0 0, .slice none 0 0, .int .i64 0, .int .i64 0] 31 (0, 0))) := ⟨h4_⟩
 have n5_ : Aside0 (Below w.heap.size w w14) := ⟨h5_⟩
 clear BK312
 clear BK313
 clear HB
 clear h0_ h1_ h2_ h3_ h4_ h5_
 have HO316 := n0_
 have HO322 := n1_
 have HO325 := n2_
 have BK312 := n3_
 have BK313 := n4_
 have HB := n5_
 clear n0_ n1_ n2_ n3_ n4_ n5_
 have hHeld : w14.cell? ⟨gb312, 0, none⟩ = some (.slice A0_0 l0_0.length c0_0) ∧ w14.cell? ⟨gb312, 1, none⟩ = some (.slice A0_1 l0_1.length c0_1) ∧ w14.cell? ⟨gb312, 2, none⟩ = some (.slice A0_2 l0_2.length c0_2) ∧ w14.cell? ⟨gb312, 3, none⟩ = some (.int .i64 a0_3) ∧ w14.cell? ⟨gb312, 4, none⟩ = some (.int .i64 a0_4) := hS_
 refine norm_ (a' := ?_) ?_ ?_
 rotate_left
 ·simp only [putAll, Act.put, List.setIfInBounds_toArray, List.set_cons_zero, List.set_cons_succ]
  rfl
 refine on_ 10 13 HT_ fun K hK => ?_
 refine Kd.R_append_rows_step (Kd.int .i64) (w0 := w) w.heap.size (by rfl) (.tmp 10) (.tmp 12) 23 3 (.int .i64 0) 8 rfl Tryz.underlying23 info3 rfl (by decide) (by omega) v324 y323 l0_2 _ _ _ (fun k_ => some k_ ≠ (v321 : Value).ownBlock) (fun _ => False) rfl rfl ?aO ?aR (fun _ _ h => h) (fun _ h => h.elim) ?aF ?aB ?aS ?aL ?_
 (case aR => repeat (first | exact (Kd.C_below HR0_2.out HB.out) | (with_reducible refine Kd.C_alloc ?_ _) | (with_reducible refine Kd.C_drewN ?_ _) | (with_reducible refine Kd.C_drew ?_)))
 (case aB => exact ba_)
 (case aF => exact (fun k_ hk => Kd.fresh' (Kd.R_lt (ab8 HO322)) k_ hk))
 (case aO => exact (ab8 HO325))
 (case aS => exact (below_size ba_))
 (case aL => have := LMc4.out; omega)
 intro v327 w15 ho hb hg hat
 rw [← Ny326.out] at ho
 replace BK312 := bg_ BK312 hg (Kd.R_ne HO325.out BK312.out (by decide))
 replace BK313 := bg_ BK313 hg (Kd.R_ne HO325.out BK313.out (by decide))
 replace HO316 := am (Kd.S_after (ok := (fun k_ => some k_ ≠ (v321 : Value).ownBlock)) (by (with_reducible repeat (first | apply Kd.S_alloc | apply Kd.S_drewN | apply Kd.S_drew)); exact HO316.out) hg hat)
 replace HO322 := am (Kd.R_after (ok := (fun _ => True)) (by (with_reducible repeat (first | apply Kd.R_alloc | apply Kd.R_drewN | apply Kd.R_drew)); exact Kd.R_mono HO322.out (fun _ hk => ⟨trivial, hk⟩)) hg hat)
 replace HB := am hb
 have HO328 := am ho
 clear HO325
 clear ho hb hg hat
 obtain ⟨Ao16, co16, eo16⟩ := Kd.R_slice HO328.out
 (first | subst eo16 | (injection eo16 with f1_ f2_ f3_; have f4_ := f1_.symm; have f5_ := f3_.symm; clear f1_ f2_ f3_; subst f4_; subst f5_))
 obtain ⟨Ao17, co17, eo17⟩ := Kd.R_slice HO322.out
 (first | subst eo17 | (injection eo17 with f1_ f2_ f3_; have f4_ := f1_.symm; have f5_ := f3_.symm; clear f1_ f2_ f3_; subst f4_; subst f5_))
 obtain ⟨Ao18, co18, eo18⟩ := Kd.S_slice HO316.out
 (first | subst eo18 | (injection eo18 with f1_ f2_ f3_; have f4_ := f1_.symm; have f5_ := f3_.symm; clear f1_ f2_ f3_; subst f4_; subst f5_))
 refine hK.out _ _ ⟨(blk_cell BK312.out 0).trans rfl, (blk_cell BK312.out 1).trans rfl, (blk_cell BK312.out 2).trans rfl, (blk_cell BK312.out 3).trans rfl, (blk_cell BK312.out 4).trans rfl⟩ (fun hHeld => ?_)
 clear hK K
 refine norm_ (a' := ?_) ?_ ?_
 rotate_left
 ·show Act.put _ (some 13) _ = _
  simp only [Act.put, List.setIfInBounds_toArray, List.set_cons_zero, List.set_cons_succ, i64_w, i32_w]
  rfl
 refine pa_ 15 18 HT_ ?_
 refine one_ (i := 16) (N := none) #[true, true, true, true, true, true, true, true, true, true, true, true, true, true, true, true, true] rfl rfl (one_of HT_.out (by kernel_rfl)) (by decide) (fun K hK => ?_)
 have hs19 : w15.cell? ⟨gb313, 0, none⟩ = some (.slice none 0 0) := (blk_cell BK313.out 0).trans rfl
 have hfs19 := blk_frozen BK313.out 0
 have hns19_0 := NB312_313.out
 have hms19_0 := NB313_312.out
 have hs20 : w15.cell? ⟨gb313, 1, none⟩ = some (.slice none 0 0) := (blk_cell BK313.out 1).trans rfl
 have hfs20 := blk_frozen BK313.out 1
 have hns20_0 := NB312_313.out
 have hms20_0 := NB313_312.out
 have hs21 : w15.cell? ⟨gb313, 2, none⟩ = some (.slice none 0 0) := (blk_cell BK313.out 2).trans rfl
 have hfs21 := blk_frozen BK313.out 2
 have hns21_0 := NB312_313.out
 have hms21_0 := NB313_312.out
 have hs22 : w15.cell? ⟨gb313, 3, none⟩ = some (.int .i64 0) := (blk_cell BK313.out 3).trans rfl
 have hfs22 := blk_frozen BK313.out 3
 have hns22_0 := NB312_313.out
 have hms22_0 := NB313_312.out
 have hs23 : w15.cell? ⟨gb313, 4, none⟩ = some (.int .i64 0) := (blk_cell BK313.out 4).trans rfl
 have hfs23 := blk_frozen BK313.out 4
 have hns23_0 := NB312_313.out
 have hms23_0 := NB313_312.out
 refine skip_ (w1 := ?_) (by rfl) rfl ?_ ?_
 rotate_left
 ·go_simp
  rfl
 refine hK.out _ _ ⟨((cell_far (p := ⟨gb313, _, none⟩) NB312_313.out _).trans (((cell_far (p := ⟨gb313, _, none⟩) NB312_313.out _).trans (((cell_far (p := ⟨gb313, _, none⟩) NB312_313.out _).trans (((cell_far (p := ⟨gb313, _, none⟩) NB312_313.out _).trans (((cell_far (p := ⟨gb313, _, none⟩) NB312_313.out _).trans (hHeld.1)))))))))), ((cell_far (p := ⟨gb313, _, none⟩) NB312_313.out _).trans (((cell_far (p := ⟨gb313, _, none⟩) NB312_313.out _).trans (((cell_far (p := ⟨gb313, _, none⟩) NB312_313.out _).trans (((cell_far (p := ⟨gb313, _, none⟩) NB312_313.out _).trans (((cell_far (p := ⟨gb313, _, none⟩) NB312_313.out _).trans (hHeld.2.1)))))))))), ((cell_far (p := ⟨gb313, _, none⟩) NB312_313.out _).trans (((cell_far (p := ⟨gb313, _, none⟩) NB312_313.out _).trans (((cell_far (p := ⟨gb313, _, none⟩) NB312_313.out _).trans (((cell_far (p := ⟨gb313, _, none⟩) NB312_313.out _).trans (((cell_far (p := ⟨gb313, _, none⟩) NB312_313.out _).trans (hHeld.2.2.1)))))))))), ((cell_far (p := ⟨gb313, _, none⟩) NB312_313.out _).trans (((cell_far (p := ⟨gb313, _, none⟩) NB312_313.out _).trans (((cell_far (p := ⟨gb313, _, none⟩) NB312_313.out _).trans (((cell_far (p := ⟨gb313, _, none⟩) NB312_313.out _).trans (((cell_far (p := ⟨gb313, _, none⟩) NB312_313.out _).trans (hHeld.2.2.2.1)))))))))), ((cell_far (p := ⟨gb313, _, none⟩) NB312_313.out _).trans (((cell_far (p := ⟨gb313, _, none⟩) NB312_313.out _).trans (((cell_far (p := ⟨gb313, _, none⟩) NB312_313.out _).trans (((cell_far (p := ⟨gb313, _, none⟩) NB312_313.out _).trans (((cell_far (p := ⟨gb313, _, none⟩) NB312_313.out _).trans (hHeld.2.2.2.2))))))))))⟩ (fun hHeld => ?_)
 clear hK K
 refine dn_ HT_ ?_
 try go_wp2
 refine bodyPost_ret (results_cell_row rfl _ _ gb313 31 #[.slice Ao18 t314.length co18, .slice Ao17 y320.length co17, .slice Ao16 y326.length co16, .int .i64 a0_3, .int .i64 a0_4] (0, 0) _ rfl (bq_ BK313) Tryz.underlying31 rfl (by kernel_rfl)) rfl ?_
 exact ⟨_, _, _, ab7, by (with_reducible repeat (first | apply Kd.S_alloc | apply Kd.S_drewN | apply Kd.S_drew)); exact Kd.S_mono (Kd.S_far (p := ⟨gb313, 4, none⟩) (Kd.S_far (p := ⟨gb313, 3, none⟩) (Kd.S_far (p := ⟨gb313, 2, none⟩) (Kd.S_far (p := ⟨gb313, 1, none⟩) (Kd.S_far (p := ⟨gb313, 0, none⟩) (Kd.S_types HO316.out BK313.out (by decide)) (fun _ hk => hk.2) (.slice Ao18 t314.length co18)) (fun _ hk => hk.2) (.slice Ao17 y320.length co17)) (fun _ hk => hk.2) (.slice Ao16 y326.length co16)) (fun _ hk => hk.2) (.int .i64 a0_3)) (fun _ hk => hk.2) (.int .i64 a0_4)) (fun _ hk => ⟨hk.1.1, hk.1.2⟩), by (with_reducible repeat (first | apply Kd.R_alloc | apply Kd.R_drewN | apply Kd.R_drew)); exact Kd.R_mono (Kd.R_far (p := ⟨gb313, 4, none⟩) (Kd.R_far (p := ⟨gb313, 3, none⟩) (Kd.R_far (p := ⟨gb313, 2, none⟩) (Kd.R_far (p := ⟨gb313, 1, none⟩) (Kd.R_far (p := ⟨gb313, 0, none⟩) (Kd.R_types HO322.out BK313.out (by decide)) (fun _ hk => hk.2) (.slice Ao18 t314.length co18)) (fun _ hk => hk.2) (.slice Ao17 y320.length co17)) (fun _ hk => hk.2) (.slice Ao16 y326.length co16)) (fun _ hk => hk.2) (.int .i64 a0_3)) (fun _ hk => hk.2) (.int .i64 a0_4)) (fun _ hk => hk.1.2), by (with_reducible repeat (first | apply Kd.R_alloc | apply Kd.R_drewN | apply Kd.R_drew)); exact Kd.R_mono (Kd.R_far (p := ⟨gb313, 4, none⟩) (Kd.R_far (p := ⟨gb313, 3, none⟩) (Kd.R_far (p := ⟨gb313, 2, none⟩) (Kd.R_far (p := ⟨gb313, 1, none⟩) (Kd.R_far (p := ⟨gb313, 0, none⟩) (Kd.R_types HO328.out BK313.out (by decide)) (fun _ hk => hk.2) (.slice Ao18 t314.length co18)) (fun _ hk => hk.2) (.slice Ao17 y320.length co17)) (fun _ hk => hk.2) (.slice Ao16 y326.length co16)) (fun _ hk => hk.2) (.int .i64 a0_3)) (fun _ hk => hk.2) (.int .i64 a0_4)) (fun _ hk => hk.1), ba_⟩
def spec_l8Name.f (l0_0 : List (S53)) (l0_1 : List Int) (l0_2 : List Int) (a0_3 : Int) (a0_4 : Int) (a1 : Int) : Option (ByteArray) := if a1 < 0 then (some (⟨#[]⟩ : ByteArray)) else (if a1 ≥ (l0_1.length : Int) then (some (⟨#[]⟩ : ByteArray)) else (if 0 ≤ a1 then (if a1 < (l0_1.length : Int) then (if (rd l0_1 a1) < 0 then (some (⟨#[]⟩ : ByteArray)) else (if (rd l0_1 a1) ≥ (l0_0.length : Int) then (some (⟨#[]⟩ : ByteArray)) else (if 0 ≤ (rd l0_1 a1) then (if (rd l0_1 a1) < (l0_0.length : Int) then (some ((rd_T53 l0_0 (rd l0_1 a1)).f2)) else (none)) else (none)))) else (none)) else (none)))
theorem spec_l8Name.calls (A0_0 : Option Addr) (c0_0 : Nat) (l0_0 : List (S53)) (A0_1 : Option Addr) (c0_1 : Nat) (l0_1 : List Int) (A0_2 : Option Addr) (c0_2 : Nat) (l0_2 : List Int) (a0_3 : Int) (a0_4 : Int) (a1 : Int) (r : ByteArray) (w : World) (hr0_0 : Kd.C k53 w A0_0 l0_0.length l0_0) (hc0_0 : l0_0.length ≤ c0_0) (hr0_1 : Kd.C (Kd.int .i64) w A0_1 l0_1.length l0_1) (hc0_1 : l0_1.length ≤ c0_1) (hr0_2 : Kd.C (Kd.int .i64) w A0_2 l0_2.length l0_2) (hc0_2 : l0_2.length ≤ c0_2) (h : spec_l8Name.f l0_0 l0_1 l0_2 a0_3 a0_4 a1 = some r) :
  Calls Tryz.prog 104 #[.agg #[.slice A0_0 l0_0.length c0_0, .slice A0_1 l0_1.length c0_1, .slice A0_2 l0_2.length c0_2, .int .i64 a0_3, .int .i64 a0_4], .int .i64 a1] w fun e w' => e = .returned (.string r) ∧ Below w.heap.size w w' := by
 have hu31 := Tryz.underlying31
 have HR0_0 := am hr0_0
 have HC0_0 := am hc0_0
 clear hr0_0 hc0_0
 have HR0_1 := am hr0_1
 have HC0_1 := am hc0_1
 clear hr0_1 hc0_1
 have HR0_2 := am hr0_2
 have HC0_2 := am hc0_2
 clear hr0_2 hc0_2
 have HB := am (Below.refl w.heap.size w)
 have H : (if a1 < 0 then (some (⟨#[]⟩ : ByteArray)) else (if a1 ≥ (l0_1.length : Int) then (some (⟨#[]⟩ : ByteArray)) else (if 0 ≤ a1 then (if a1 < (l0_1.length : Int) then (if (rd l0_1 a1) < 0 then (some (⟨#[]⟩ : ByteArray)) else (if (rd l0_1 a1) ≥ (l0_0.length : Int) then (some (⟨#[]⟩ : ByteArray)) else (if 0 ≤ (rd l0_1 a1) then (if (rd l0_1 a1) < (l0_0.length : Int) then (some ((rd_T53 l0_0 (rd l0_1 a1)).f2)) else (none)) else (none)))) else (none)) else (none)))) = some r := h
 clear h
 replace H := ir_ H; rcases H with ⟨c3b0, H⟩ | ⟨c3b0, H⟩
 ·obtain rfl := Option.some.inj H
  go_enter Tryz.func104, Tryz.ntmps104
  go_wp2_with (first | ((with_reducible refine gd_ 2 ?_); (try (refine gate_guard (by rfl) ?_; dsimp only)); refine bx_ 2 (cs := #[.slice A0_0 l0_0.length c0_0, .slice A0_1 l0_1.length c0_1, .slice A0_2 l0_2.length c0_2, .int .i64 a0_3, .int .i64 a0_4]) 31 ?_; intro gb329 hg w4 hbox hb; have BK329 := am hbox; have GW329 := ge_ (w := w) hg; have GE329 := ge_ (w := w) hg; replace HB := am (below_step ab1 hb); clear hb hbox hg))
  repeat (go_quiet (first | ((with_reducible refine gd_ 2 ?_); (try (refine gate_guard (by rfl) ?_; dsimp only)); refine bx_ 2 (cs := #[.slice A0_0 l0_0.length c0_0, .slice A0_1 l0_1.length c0_1, .slice A0_2 l0_2.length c0_2, .int .i64 a0_3, .int .i64 a0_4]) 31 ?_; intro gb329 hg w4 hbox hb; have BK329 := am hbox; have GW329 := ge_ (w := w) hg; have GE329 := ge_ (w := w) hg; replace HB := am (below_step ab1 hb); clear hb hbox hg)); try go_wp2_with (first | ((with_reducible refine gd_ 2 ?_); (try (refine gate_guard (by rfl) ?_; dsimp only)); refine bx_ 2 (cs := #[.slice A0_0 l0_0.length c0_0, .slice A0_1 l0_1.length c0_1, .slice A0_2 l0_2.length c0_2, .int .i64 a0_3, .int .i64 a0_4]) 31 ?_; intro gb329 hg w4 hbox hb; have BK329 := am hbox; have GW329 := ge_ (w := w) hg; have GE329 := ge_ (w := w) hg; replace HB := am (below_step ab1 hb); clear hb hbox hg)))
  go_ret
  exact ⟨ab7, ab2 GE329⟩
 ·by_cases c5 : a1 ≥ (l0_1.length : Int)
  ·rw [if_pos c5] at H
   have c5b0 : decide ((l0_1.length : Int) ≤ a1) = true := decide_eq_true c5
   clear c5
   obtain rfl := Option.some.inj H
   go_enter Tryz.func104, Tryz.ntmps104
   go_wp2_with (first | ((with_reducible refine gd_ 2 ?_); (try (refine gate_guard (by rfl) ?_; dsimp only)); refine bx_ 2 (cs := #[.slice A0_0 l0_0.length c0_0, .slice A0_1 l0_1.length c0_1, .slice A0_2 l0_2.length c0_2, .int .i64 a0_3, .int .i64 a0_4]) 31 ?_; intro gb329 hg w6 hbox hb; have BK329 := am hbox; have GW329 := ge_ (w := w) hg; have GE329 := ge_ (w := w) hg; replace HB := am (below_step ab1 hb); clear hb hbox hg; obtain ⟨⟨_, _, _, _, _⟩, _, _, _, _, _⟩ := Op.cells5 BK329.out))
   repeat (go_quiet (first | ((with_reducible refine gd_ 2 ?_); (try (refine gate_guard (by rfl) ?_; dsimp only)); refine bx_ 2 (cs := #[.slice A0_0 l0_0.length c0_0, .slice A0_1 l0_1.length c0_1, .slice A0_2 l0_2.length c0_2, .int .i64 a0_3, .int .i64 a0_4]) 31 ?_; intro gb329 hg w6 hbox hb; have BK329 := am hbox; have GW329 := ge_ (w := w) hg; have GE329 := ge_ (w := w) hg; replace HB := am (below_step ab1 hb); clear hb hbox hg; obtain ⟨⟨_, _, _, _, _⟩, _, _, _, _, _⟩ := Op.cells5 BK329.out)); try go_wp2_with (first | ((with_reducible refine gd_ 2 ?_); (try (refine gate_guard (by rfl) ?_; dsimp only)); refine bx_ 2 (cs := #[.slice A0_0 l0_0.length c0_0, .slice A0_1 l0_1.length c0_1, .slice A0_2 l0_2.length c0_2, .int .i64 a0_3, .int .i64 a0_4]) 31 ?_; intro gb329 hg w6 hbox hb; have BK329 := am hbox; have GW329 := ge_ (w := w) hg; have GE329 := ge_ (w := w) hg; replace HB := am (below_step ab1 hb); clear hb hbox hg; obtain ⟨⟨_, _, _, _, _⟩, _, _, _, _, _⟩ := Op.cells5 BK329.out)))
   go_ret
   exact ⟨ab7, ab2 GE329⟩
  ·rw [if_neg c5] at H
   have c5b0 : decide ((l0_1.length : Int) ≤ a1) = false := decide_eq_false c5
   clear c5
   replace H := iq_ H; obtain ⟨c8b0, H⟩ := H
   replace H := iq_ H; obtain ⟨c9b0, H⟩ := H
   replace H := ir_ H; rcases H with ⟨c10b0, H⟩ | ⟨c10b0, H⟩
   ·obtain rfl := Option.some.inj H
    go_enter Tryz.func104, Tryz.ntmps104
    go_wp2_with (first | ((with_reducible refine gd_ 2 ?_); (try (refine gate_guard (by rfl) ?_; dsimp only)); refine bx_ 2 (cs := #[.slice A0_0 l0_0.length c0_0, .slice A0_1 l0_1.length c0_1, .slice A0_2 l0_2.length c0_2, .int .i64 a0_3, .int .i64 a0_4]) 31 ?_; intro gb329 hg w11 hbox hb; have BK329 := am hbox; have GW329 := ge_ (w := w) hg; have GE329 := ge_ (w := w) hg; replace HB := am (below_step ab1 hb); clear hb hbox hg; obtain ⟨⟨_, _, _, _, _⟩, _, _, _, _, _⟩ := Op.cells5 BK329.out; have p330 : 0 ≤ (a1 : Int) := of_decide_eq_true ab4; have q330 : a1 < (l0_1.length : Int) := of_decide_eq_true ab4; obtain ⟨ad330, e330, hx330_0⟩ := Kd.at_int HR0_1.out a1 p330 q330; cases e330; replace hx330_0 := pc_ HB hx330_0; replace p330 := eq_true p330; replace q330 := eq_true q330))
    repeat (go_quiet (first | ((with_reducible refine gd_ 2 ?_); (try (refine gate_guard (by rfl) ?_; dsimp only)); refine bx_ 2 (cs := #[.slice A0_0 l0_0.length c0_0, .slice A0_1 l0_1.length c0_1, .slice A0_2 l0_2.length c0_2, .int .i64 a0_3, .int .i64 a0_4]) 31 ?_; intro gb329 hg w11 hbox hb; have BK329 := am hbox; have GW329 := ge_ (w := w) hg; have GE329 := ge_ (w := w) hg; replace HB := am (below_step ab1 hb); clear hb hbox hg; obtain ⟨⟨_, _, _, _, _⟩, _, _, _, _, _⟩ := Op.cells5 BK329.out; have p330 : 0 ≤ (a1 : Int) := of_decide_eq_true ab4; have q330 : a1 < (l0_1.length : Int) := of_decide_eq_true ab4; obtain ⟨ad330, e330, hx330_0⟩ := Kd.at_int HR0_1.out a1 p330 q330; cases e330; replace hx330_0 := pc_ HB hx330_0; replace p330 := eq_true p330; replace q330 := eq_true q330)); try go_wp2_with (first | ((with_reducible refine gd_ 2 ?_); (try (refine gate_guard (by rfl) ?_; dsimp only)); refine bx_ 2 (cs := #[.slice A0_0 l0_0.length c0_0, .slice A0_1 l0_1.length c0_1, .slice A0_2 l0_2.length c0_2, .int .i64 a0_3, .int .i64 a0_4]) 31 ?_; intro gb329 hg w11 hbox hb; have BK329 := am hbox; have GW329 := ge_ (w := w) hg; have GE329 := ge_ (w := w) hg; replace HB := am (below_step ab1 hb); clear hb hbox hg; obtain ⟨⟨_, _, _, _, _⟩, _, _, _, _, _⟩ := Op.cells5 BK329.out; have p330 : 0 ≤ (a1 : Int) := of_decide_eq_true ab4; have q330 : a1 < (l0_1.length : Int) := of_decide_eq_true ab4; obtain ⟨ad330, e330, hx330_0⟩ := Kd.at_int HR0_1.out a1 p330 q330; cases e330; replace hx330_0 := pc_ HB hx330_0; replace p330 := eq_true p330; replace q330 := eq_true q330)))
    go_ret
    exact ⟨ab7, ab2 GE329⟩
   ·by_cases c13 : (rd l0_1 a1) ≥ (l0_0.length : Int)
    ·rw [if_pos c13] at H
     have c13b0 : decide ((l0_0.length : Int) ≤ (rd l0_1 a1)) = true := decide_eq_true c13
     clear c13
     obtain rfl := Option.some.inj H
     go_enter Tryz.func104, Tryz.ntmps104
     go_wp2_with (first | ((with_reducible refine gd_ 2 ?_); (try (refine gate_guard (by rfl) ?_; dsimp only)); refine bx_ 2 (cs := #[.slice A0_0 l0_0.length c0_0, .slice A0_1 l0_1.length c0_1, .slice A0_2 l0_2.length c0_2, .int .i64 a0_3, .int .i64 a0_4]) 31 ?_; intro gb329 hg w14 hbox hb; have BK329 := am hbox; have GW329 := ge_ (w := w) hg; have GE329 := ge_ (w := w) hg; replace HB := am (below_step ab1 hb); clear hb hbox hg; obtain ⟨⟨_, _, _, _, _⟩, _, _, _, _, _⟩ := Op.cells5 BK329.out; have p330 : 0 ≤ (a1 : Int) := of_decide_eq_true ab4; have q330 : a1 < (l0_1.length : Int) := of_decide_eq_true ab4; obtain ⟨ad330, e330, hx330_0⟩ := Kd.at_int HR0_1.out a1 p330 q330; cases e330; replace hx330_0 := pc_ HB hx330_0; replace p330 := eq_true p330; replace q330 := eq_true q330; have p331 : 0 ≤ (a1 : Int) := of_decide_eq_true ab4; have q331 : a1 < (l0_1.length : Int) := of_decide_eq_true ab4; obtain ⟨ad331, e331, hx331_0⟩ := Kd.at_int HR0_1.out a1 p331 q331; obtain rfl : ad330 = ad331 := (by injection e331); replace hx331_0 := pc_ HB hx331_0; replace p331 := eq_true p331; replace q331 := eq_true q331))
     repeat (go_quiet (first | ((with_reducible refine gd_ 2 ?_); (try (refine gate_guard (by rfl) ?_; dsimp only)); refine bx_ 2 (cs := #[.slice A0_0 l0_0.length c0_0, .slice A0_1 l0_1.length c0_1, .slice A0_2 l0_2.length c0_2, .int .i64 a0_3, .int .i64 a0_4]) 31 ?_; intro gb329 hg w14 hbox hb; have BK329 := am hbox; have GW329 := ge_ (w := w) hg; have GE329 := ge_ (w := w) hg; replace HB := am (below_step ab1 hb); clear hb hbox hg; obtain ⟨⟨_, _, _, _, _⟩, _, _, _, _, _⟩ := Op.cells5 BK329.out; have p330 : 0 ≤ (a1 : Int) := of_decide_eq_true ab4; have q330 : a1 < (l0_1.length : Int) := of_decide_eq_true ab4; obtain ⟨ad330, e330, hx330_0⟩ := Kd.at_int HR0_1.out a1 p330 q330; cases e330; replace hx330_0 := pc_ HB hx330_0; replace p330 := eq_true p330; replace q330 := eq_true q330; have p331 : 0 ≤ (a1 : Int) := of_decide_eq_true ab4; have q331 : a1 < (l0_1.length : Int) := of_decide_eq_true ab4; obtain ⟨ad331, e331, hx331_0⟩ := Kd.at_int HR0_1.out a1 p331 q331; obtain rfl : ad330 = ad331 := (by injection e331); replace hx331_0 := pc_ HB hx331_0; replace p331 := eq_true p331; replace q331 := eq_true q331)); try go_wp2_with (first | ((with_reducible refine gd_ 2 ?_); (try (refine gate_guard (by rfl) ?_; dsimp only)); refine bx_ 2 (cs := #[.slice A0_0 l0_0.length c0_0, .slice A0_1 l0_1.length c0_1, .slice A0_2 l0_2.length c0_2, .int .i64 a0_3, .int .i64 a0_4]) 31 ?_; intro gb329 hg w14 hbox hb; have BK329 := am hbox; have GW329 := ge_ (w := w) hg; have GE329 := ge_ (w := w) hg; replace HB := am (below_step ab1 hb); clear hb hbox hg; obtain ⟨⟨_, _, _, _, _⟩, _, _, _, _, _⟩ := Op.cells5 BK329.out; have p330 : 0 ≤ (a1 : Int) := of_decide_eq_true ab4; have q330 : a1 < (l0_1.length : Int) := of_decide_eq_true ab4; obtain ⟨ad330, e330, hx330_0⟩ := Kd.at_int HR0_1.out a1 p330 q330; cases e330; replace hx330_0 := pc_ HB hx330_0; replace p330 := eq_true p330; replace q330 := eq_true q330; have p331 : 0 ≤ (a1 : Int) := of_decide_eq_true ab4; have q331 : a1 < (l0_1.length : Int) := of_decide_eq_true ab4; obtain ⟨ad331, e331, hx331_0⟩ := Kd.at_int HR0_1.out a1 p331 q331; obtain rfl : ad330 = ad331 := (by injection e331); replace hx331_0 := pc_ HB hx331_0; replace p331 := eq_true p331; replace q331 := eq_true q331)))
     go_ret
     exact ⟨ab7, ab2 GE329⟩
    ·rw [if_neg c13] at H
     have c13b0 : decide ((l0_0.length : Int) ≤ (rd l0_1 a1)) = false := decide_eq_false c13
     clear c13
     replace H := iq_ H; obtain ⟨c16b0, H⟩ := H
     replace H := iq_ H; obtain ⟨c17b0, H⟩ := H
     obtain rfl := Option.some.inj H
     go_enter Tryz.func104, Tryz.ntmps104
     go_wp2_with (first | ((with_reducible refine gd_ 2 ?_); (try (refine gate_guard (by rfl) ?_; dsimp only)); refine bx_ 2 (cs := #[.slice A0_0 l0_0.length c0_0, .slice A0_1 l0_1.length c0_1, .slice A0_2 l0_2.length c0_2, .int .i64 a0_3, .int .i64 a0_4]) 31 ?_; intro gb329 hg w18 hbox hb; have BK329 := am hbox; have GW329 := ge_ (w := w) hg; have GE329 := ge_ (w := w) hg; replace HB := am (below_step ab1 hb); clear hb hbox hg; obtain ⟨⟨_, _, _, _, _⟩, _, _, _, _, _⟩ := Op.cells5 BK329.out; have p330 : 0 ≤ (a1 : Int) := of_decide_eq_true ab4; have q330 : a1 < (l0_1.length : Int) := of_decide_eq_true ab4; obtain ⟨ad330, e330, hx330_0⟩ := Kd.at_int HR0_1.out a1 p330 q330; cases e330; replace hx330_0 := pc_ HB hx330_0; replace p330 := eq_true p330; replace q330 := eq_true q330; have p331 : 0 ≤ (a1 : Int) := of_decide_eq_true ab4; have q331 : a1 < (l0_1.length : Int) := of_decide_eq_true ab4; obtain ⟨ad331, e331, hx331_0⟩ := Kd.at_int HR0_1.out a1 p331 q331; obtain rfl : ad330 = ad331 := (by injection e331); replace hx331_0 := pc_ HB hx331_0; replace p331 := eq_true p331; replace q331 := eq_true q331; have p332 : 0 ≤ (a1 : Int) := of_decide_eq_true ab4; have q332 : a1 < (l0_1.length : Int) := of_decide_eq_true ab4; obtain ⟨ad332, e332, hx332_0⟩ := Kd.at_int HR0_1.out a1 p332 q332; obtain rfl : ad330 = ad332 := (by injection e332); replace hx332_0 := pc_ HB hx332_0; replace p332 := eq_true p332; replace q332 := eq_true q332; have p333 : 0 ≤ ((rd l0_1 a1) : Int) := of_decide_eq_true ab4; have q333 : (rd l0_1 a1) < (l0_0.length : Int) := of_decide_eq_true ab4; obtain ⟨ad333, A333_3, c333_3, A333_6, c333_6, e333, hx333_0, hx333_1, hx333_2, hx333_3, hx333_4, hx333_5, hx333_6, hl333_3, hi333_3, hl333_6, hi333_6⟩ := at_T53 HR0_0.out (rd l0_1 a1) p333 q333; cases e333; replace hx333_0 := pc_ HB hx333_0; replace hx333_1 := pc_ HB hx333_1; replace hx333_2 := pc_ HB hx333_2; replace hx333_3 := pc_ HB hx333_3; replace hx333_4 := pc_ HB hx333_4; replace hx333_5 := pc_ HB hx333_5; replace hx333_6 := pc_ HB hx333_6; have HR333_3 := am hi333_3; have HC333_3 := am hl333_3; clear hi333_3 hl333_3; have HR333_6 := am hi333_6; have HC333_6 := am hl333_6; clear hi333_6 hl333_6; replace p333 := eq_true p333; replace q333 := eq_true q333))
     repeat (go_quiet (first | ((with_reducible refine gd_ 2 ?_); (try (refine gate_guard (by rfl) ?_; dsimp only)); refine bx_ 2 (cs := #[.slice A0_0 l0_0.length c0_0, .slice A0_1 l0_1.length c0_1, .slice A0_2 l0_2.length c0_2, .int .i64 a0_3, .int .i64 a0_4]) 31 ?_; intro gb329 hg w18 hbox hb; have BK329 := am hbox; have GW329 := ge_ (w := w) hg; have GE329 := ge_ (w := w) hg; replace HB := am (below_step ab1 hb); clear hb hbox hg; obtain ⟨⟨_, _, _, _, _⟩, _, _, _, _, _⟩ := Op.cells5 BK329.out; have p330 : 0 ≤ (a1 : Int) := of_decide_eq_true ab4; have q330 : a1 < (l0_1.length : Int) := of_decide_eq_true ab4; obtain ⟨ad330, e330, hx330_0⟩ := Kd.at_int HR0_1.out a1 p330 q330; cases e330; replace hx330_0 := pc_ HB hx330_0; replace p330 := eq_true p330; replace q330 := eq_true q330; have p331 : 0 ≤ (a1 : Int) := of_decide_eq_true ab4; have q331 : a1 < (l0_1.length : Int) := of_decide_eq_true ab4; obtain ⟨ad331, e331, hx331_0⟩ := Kd.at_int HR0_1.out a1 p331 q331; obtain rfl : ad330 = ad331 := (by injection e331); replace hx331_0 := pc_ HB hx331_0; replace p331 := eq_true p331; replace q331 := eq_true q331; have p332 : 0 ≤ (a1 : Int) := of_decide_eq_true ab4; have q332 : a1 < (l0_1.length : Int) := of_decide_eq_true ab4; obtain ⟨ad332, e332, hx332_0⟩ := Kd.at_int HR0_1.out a1 p332 q332; obtain rfl : ad330 = ad332 := (by injection e332); replace hx332_0 := pc_ HB hx332_0; replace p332 := eq_true p332; replace q332 := eq_true q332; have p333 : 0 ≤ ((rd l0_1 a1) : Int) := of_decide_eq_true ab4; have q333 : (rd l0_1 a1) < (l0_0.length : Int) := of_decide_eq_true ab4; obtain ⟨ad333, A333_3, c333_3, A333_6, c333_6, e333, hx333_0, hx333_1, hx333_2, hx333_3, hx333_4, hx333_5, hx333_6, hl333_3, hi333_3, hl333_6, hi333_6⟩ := at_T53 HR0_0.out (rd l0_1 a1) p333 q333; cases e333; replace hx333_0 := pc_ HB hx333_0; replace hx333_1 := pc_ HB hx333_1; replace hx333_2 := pc_ HB hx333_2; replace hx333_3 := pc_ HB hx333_3; replace hx333_4 := pc_ HB hx333_4; replace hx333_5 := pc_ HB hx333_5; replace hx333_6 := pc_ HB hx333_6; have HR333_3 := am hi333_3; have HC333_3 := am hl333_3; clear hi333_3 hl333_3; have HR333_6 := am hi333_6; have HC333_6 := am hl333_6; clear hi333_6 hl333_6; replace p333 := eq_true p333; replace q333 := eq_true q333)); try go_wp2_with (first | ((with_reducible refine gd_ 2 ?_); (try (refine gate_guard (by rfl) ?_; dsimp only)); refine bx_ 2 (cs := #[.slice A0_0 l0_0.length c0_0, .slice A0_1 l0_1.length c0_1, .slice A0_2 l0_2.length c0_2, .int .i64 a0_3, .int .i64 a0_4]) 31 ?_; intro gb329 hg w18 hbox hb; have BK329 := am hbox; have GW329 := ge_ (w := w) hg; have GE329 := ge_ (w := w) hg; replace HB := am (below_step ab1 hb); clear hb hbox hg; obtain ⟨⟨_, _, _, _, _⟩, _, _, _, _, _⟩ := Op.cells5 BK329.out; have p330 : 0 ≤ (a1 : Int) := of_decide_eq_true ab4; have q330 : a1 < (l0_1.length : Int) := of_decide_eq_true ab4; obtain ⟨ad330, e330, hx330_0⟩ := Kd.at_int HR0_1.out a1 p330 q330; cases e330; replace hx330_0 := pc_ HB hx330_0; replace p330 := eq_true p330; replace q330 := eq_true q330; have p331 : 0 ≤ (a1 : Int) := of_decide_eq_true ab4; have q331 : a1 < (l0_1.length : Int) := of_decide_eq_true ab4; obtain ⟨ad331, e331, hx331_0⟩ := Kd.at_int HR0_1.out a1 p331 q331; obtain rfl : ad330 = ad331 := (by injection e331); replace hx331_0 := pc_ HB hx331_0; replace p331 := eq_true p331; replace q331 := eq_true q331; have p332 : 0 ≤ (a1 : Int) := of_decide_eq_true ab4; have q332 : a1 < (l0_1.length : Int) := of_decide_eq_true ab4; obtain ⟨ad332, e332, hx332_0⟩ := Kd.at_int HR0_1.out a1 p332 q332; obtain rfl : ad330 = ad332 := (by injection e332); replace hx332_0 := pc_ HB hx332_0; replace p332 := eq_true p332; replace q332 := eq_true q332; have p333 : 0 ≤ ((rd l0_1 a1) : Int) := of_decide_eq_true ab4; have q333 : (rd l0_1 a1) < (l0_0.length : Int) := of_decide_eq_true ab4; obtain ⟨ad333, A333_3, c333_3, A333_6, c333_6, e333, hx333_0, hx333_1, hx333_2, hx333_3, hx333_4, hx333_5, hx333_6, hl333_3, hi333_3, hl333_6, hi333_6⟩ := at_T53 HR0_0.out (rd l0_1 a1) p333 q333; cases e333; replace hx333_0 := pc_ HB hx333_0; replace hx333_1 := pc_ HB hx333_1; replace hx333_2 := pc_ HB hx333_2; replace hx333_3 := pc_ HB hx333_3; replace hx333_4 := pc_ HB hx333_4; replace hx333_5 := pc_ HB hx333_5; replace hx333_6 := pc_ HB hx333_6; have HR333_3 := am hi333_3; have HC333_3 := am hl333_3; clear hi333_3 hl333_3; have HR333_6 := am hi333_6; have HC333_6 := am hl333_6; clear hi333_6 hl333_6; replace p333 := eq_true p333; replace q333 := eq_true q333)))
     go_ret
     exact ⟨ab7, ab2 GE329⟩
def spec_l8Find.l0 : Nat → ByteArray → Int → List (S53) → List Int → List Int → Int → Int → Option (Int)
 | 0, _, _, _, _, _, _, _ => none
 | k + 1, x1, x5, x335000, x335001, x335002, x335003, x335004 => if x5 ≥ 0 then ((spec_l8Name.f x335000 x335001 x335002 x335003 x335004 x5).bind fun t335 => (if t335.toList = x1.toList then (some x5) else (spec_l8Find.l0 k x1 (wrap64 (x5 - 1)) x335000 x335001 x335002 x335003 x335004))) else (some x5)
def spec_l8Find.f (k : Nat) (l0_0 : List (S53)) (l0_1 : List Int) (l0_2 : List Int) (a0_3 : Int) (a0_4 : Int) (a1 : ByteArray) : Option (Int) := spec_l8Find.l0 k a1 (wrap64 ((l0_1.length : Int) - 1)) l0_0 l0_1 l0_2 a0_3 a0_4
theorem spec_l8Find.calls (k : Nat) (A0_0 : Option Addr) (c0_0 : Nat) (l0_0 : List (S53)) (A0_1 : Option Addr) (c0_1 : Nat) (l0_1 : List Int) (A0_2 : Option Addr) (c0_2 : Nat) (l0_2 : List Int) (a0_3 : Int) (a0_4 : Int) (a1 : ByteArray) (r : Int) (w : World) (hr0_0 : Kd.C k53 w A0_0 l0_0.length l0_0) (hc0_0 : l0_0.length ≤ c0_0) (hr0_1 : Kd.C (Kd.int .i64) w A0_1 l0_1.length l0_1) (hc0_1 : l0_1.length ≤ c0_1) (hr0_2 : Kd.C (Kd.int .i64) w A0_2 l0_2.length l0_2) (hc0_2 : l0_2.length ≤ c0_2) (h : spec_l8Find.f k l0_0 l0_1 l0_2 a0_3 a0_4 a1 = some r) :
  Calls Tryz.prog 83 #[.agg #[.slice A0_0 l0_0.length c0_0, .slice A0_1 l0_1.length c0_1, .slice A0_2 l0_2.length c0_2, .int .i64 a0_3, .int .i64 a0_4], .string a1] w fun e w' => e = .returned (.int .i64 r) ∧ Below w.heap.size w w' := by
 have hu31 := Tryz.underlying31
 have HR0_0 := am hr0_0
 have HC0_0 := am hc0_0
 clear hr0_0 hc0_0
 have HR0_1 := am hr0_1
 have HC0_1 := am hc0_1
 clear hr0_1 hc0_1
 have HR0_2 := am hr0_2
 have HC0_2 := am hc0_2
 clear hr0_2 hc0_2
 have HB := am (Below.refl w.heap.size w)
 have H : (spec_l8Find.l0 k a1 (wrap64 ((l0_1.length : Int) - 1)) l0_0 l0_1 l0_2 a0_3 a0_4) = some r := h
 clear h
 have H' := am H
 clear H
 go_enter Tryz.func83, Tryz.ntmps83
 go_wp2_with (first | ((with_reducible refine gd_ 2 ?_); refine bx_ 2 (cs := #[.slice A0_0 l0_0.length c0_0, .slice A0_1 l0_1.length c0_1, .slice A0_2 l0_2.length c0_2, .int .i64 a0_3, .int .i64 a0_4]) 31 ?_; intro gb334 hg w3 hbox hb; have BK334 := am hbox; have GW334 := ge_ (w := w) hg; have GE334 := ge_ (w := w) hg; replace HB := am (below_step ab1 hb); clear hb hbox hg; obtain ⟨⟨_, _, _, _, _⟩, _, _, _, _, _⟩ := Op.cells5 BK334.out))
 go_loopg [5] k (fun kq v5 w' => ∃ (x5_1 : Int), v5 = .int .i64 x5_1 ∧ Aside0 (spec_l8Find.l0 kq a1 x5_1 l0_0 l0_1 l0_2 a0_3 a0_4 = some r) ∧ Aside0 (kq ≤ k) ∧ Aside0 (w'.heap[gb334]? = some (.cells #[(.slice A0_0 l0_0.length c0_0), (.slice A0_1 l0_1.length c0_1), (.slice A0_2 l0_2.length c0_2), .int .i64 a0_3, .int .i64 a0_4] 31 (0, 0))) ∧ Aside0 (Below w.heap.size w w'))
 case atStart => exact ⟨(wrap64 ((l0_1.length : Int) - 1)), ab6, H', ⟨Nat.le_refl _⟩, ⟨ab3 BK334⟩, ⟨ab2 GE334⟩⟩
 case round =>
  clear H'
  (try clear p2); (try clear hcz4_0); (try clear hcz4_1); (try clear hcz4_2); (try clear hcz4_3); (try clear hcz4_4); (try clear hfz4_0); (try clear hfz4_1); (try clear hfz4_2); (try clear hfz4_3); (try clear hfz4_4)
  obtain ⟨x5_1, rfl, HA, HK1, BK334, HB⟩ := hrel
  cases gk with
  | zero => exact absurd HA.out (by simp [spec_l8Find.l0])
  | succ k1 =>
   have H := HA.out
   clear HA
   simp only [spec_l8Find.l0] at H
   by_cases c5 : x5_1 ≥ 0
   ·rw [if_pos c5] at H
    have c5b0 : decide (0 ≤ x5_1) = true := decide_eq_true c5
    clear c5
    replace H := bi_ H; obtain ⟨t335, A6, H⟩ := H
    replace H := ie_ H; rcases H with ⟨c7b0, c7b1, H⟩ | ⟨c7, c7b0, c7b1, H⟩
    ·obtain rfl := Option.some.inj H
     obtain ⟨⟨_, _, _, _, _⟩, _, _, _, _, _⟩ := Op.cells5 BK334.out
     go_wp2_with (first | (go_at_call 104; (with_reducible refine (spec_l8Name.calls _ _ l0_0 _ _ l0_1 _ _ l0_2 a0_3 a0_4 x5_1 t335 _ (sc_ HR0_0) HC0_0.out (sc_ HR0_1) HC0_1.out (sc_ HR0_2) HC0_2.out A6.out).mono ?_); rintro e w9 ⟨rfl, hb⟩; replace BK334 := bl_ BK334 hb; replace HB := am (below_step (ab2 GE334) hb); (try clear hb)))
     go_ret
     exact ⟨ab7, ab2 GE334⟩
    ·have H' := am H
     clear H
     obtain ⟨⟨_, _, _, _, _⟩, _, _, _, _, _⟩ := Op.cells5 BK334.out
     go_wp2_with (first | (go_at_call 104; (with_reducible refine (spec_l8Name.calls _ _ l0_0 _ _ l0_1 _ _ l0_2 a0_3 a0_4 x5_1 t335 _ (sc_ HR0_0) HC0_0.out (sc_ HR0_1) HC0_1.out (sc_ HR0_2) HC0_2.out A6.out).mono ?_); rintro e w11 ⟨rfl, hb⟩; replace BK334 := bl_ BK334 hb; replace HB := am (below_step (ab2 GE334) hb); (try clear hb)))
     go_roundg k1
     case measure => have := HK1.out; omega
     case rel => exact ⟨(wrap64 (x5_1 - 1)), ab6, H', ⟨by have := HK1.out; omega⟩, ⟨ab3 BK334⟩, ⟨ab2 GE334⟩⟩
   ·rw [if_neg c5] at H
    have c5b0 : decide (0 ≤ x5_1) = false := decide_eq_false c5
    clear c5
    obtain rfl := Option.some.inj H
    go_wp2
    go_ret
    exact ⟨ab7, ab2 GE334⟩
def spec_TableOpen.f (k : Nat) (l0_0 : List (S53)) (l0_1 : List Int) (l0_2 : List Int) (a0_3 : Int) (a0_4 : Int) : Option (Int) := (spec_l8Find.f k l0_0 l0_1 l0_2 a0_3 a0_4 (⟨#[116, 97, 98, 108, 101]⟩ : ByteArray)).bind fun t337 => (some t337)
theorem spec_TableOpen.calls (k : Nat) (A0_0 : Option Addr) (c0_0 : Nat) (l0_0 : List (S53)) (A0_1 : Option Addr) (c0_1 : Nat) (l0_1 : List Int) (A0_2 : Option Addr) (c0_2 : Nat) (l0_2 : List Int) (a0_3 : Int) (a0_4 : Int) (r : Int) (w : World) (hr0_0 : Kd.C k53 w A0_0 l0_0.length l0_0) (hc0_0 : l0_0.length ≤ c0_0) (hr0_1 : Kd.C (Kd.int .i64) w A0_1 l0_1.length l0_1) (hc0_1 : l0_1.length ≤ c0_1) (hr0_2 : Kd.C (Kd.int .i64) w A0_2 l0_2.length l0_2) (hc0_2 : l0_2.length ≤ c0_2) (h : spec_TableOpen.f k l0_0 l0_1 l0_2 a0_3 a0_4 = some r) :
  Calls Tryz.prog 54 #[.agg #[.slice A0_0 l0_0.length c0_0, .slice A0_1 l0_1.length c0_1, .slice A0_2 l0_2.length c0_2, .int .i64 a0_3, .int .i64 a0_4]] w fun e w' => e = .returned (.int .i64 r) ∧ Below w.heap.size w w' := by
 have hu31 := Tryz.underlying31
 have HR0_0 := am hr0_0
 have HC0_0 := am hc0_0
 clear hr0_0 hc0_0
 have HR0_1 := am hr0_1
 have HC0_1 := am hc0_1
 clear hr0_1 hc0_1
 have HR0_2 := am hr0_2
 have HC0_2 := am hc0_2
 clear hr0_2 hc0_2
 have HB := am (Below.refl w.heap.size w)
 have H : ((spec_l8Find.f k l0_0 l0_1 l0_2 a0_3 a0_4 (⟨#[116, 97, 98, 108, 101]⟩ : ByteArray)).bind fun t337 => (some t337)) = some r := h
 clear h
 replace H := bi_ H; obtain ⟨t337, A2, H⟩ := H
 obtain rfl := Option.some.inj H
 go_enter Tryz.func54, Tryz.ntmps54
 go_wp2_with (first | ((with_reducible refine gd_ 1 ?_); refine bx_ 1 (cs := #[.slice A0_0 l0_0.length c0_0, .slice A0_1 l0_1.length c0_1, .slice A0_2 l0_2.length c0_2, .int .i64 a0_3, .int .i64 a0_4]) 31 ?_; intro gb336 hg w3 hbox hb; have BK336 := am hbox; have GW336 := ge_ (w := w) hg; have GE336 := ge_ (w := w) hg; replace HB := am (below_step ab1 hb); clear hb hbox hg; obtain ⟨⟨_, _, _, _, _⟩, _, _, _, _, _⟩ := Op.cells5 BK336.out) | ((with_reducible refine gf_ 83 ?_); refine gc_ Tryz.func83 (spec_l8Find.calls k _ _ l0_0 _ _ l0_1 _ _ l0_2 a0_3 a0_4 (⟨#[116, 97, 98, 108, 101]⟩ : ByteArray) t337 _ (sc_ HR0_0) HC0_0.out (sc_ HR0_1) HC0_1.out (sc_ HR0_2) HC0_2.out A2.out) ?_; rintro w5 hb; replace BK336 := bl_ BK336 hb; replace HB := am (below_step (ab2 GE336) hb); (try clear hb)))
 go_ret
 exact ⟨ab7, ab2 GE336⟩
def spec_l8Last.f (l0_0 : List (S53)) (l0_1 : List Int) (l0_2 : List Int) (a0_3 : Int) (a0_4 : Int) : Option (ByteArray) := (spec_l8Name.f l0_0 l0_1 l0_2 a0_3 a0_4 (wrap64 ((l0_1.length : Int) - 1))).bind fun t339 => (some t339)
theorem spec_l8Last.calls (A0_0 : Option Addr) (c0_0 : Nat) (l0_0 : List (S53)) (A0_1 : Option Addr) (c0_1 : Nat) (l0_1 : List Int) (A0_2 : Option Addr) (c0_2 : Nat) (l0_2 : List Int) (a0_3 : Int) (a0_4 : Int) (r : ByteArray) (w : World) (hr0_0 : Kd.C k53 w A0_0 l0_0.length l0_0) (hc0_0 : l0_0.length ≤ c0_0) (hr0_1 : Kd.C (Kd.int .i64) w A0_1 l0_1.length l0_1) (hc0_1 : l0_1.length ≤ c0_1) (hr0_2 : Kd.C (Kd.int .i64) w A0_2 l0_2.length l0_2) (hc0_2 : l0_2.length ≤ c0_2) (h : spec_l8Last.f l0_0 l0_1 l0_2 a0_3 a0_4 = some r) :
  Calls Tryz.prog 84 #[.agg #[.slice A0_0 l0_0.length c0_0, .slice A0_1 l0_1.length c0_1, .slice A0_2 l0_2.length c0_2, .int .i64 a0_3, .int .i64 a0_4]] w fun e w' => e = .returned (.string r) ∧ Below w.heap.size w w' := by
 have hu31 := Tryz.underlying31
 have HR0_0 := am hr0_0
 have HC0_0 := am hc0_0
 clear hr0_0 hc0_0
 have HR0_1 := am hr0_1
 have HC0_1 := am hc0_1
 clear hr0_1 hc0_1
 have HR0_2 := am hr0_2
 have HC0_2 := am hc0_2
 clear hr0_2 hc0_2
 have HB := am (Below.refl w.heap.size w)
 have H : ((spec_l8Name.f l0_0 l0_1 l0_2 a0_3 a0_4 (wrap64 ((l0_1.length : Int) - 1))).bind fun t339 => (some t339)) = some r := h
 clear h
 replace H := bi_ H; obtain ⟨t339, A2, H⟩ := H
 obtain rfl := Option.some.inj H
 go_enter Tryz.func84, Tryz.ntmps84
 go_wp2_with (first | ((with_reducible refine gd_ 1 ?_); refine bx_ 1 (cs := #[.slice A0_0 l0_0.length c0_0, .slice A0_1 l0_1.length c0_1, .slice A0_2 l0_2.length c0_2, .int .i64 a0_3, .int .i64 a0_4]) 31 ?_; intro gb338 hg w3 hbox hb; have BK338 := am hbox; have GW338 := ge_ (w := w) hg; have GE338 := ge_ (w := w) hg; replace HB := am (below_step ab1 hb); clear hb hbox hg; obtain ⟨⟨_, _, _, _, _⟩, _, _, _, _, _⟩ := Op.cells5 BK338.out) | ((with_reducible refine gf_ 104 ?_); refine gc_ Tryz.func104 (spec_l8Name.calls _ _ l0_0 _ _ l0_1 _ _ l0_2 a0_3 a0_4 (wrap64 ((l0_1.length : Int) - 1)) t339 _ (sc_ HR0_0) HC0_0.out (sc_ HR0_1) HC0_1.out (sc_ HR0_2) HC0_2.out A2.out) ?_; rintro w5 hb; replace BK338 := bl_ BK338 hb; replace HB := am (below_step (ab2 GE338) hb); (try clear hb)))
 go_ret
 exact ⟨ab7, ab2 GE338⟩
def spec_InTable.f (l0_0 : List (S53)) (l0_1 : List Int) (l0_2 : List Int) (a0_3 : Int) (a0_4 : Int) : Option (Bool) := (spec_l8Last.f l0_0 l0_1 l0_2 a0_3 a0_4).bind fun t341 => (if t341.toList = ([116, 97, 98, 108, 101] : List UInt8) then (some true) else (if t341.toList = ([116, 98, 111, 100, 121] : List UInt8) then (some true) else (some (t341.toList == ([116, 114] : List UInt8)))))
theorem spec_InTable.calls (A0_0 : Option Addr) (c0_0 : Nat) (l0_0 : List (S53)) (A0_1 : Option Addr) (c0_1 : Nat) (l0_1 : List Int) (A0_2 : Option Addr) (c0_2 : Nat) (l0_2 : List Int) (a0_3 : Int) (a0_4 : Int) (r : Bool) (w : World) (hr0_0 : Kd.C k53 w A0_0 l0_0.length l0_0) (hc0_0 : l0_0.length ≤ c0_0) (hr0_1 : Kd.C (Kd.int .i64) w A0_1 l0_1.length l0_1) (hc0_1 : l0_1.length ≤ c0_1) (hr0_2 : Kd.C (Kd.int .i64) w A0_2 l0_2.length l0_2) (hc0_2 : l0_2.length ≤ c0_2) (h : spec_InTable.f l0_0 l0_1 l0_2 a0_3 a0_4 = some r) :
  Calls Tryz.prog 55 #[.agg #[.slice A0_0 l0_0.length c0_0, .slice A0_1 l0_1.length c0_1, .slice A0_2 l0_2.length c0_2, .int .i64 a0_3, .int .i64 a0_4]] w fun e w' => e = .returned (.bool r) ∧ Below w.heap.size w w' := by
 have hu31 := Tryz.underlying31
 have HR0_0 := am hr0_0
 have HC0_0 := am hc0_0
 clear hr0_0 hc0_0
 have HR0_1 := am hr0_1
 have HC0_1 := am hc0_1
 clear hr0_1 hc0_1
 have HR0_2 := am hr0_2
 have HC0_2 := am hc0_2
 clear hr0_2 hc0_2
 have HB := am (Below.refl w.heap.size w)
 have H : ((spec_l8Last.f l0_0 l0_1 l0_2 a0_3 a0_4).bind fun t341 => (if t341.toList = ([116, 97, 98, 108, 101] : List UInt8) then (some true) else (if t341.toList = ([116, 98, 111, 100, 121] : List UInt8) then (some true) else (some (t341.toList == ([116, 114] : List UInt8)))))) = some r := h
 clear h
 replace H := bi_ H; obtain ⟨t341, A2, H⟩ := H
 replace H := ie_ H; rcases H with ⟨c3b0, c3b1, H⟩ | ⟨c3, c3b0, c3b1, H⟩
 ·obtain rfl := Option.some.inj H
  go_enter Tryz.func55, Tryz.ntmps55
  go_wp2_with (first | ((with_reducible refine gd_ 1 ?_); refine bx_ 1 (cs := #[.slice A0_0 l0_0.length c0_0, .slice A0_1 l0_1.length c0_1, .slice A0_2 l0_2.length c0_2, .int .i64 a0_3, .int .i64 a0_4]) 31 ?_; intro gb340 hg w4 hbox hb; have BK340 := am hbox; have GW340 := ge_ (w := w) hg; have GE340 := ge_ (w := w) hg; replace HB := am (below_step ab1 hb); clear hb hbox hg; obtain ⟨⟨_, _, _, _, _⟩, _, _, _, _, _⟩ := Op.cells5 BK340.out) | ((with_reducible refine gf_ 84 ?_); refine gc_ Tryz.func84 (spec_l8Last.calls _ _ l0_0 _ _ l0_1 _ _ l0_2 a0_3 a0_4 t341 _ (sc_ HR0_0) HC0_0.out (sc_ HR0_1) HC0_1.out (sc_ HR0_2) HC0_2.out A2.out) ?_; rintro w6 hb; replace BK340 := bl_ BK340 hb; replace HB := am (below_step (ab2 GE340) hb); (try clear hb)))
  go_ret
  exact ⟨ab7, ab2 GE340⟩
 ·replace H := ie_ H; rcases H with ⟨c7b0, c7b1, H⟩ | ⟨c7, c7b0, c7b1, H⟩
  ·obtain rfl := Option.some.inj H
   go_enter Tryz.func55, Tryz.ntmps55
   go_wp2_with (first | ((with_reducible refine gd_ 1 ?_); refine bx_ 1 (cs := #[.slice A0_0 l0_0.length c0_0, .slice A0_1 l0_1.length c0_1, .slice A0_2 l0_2.length c0_2, .int .i64 a0_3, .int .i64 a0_4]) 31 ?_; intro gb340 hg w8 hbox hb; have BK340 := am hbox; have GW340 := ge_ (w := w) hg; have GE340 := ge_ (w := w) hg; replace HB := am (below_step ab1 hb); clear hb hbox hg; obtain ⟨⟨_, _, _, _, _⟩, _, _, _, _, _⟩ := Op.cells5 BK340.out) | ((with_reducible refine gf_ 84 ?_); refine gc_ Tryz.func84 (spec_l8Last.calls _ _ l0_0 _ _ l0_1 _ _ l0_2 a0_3 a0_4 t341 _ (sc_ HR0_0) HC0_0.out (sc_ HR0_1) HC0_1.out (sc_ HR0_2) HC0_2.out A2.out) ?_; rintro w10 hb; replace BK340 := bl_ BK340 hb; replace HB := am (below_step (ab2 GE340) hb); (try clear hb)))
   go_ret
   exact ⟨ab7, ab2 GE340⟩
  ·obtain rfl := Option.some.inj H
   go_enter Tryz.func55, Tryz.ntmps55
   go_wp2_with (first | ((with_reducible refine gd_ 1 ?_); refine bx_ 1 (cs := #[.slice A0_0 l0_0.length c0_0, .slice A0_1 l0_1.length c0_1, .slice A0_2 l0_2.length c0_2, .int .i64 a0_3, .int .i64 a0_4]) 31 ?_; intro gb340 hg w11 hbox hb; have BK340 := am hbox; have GW340 := ge_ (w := w) hg; have GE340 := ge_ (w := w) hg; replace HB := am (below_step ab1 hb); clear hb hbox hg; obtain ⟨⟨_, _, _, _, _⟩, _, _, _, _, _⟩ := Op.cells5 BK340.out) | ((with_reducible refine gf_ 84 ?_); refine gc_ Tryz.func84 (spec_l8Last.calls _ _ l0_0 _ _ l0_1 _ _ l0_2 a0_3 a0_4 t341 _ (sc_ HR0_0) HC0_0.out (sc_ HR0_1) HC0_1.out (sc_ HR0_2) HC0_2.out A2.out) ?_; rintro w13 hb; replace BK340 := bl_ BK340 hb; replace HB := am (below_step (ab2 GE340) hb); (try clear hb)))
   go_ret
   exact ⟨ab7, ab2 GE340⟩
def spec_l9Kid.l0 : Nat → Int → List Int → Int → Option (Int)
 | 0, _, _, _ => none
 | k + 1, x1, x5, x6 => if x6 < (wrap64 ((x5.length : Int) - 1)) then (if 0 ≤ x6 then (if x6 < (x5.length : Int) then (if (rd x5 x6) = x1 then (some x6) else (spec_l9Kid.l0 k x1 x5 (wrap64 (x6 + 1)))) else (none)) else (none)) else (some x6)
def spec_l9Kid.f (k : Nat) (l0 : List (S53)) (a1 : Int) : Option (Int) := if 0 ≤ a1 then (if a1 < (l0.length : Int) then (if 0 ≤ ((rd_T53 l0 a1).f5) then (if ((rd_T53 l0 a1).f5) < (l0.length : Int) then (spec_l9Kid.l0 k a1 ((rd_T53 l0 ((rd_T53 l0 a1).f5)).f6) 0) else (none)) else (none)) else (none)) else (none)
theorem spec_l9Kid.calls (k : Nat) (A0 : Option Addr) (c0 : Nat) (l0 : List (S53)) (a1 : Int) (r : Int) (w : World) (hr0 : Kd.C k53 w A0 l0.length l0) (hc0 : l0.length ≤ c0) (h : spec_l9Kid.f k l0 a1 = some r) :
  Calls Tryz.prog 56 #[.slice A0 l0.length c0, .int .i64 a1] w fun e w' => e = .returned (.int .i64 r) ∧ Drawn0 w w' := by
 have HR0 := am hr0
 have HC0 := am hc0
 clear hr0 hc0
 have H : (if 0 ≤ a1 then (if a1 < (l0.length : Int) then (if 0 ≤ ((rd_T53 l0 a1).f5) then (if ((rd_T53 l0 a1).f5) < (l0.length : Int) then (spec_l9Kid.l0 k a1 ((rd_T53 l0 ((rd_T53 l0 a1).f5)).f6) 0) else (none)) else (none)) else (none)) else (none)) = some r := h
 clear h
 replace H := iq_ H; obtain ⟨c3b0, H⟩ := H
 replace H := iq_ H; obtain ⟨c4b0, H⟩ := H
 replace H := iq_ H; obtain ⟨c5b0, H⟩ := H
 replace H := iq_ H; obtain ⟨c6b0, H⟩ := H
 have H' := am H
 clear H
 obtain ⟨p342, q342, ad342, A342_3, c342_3, A342_6, c342_6, rfl, hx342_0, hx342_1, hx342_2, hx342_3, hx342_4, hx342_5, hx342_6, HC342_3, HR342_3, HC342_6, HR342_6⟩ := otT53 b0_ HR0.out a1 (of_decide_eq_true ab4) (of_decide_eq_true ab4)
 obtain ⟨p343, q343, A343_3, c343_3, A343_6, c343_6, hx343_0, hx343_1, hx343_2, hx343_3, hx343_4, hx343_5, hx343_6, HC343_3, HR343_3, HC343_6, HR343_6⟩ := agT53 b0_ HR0.out ((rd_T53 l0 a1).f5) (of_decide_eq_true ab4) (of_decide_eq_true ab4)
 go_enter Tryz.func56, Tryz.ntmps56
 go_wp2
 go_loopg [6] k (fun kq v6 w' => ∃ (x6_1 : Int), v6 = .int .i64 x6_1 ∧ Aside0 (spec_l9Kid.l0 kq a1 ((rd_T53 l0 ((rd_T53 l0 a1).f5)).f6) x6_1 = some r) ∧ Aside0 (kq ≤ k) ∧ Drawn0 w w')
 case atStart => exact ⟨(0), ab6, H', ⟨Nat.le_refl _⟩, by repeat (first | exact Drawn0.refl _ | apply Drawn0.step)⟩
 case round =>
  clear H'
  (try clear p2); (try clear c3); (try clear c3b0); (try clear p3); (try clear q3); (try clear hx3); (try clear c4); (try clear c4b0); (try clear c5); (try clear c5b0); (try clear c6); (try clear c6b0); (try clear hx342_0); (try clear hx342_1); (try clear hx342_2); (try clear hx342_3); (try clear hx342_4); (try clear hx342_5); (try clear hx342_6); (try clear hx343_0); (try clear hx343_1); (try clear hx343_2); (try clear hx343_3); (try clear hx343_4); (try clear hx343_5); (try clear hx343_6); (try clear p342); (try clear p343); (try clear q342); (try clear q343)
  obtain ⟨x6_1, rfl, HA, HK1, ⟨m1, rfl⟩⟩ := hrel
  cases gk with
  | zero => exact absurd HA.out (by simp [spec_l9Kid.l0])
  | succ k1 =>
   have H := HA.out
   clear HA
   simp only [spec_l9Kid.l0] at H
   replace H := ir_ H; rcases H with ⟨c7b0, H⟩ | ⟨c7b0, H⟩
   ·replace H := iq_ H; obtain ⟨c8b0, H⟩ := H
    replace H := iq_ H; obtain ⟨c9b0, H⟩ := H
    replace H := ie_ H; rcases H with ⟨c10b0, c10b1, H⟩ | ⟨c10, c10b0, c10b1, H⟩
    ·obtain rfl := Option.some.inj H
     have p344 : 0 ≤ (x6_1 : Int) := of_decide_eq_true ab4
     have q344 : x6_1 < (((rd_T53 l0 ((rd_T53 l0 a1).f5)).f6).length : Int) := of_decide_eq_true ab4
     obtain ⟨ad344, e344, hx344_0⟩ := Kd.at_int HR343_6.out x6_1 p344 q344
     cases e344
     replace p344 := eq_true p344
     replace q344 := eq_true q344
     go_wp2
     go_ret
     exact ⟨ab6, by repeat (first | exact Drawn0.refl _ | apply Drawn0.step)⟩
    ·have H' := am H
     clear H
     have p344 : 0 ≤ (x6_1 : Int) := of_decide_eq_true ab4
     have q344 : x6_1 < (((rd_T53 l0 ((rd_T53 l0 a1).f5)).f6).length : Int) := of_decide_eq_true ab4
     obtain ⟨ad344, e344, hx344_0⟩ := Kd.at_int HR343_6.out x6_1 p344 q344
     cases e344
     replace p344 := eq_true p344
     replace q344 := eq_true q344
     go_wp2
     go_roundg k1
     case measure => have := HK1.out; omega
     case rel => exact ⟨(wrap64 (x6_1 + 1)), ab6, H', ⟨by have := HK1.out; omega⟩, by repeat (first | exact Drawn0.refl _ | apply Drawn0.step)⟩
   ·obtain rfl := Option.some.inj H
    go_wp2
    go_ret
    exact ⟨ab6, by repeat (first | exact Drawn0.refl _ | apply Drawn0.step)⟩
def spec_l9Place.j0 : Nat → Int → Bool → List (S53) → List Int → List Int → Int → Int → Option (Int × Int)
 | 0, _, _, _, _, _, _, _ => none
 | k + 1, x4, x13, x346000, x346001, x346002, x346003, x346004 => if x13 = true then (if 0 ≤ x4 then (if x4 < (x346001.length : Int) then (if 0 ≤ (rd x346001 x4) then (if (rd x346001 x4) < (x346000.length : Int) then ((spec_l9Kid.f k x346000 (rd x346001 x4)).bind fun t350 => (some ((rd_T53 x346000 (rd x346001 x4)).f5, t350))) else (none)) else (none)) else (none)) else (none)) else (if (x346001.length : Int) = 0 then (some (0, (-1))) else (if 0 ≤ (wrap64 ((x346001.length : Int) - 1)) then (if (wrap64 ((x346001.length : Int) - 1)) < (x346001.length : Int) then (some (rd x346001 (wrap64 ((x346001.length : Int) - 1)), (-1))) else (none)) else (none)))
def spec_l9Place.f (k : Nat) (l0_0 : List (S53)) (l0_1 : List Int) (l0_2 : List Int) (a0_3 : Int) (a0_4 : Int) : Option (Int × Int) := (spec_TableOpen.f k l0_0 l0_1 l0_2 a0_3 a0_4).bind fun t346 => ((spec_InTable.f l0_0 l0_1 l0_2 a0_3 a0_4).bind fun t347 => (if t347 = true then (spec_l9Place.j0 k t346 (decide (t346 ≥ 0)) l0_0 l0_1 l0_2 a0_3 a0_4) else (spec_l9Place.j0 k t346 false l0_0 l0_1 l0_2 a0_3 a0_4)))
theorem spec_l9Place.calls (k : Nat) (A0_0 : Option Addr) (c0_0 : Nat) (l0_0 : List (S53)) (A0_1 : Option Addr) (c0_1 : Nat) (l0_1 : List Int) (A0_2 : Option Addr) (c0_2 : Nat) (l0_2 : List Int) (a0_3 : Int) (a0_4 : Int) (r1 : Int) (r2 : Int) (w : World) (hr0_0 : Kd.C k53 w A0_0 l0_0.length l0_0) (hc0_0 : l0_0.length ≤ c0_0) (hr0_1 : Kd.C (Kd.int .i64) w A0_1 l0_1.length l0_1) (hc0_1 : l0_1.length ≤ c0_1) (hr0_2 : Kd.C (Kd.int .i64) w A0_2 l0_2.length l0_2) (hc0_2 : l0_2.length ≤ c0_2) (h : spec_l9Place.f k l0_0 l0_1 l0_2 a0_3 a0_4 = some (r1, r2)) :
  Calls Tryz.prog 27 #[.agg #[.slice A0_0 l0_0.length c0_0, .slice A0_1 l0_1.length c0_1, .slice A0_2 l0_2.length c0_2, .int .i64 a0_3, .int .i64 a0_4]] w fun e w' => e = .returned (.tuple #[.int .i64 r1, .int .i64 r2]) ∧ Below w.heap.size w w' := by
 have hu31 := Tryz.underlying31
 have HR0_0 := am hr0_0
 have HC0_0 := am hc0_0
 clear hr0_0 hc0_0
 have HR0_1 := am hr0_1
 have HC0_1 := am hc0_1
 clear hr0_1 hc0_1
 have HR0_2 := am hr0_2
 have HC0_2 := am hc0_2
 clear hr0_2 hc0_2
 have HB := am (Below.refl w.heap.size w)
 have H : ((spec_TableOpen.f k l0_0 l0_1 l0_2 a0_3 a0_4).bind fun t346 => ((spec_InTable.f l0_0 l0_1 l0_2 a0_3 a0_4).bind fun t347 => (if t347 = true then (spec_l9Place.j0 k t346 (decide (t346 ≥ 0)) l0_0 l0_1 l0_2 a0_3 a0_4) else (spec_l9Place.j0 k t346 false l0_0 l0_1 l0_2 a0_3 a0_4)))) = some (r1, r2) := h
 clear h
 replace H := bi_ H; obtain ⟨t346, A2, H⟩ := H
 have HC3 := am H
 clear H
 go_enter Tryz.func27, Tryz.ntmps27
 go_upto_region 2 with (first | ((with_reducible refine gd_ 1 ?_); refine bx_ 1 (cs := #[.slice A0_0 l0_0.length c0_0, .slice A0_1 l0_1.length c0_1, .slice A0_2 l0_2.length c0_2, .int .i64 a0_3, .int .i64 a0_4]) 31 ?_; intro gb345 hg w4 hbox hb; have BK345 := am hbox; have GW345 := ge_ (w := w) hg; have GE345 := ge_ (w := w) hg; replace HB := am (below_step ab1 hb); clear hb hbox hg; obtain ⟨⟨_, _, _, _, _⟩, _, _, _, _, _⟩ := Op.cells5 BK345.out) | (go_at_call 54; (with_reducible refine (spec_TableOpen.calls k _ _ l0_0 _ _ l0_1 _ _ l0_2 a0_3 a0_4 t346 _ (sc_ HR0_0) HC0_0.out (sc_ HR0_1) HC0_1.out (sc_ HR0_2) HC0_2.out A2.out).mono ?_); rintro e w6 ⟨rfl, hb⟩; replace BK345 := bl_ BK345 hb; replace HB := am (below_step (ab2 GE345) hb); (try clear hb)))
 repeat (go_quiet (first | ((with_reducible refine gd_ 1 ?_); refine bx_ 1 (cs := #[.slice A0_0 l0_0.length c0_0, .slice A0_1 l0_1.length c0_1, .slice A0_2 l0_2.length c0_2, .int .i64 a0_3, .int .i64 a0_4]) 31 ?_; intro gb345 hg w4 hbox hb; have BK345 := am hbox; have GW345 := ge_ (w := w) hg; have GE345 := ge_ (w := w) hg; replace HB := am (below_step ab1 hb); clear hb hbox hg; obtain ⟨⟨_, _, _, _, _⟩, _, _, _, _, _⟩ := Op.cells5 BK345.out) | (go_at_call 54; (with_reducible refine (spec_TableOpen.calls k _ _ l0_0 _ _ l0_1 _ _ l0_2 a0_3 a0_4 t346 _ (sc_ HR0_0) HC0_0.out (sc_ HR0_1) HC0_1.out (sc_ HR0_2) HC0_2.out A2.out).mono ?_); rintro e w6 ⟨rfl, hb⟩; replace BK345 := bl_ BK345 hb; replace HB := am (below_step (ab2 GE345) hb); (try clear hb))); go_upto_region 2 with (first | ((with_reducible refine gd_ 1 ?_); refine bx_ 1 (cs := #[.slice A0_0 l0_0.length c0_0, .slice A0_1 l0_1.length c0_1, .slice A0_2 l0_2.length c0_2, .int .i64 a0_3, .int .i64 a0_4]) 31 ?_; intro gb345 hg w4 hbox hb; have BK345 := am hbox; have GW345 := ge_ (w := w) hg; have GE345 := ge_ (w := w) hg; replace HB := am (below_step ab1 hb); clear hb hbox hg; obtain ⟨⟨_, _, _, _, _⟩, _, _, _, _, _⟩ := Op.cells5 BK345.out) | (go_at_call 54; (with_reducible refine (spec_TableOpen.calls k _ _ l0_0 _ _ l0_1 _ _ l0_2 a0_3 a0_4 t346 _ (sc_ HR0_0) HC0_0.out (sc_ HR0_1) HC0_1.out (sc_ HR0_2) HC0_2.out A2.out).mono ?_); rintro e w6 ⟨rfl, hb⟩; replace BK345 := bl_ BK345 hb; replace HB := am (below_step (ab2 GE345) hb); (try clear hb))))
 (try simp only [Act.put, List.setIfInBounds_toArray, List.set_cons_zero, List.set_cons_succ])
 go_cut [13] (fun v13 wc => ∃ (kq : Nat) (x13_2 : Bool), v13 = .bool x13_2 ∧ Aside0 (spec_l9Place.j0 kq t346 x13_2 l0_0 l0_1 l0_2 a0_3 a0_4 = some (r1, r2)) ∧ Aside0 (kq ≤ k) ∧ Aside0 (wc.heap[gb345]? = some (.cells #[(.slice A0_0 l0_0.length c0_0), (.slice A0_1 l0_1.length c0_1), (.slice A0_2 l0_2.length c0_2), .int .i64 a0_3, .int .i64 a0_4] 31 (0, 0))) ∧ Aside0 (Below w.heap.size w wc))
 case first =>
  have H := HC3.out
  clear HC3
  replace H := bi_ H; obtain ⟨t347, A7, H⟩ := H
  replace H := ib_ H; rcases H with ⟨rfl, H⟩ | ⟨rfl, H⟩
  ·have H' := am H
   clear H
   obtain ⟨⟨_, _, _, _, _⟩, _, _, _, _, _⟩ := Op.cells5 BK345.out
   go_wp2_with (first | (go_at_call 55; (with_reducible refine (spec_InTable.calls _ _ l0_0 _ _ l0_1 _ _ l0_2 a0_3 a0_4 true _ (sc_ HR0_0) HC0_0.out (sc_ HR0_1) HC0_1.out (sc_ HR0_2) HC0_2.out A7.out).mono ?_); rintro e w10 ⟨rfl, hb⟩; replace BK345 := bl_ BK345 hb; replace HB := am (below_step (ab2 GE345) hb); (try clear hb)))
   repeat (go_quiet (first | (go_at_call 55; (with_reducible refine (spec_InTable.calls _ _ l0_0 _ _ l0_1 _ _ l0_2 a0_3 a0_4 true _ (sc_ HR0_0) HC0_0.out (sc_ HR0_1) HC0_1.out (sc_ HR0_2) HC0_2.out A7.out).mono ?_); rintro e w10 ⟨rfl, hb⟩; replace BK345 := bl_ BK345 hb; replace HB := am (below_step (ab2 GE345) hb); (try clear hb))); try go_wp2_with (first | (go_at_call 55; (with_reducible refine (spec_InTable.calls _ _ l0_0 _ _ l0_1 _ _ l0_2 a0_3 a0_4 true _ (sc_ HR0_0) HC0_0.out (sc_ HR0_1) HC0_1.out (sc_ HR0_2) HC0_2.out A7.out).mono ?_); rintro e w10 ⟨rfl, hb⟩; replace BK345 := bl_ BK345 hb; replace HB := am (below_step (ab2 GE345) hb); (try clear hb))))
   first | go_meet | (subst hji22; go_meet)
   case rel => exact ⟨_, (decide (t346 ≥ 0)), ab6, H', ⟨by first | omega | exact Nat.le_refl _⟩, ⟨ab3 BK345⟩, ⟨ab2 GE345⟩⟩
  ·have H' := am H
   clear H
   obtain ⟨⟨_, _, _, _, _⟩, _, _, _, _, _⟩ := Op.cells5 BK345.out
   go_wp2_with (first | (go_at_call 55; (with_reducible refine (spec_InTable.calls _ _ l0_0 _ _ l0_1 _ _ l0_2 a0_3 a0_4 false _ (sc_ HR0_0) HC0_0.out (sc_ HR0_1) HC0_1.out (sc_ HR0_2) HC0_2.out A7.out).mono ?_); rintro e w12 ⟨rfl, hb⟩; replace BK345 := bl_ BK345 hb; replace HB := am (below_step (ab2 GE345) hb); (try clear hb)))
   repeat (go_quiet (first | (go_at_call 55; (with_reducible refine (spec_InTable.calls _ _ l0_0 _ _ l0_1 _ _ l0_2 a0_3 a0_4 false _ (sc_ HR0_0) HC0_0.out (sc_ HR0_1) HC0_1.out (sc_ HR0_2) HC0_2.out A7.out).mono ?_); rintro e w12 ⟨rfl, hb⟩; replace BK345 := bl_ BK345 hb; replace HB := am (below_step (ab2 GE345) hb); (try clear hb))); try go_wp2_with (first | (go_at_call 55; (with_reducible refine (spec_InTable.calls _ _ l0_0 _ _ l0_1 _ _ l0_2 a0_3 a0_4 false _ (sc_ HR0_0) HC0_0.out (sc_ HR0_1) HC0_1.out (sc_ HR0_2) HC0_2.out A7.out).mono ?_); rintro e w12 ⟨rfl, hb⟩; replace BK345 := bl_ BK345 hb; replace HB := am (below_step (ab2 GE345) hb); (try clear hb))))
   first | go_meet | (subst hji22; go_meet)
   case rel => exact ⟨_, (false), ab6, H', ⟨by first | omega | exact Nat.le_refl _⟩, ⟨ab3 BK345⟩, ⟨ab2 GE345⟩⟩
 case rest =>
  clear HC3
  (try clear c2); (try clear p2); (try clear c8); (try clear hcz11_0); (try clear hcz11_1); (try clear hcz11_2); (try clear hcz11_3); (try clear hcz11_4); (try clear hcz5_0); (try clear hcz5_1); (try clear hcz5_2); (try clear hcz5_3); (try clear hcz5_4); (try clear hcz9_0); (try clear hcz9_1); (try clear hcz9_2); (try clear hcz9_3); (try clear hcz9_4); (try clear hfz11_0); (try clear hfz11_1); (try clear hfz11_2); (try clear hfz11_3); (try clear hfz11_4); (try clear hfz5_0); (try clear hfz5_1); (try clear hfz5_2); (try clear hfz5_3); (try clear hfz5_4); (try clear hfz9_0); (try clear hfz9_1); (try clear hfz9_2); (try clear hfz9_3); (try clear hfz9_4)
  obtain ⟨kq, x13_2, rfl, HA, HJ2, BK345, HB⟩ := hcut
  cases kq with
  | zero => exact absurd HA.out (by simp [spec_l9Place.j0])
  | succ kj2 =>
   have H := HA.out
   clear HA
   simp only [spec_l9Place.j0] at H
   replace H := ib_ H; rcases H with ⟨rfl, H⟩ | ⟨rfl, H⟩
   ·replace H := iq_ H; obtain ⟨c14b0, H⟩ := H
    replace H := iq_ H; obtain ⟨c15b0, H⟩ := H
    replace H := iq_ H; obtain ⟨c16b0, H⟩ := H
    replace H := iq_ H; obtain ⟨c17b0, H⟩ := H
    replace H := bi_ H; obtain ⟨t350, A18, H⟩ := H
    simp only [Option.some.injEq, Prod.mk.injEq] at H
    obtain ⟨rfl, rfl⟩ := H
    obtain ⟨⟨_, _, _, _, _⟩, _, _, _, _, _⟩ := Op.cells5 BK345.out
    have p348 : 0 ≤ (t346 : Int) := of_decide_eq_true ab4
    have q348 : t346 < (l0_1.length : Int) := of_decide_eq_true ab4
    obtain ⟨ad348, e348, hx348_0⟩ := Kd.at_int HR0_1.out t346 p348 q348
    cases e348
    replace hx348_0 := pc_ HB hx348_0
    replace p348 := eq_true p348
    replace q348 := eq_true q348
    obtain ⟨p349, q349, ad349, A349_3, c349_3, A349_6, c349_6, rfl, hx349_0, hx349_1, hx349_2, hx349_3, hx349_4, hx349_5, hx349_6, HC349_3, HR349_3, HC349_6, HR349_6⟩ := otT53 HB HR0_0.out (rd l0_1 t346) (of_decide_eq_true ab4) (of_decide_eq_true ab4)
    go_wp2_with (first | (go_at_call 56; (with_reducible refine (spec_l9Kid.calls kj2 _ _ l0_0 (rd l0_1 t346) t350 _ (sc_ HR0_0) HC0_0.out A18.out).mono ?_); rintro e w' ⟨rfl, ⟨nd, rfl⟩⟩; (try first | exact ⟨rfl, _, World.drewN_drewN _ _ _⟩ | exact ⟨rfl, _, Eq.trans (World.drewN_drewN _ _ _) (congrArg (World.drewN _) (Nat.add_assoc _ _ _))⟩)))
    repeat (go_quiet (first | (go_at_call 56; (with_reducible refine (spec_l9Kid.calls kj2 _ _ l0_0 (rd l0_1 t346) t350 _ (sc_ HR0_0) HC0_0.out A18.out).mono ?_); rintro e w' ⟨rfl, ⟨nd, rfl⟩⟩; (try first | exact ⟨rfl, _, World.drewN_drewN _ _ _⟩ | exact ⟨rfl, _, Eq.trans (World.drewN_drewN _ _ _) (congrArg (World.drewN _) (Nat.add_assoc _ _ _))⟩))); try go_wp2_with (first | (go_at_call 56; (with_reducible refine (spec_l9Kid.calls kj2 _ _ l0_0 (rd l0_1 t346) t350 _ (sc_ HR0_0) HC0_0.out A18.out).mono ?_); rintro e w' ⟨rfl, ⟨nd, rfl⟩⟩; (try first | exact ⟨rfl, _, World.drewN_drewN _ _ _⟩ | exact ⟨rfl, _, Eq.trans (World.drewN_drewN _ _ _) (congrArg (World.drewN _) (Nat.add_assoc _ _ _))⟩))))
    go_ret2
    exact ⟨ab7, ab2 GE345⟩
   ·replace H := ie_ H; rcases H with ⟨c20b0, c20b1, H⟩ | ⟨c20, c20b0, c20b1, H⟩
    ·simp only [Option.some.injEq, Prod.mk.injEq] at H
     obtain ⟨rfl, rfl⟩ := H
     obtain ⟨⟨_, _, _, _, _⟩, _, _, _, _, _⟩ := Op.cells5 BK345.out
     go_wp2
     repeat (go_quiet (fail); try go_wp2)
     go_ret2
     exact ⟨ab7, ab2 GE345⟩
    ·have c20b2 : ¬ (l0_1 = []) := fun h_ => c20 (by rw [h_]; rfl)
     obtain ⟨ji22, hji22⟩ : ∃ j_ : Int, (wrap64 ((l0_1.length : Int) - 1)) = j_ := ⟨_, rfl⟩
     replace H : (if 0 ≤ (ji22) then (if (ji22) < (l0_1.length : Int) then (some (rd l0_1 (ji22), (-1))) else (none)) else (none)) = some (r1, r2) := by first | (rw [hji22] at H; exact H) | (simp only [hji22] at H ⊢; exact H)
     have hji22w : (IntKind.i64.wrap ((l0_1.length : Int) - 1)) = ji22 := (i64_w _).trans hji22
     replace H := iq_ H; obtain ⟨c23b0, H⟩ := H
     replace H := iq_ H; obtain ⟨c24b0, H⟩ := H
     simp only [Option.some.injEq, Prod.mk.injEq] at H
     obtain ⟨rfl, rfl⟩ := H
     obtain ⟨⟨_, _, _, _, _⟩, _, _, _, _, _⟩ := Op.cells5 BK345.out
     have p351 : 0 ≤ ((ji22) : Int) := of_decide_eq_true ab4
     have q351 : (ji22) < (l0_1.length : Int) := of_decide_eq_true ab4
     obtain ⟨ad351, e351, hx351_0⟩ := Kd.at_int HR0_1.out (ji22) p351 q351
     cases e351
     replace hx351_0 := pc_ HB hx351_0
     replace p351 := eq_true p351
     replace q351 := eq_true q351
     go_wp2
     repeat (go_quiet (fail); try go_wp2)
     go_ret2
     exact ⟨by first | rfl | (simp [errW_none, errW_some] <;> rfl) | (simp only [← hji22]; first | rfl | (simp [errW_none, errW_some] <;> rfl)) | (simp [*, errW_none, errW_some] <;> rfl), ab2 GE345⟩
end Go.Proofs.YtekkalnafngfeaaGreat.P
