-- WRITTEN BY this session's own programs
import Derived.Test.YtekkalnafngfeaaGreatPt27
import Derived.Test.YtekkalnafngfeaaGreatPt6
namespace Go.Proofs.YtekkalnafngfeaaGreat.P
open Go.RowKit Go.Proofs.YtekkalnafngfeaaGreatW.PrintWords Go.Proofs.YtekkalnafngfeaaGreatW.PrintLast Go.Proofs.YtekkalnafngfeaaGreatW.PrintMore
set_option linter.unusedVariables false
set_option linter.unusedSimpArgs false
set_option maxHeartbeats 8000000
set_option maxRecDepth 100000
attribute [local go_sem] max2_int min2_int max_two min_two max_three min_three max_four min_four
def spec_l8Copy.f (k : Nat) (l0_0 : List (S53)) (l0_1 : List Int) (l0_2 : List Int) (a0_3 : Int) (a0_4 : Int) : Option ((List (S53)) × List Int × List Int × Int × Int) := (spec_l6Copy.f k l0_0).bind fun t215 => ((some (([] : List Int) : List Int)).bind fun y218 => (if y218.length + l0_1.length < 17592186044416 then ((some (([] : List Int) : List Int)).bind fun y224 => (if y224.length + l0_2.length < 17592186044416 then (some (t215, (y218 ++ l0_1), (y224 ++ l0_2), a0_3, a0_4)) else (none))) else (none)))
def spec_l8Copy.T1 : Bool × List (List Nat × List Nat) := (true, [([], []), ([0], [0]), ([1], [1]), ([], []), ([], []), ([4], [4]), ([3, 5, 2], [3, 5]), ([], []), ([], []), ([8], [8]), ([7, 9, 6], [7, 9]), ([], []), ([11], [11]), ([], []), ([13], [13]), ([2, 6, 10, 12, 14], [2, 6, 10, 12, 14]), ([15, 10, 0, 1, 2, 3, 4, 5, 6, 7, 8, 9, 10, 11, 12, 13, 14, 15], [15])])
def spec_l8Copy.B1 : List Nat := [0, 1, 3, 0, 0, 16, 63, 0, 0, 256, 1023, 0, 2048, 0, 8192, 32767, 65535]
theorem spec_l8Copy.tab1 : rtab .any (opsOf Tryz.f26 1) = spec_l8Copy.T1 := by kernel_rfl
theorem spec_l8Copy.bits1 : waitsOk spec_l8Copy.T1.2 spec_l8Copy.B1 = true := by kernel_rfl
theorem spec_l8Copy.calls (k : Nat) (A0_0 : Option Addr) (c0_0 : Nat) (l0_0 : List (S53)) (A0_1 : Option Addr) (c0_1 : Nat) (l0_1 : List Int) (A0_2 : Option Addr) (c0_2 : Nat) (l0_2 : List Int) (a0_3 : Int) (a0_4 : Int) (r1 : List (S53)) (r2 : List Int) (r3 : List Int) (r4 : Int) (r5 : Int) (w : World) (hr0_0 : Kd.C k53 w A0_0 l0_0.length l0_0) (hc0_0 : l0_0.length ≤ c0_0) (hr0_1 : Kd.C (Kd.int .i64) w A0_1 l0_1.length l0_1) (hc0_1 : l0_1.length ≤ c0_1) (hr0_2 : Kd.C (Kd.int .i64) w A0_2 l0_2.length l0_2) (hc0_2 : l0_2.length ≤ c0_2) (h : spec_l8Copy.f k l0_0 l0_1 l0_2 a0_3 a0_4 = some (r1, r2, r3, r4, r5)) :
  Calls Tryz.prog 26 #[.agg #[.slice A0_0 l0_0.length c0_0, .slice A0_1 l0_1.length c0_1, .slice A0_2 l0_2.length c0_2, .int .i64 a0_3, .int .i64 a0_4]] w fun e w' => ∃ v0_ v1_ v2_ : Value, e = .returned (.agg #[v0_, v1_, v2_, .int .i64 r4, .int .i64 r5]) ∧ Kd.S k53 53 w' w.heap.size (fun k_ => some k_ ≠ (v1_ : Value).ownBlock ∧ some k_ ≠ (v2_ : Value).ownBlock) v0_ r1 ∧ Kd.R (Kd.int .i64) 3 w' w.heap.size (fun k_ => some k_ ≠ (v2_ : Value).ownBlock) v1_ r2 ∧ Kd.R (Kd.int .i64) 3 w' w.heap.size (fun k_ => some k_ ≠ (v1_ : Value).ownBlock) v2_ r3 ∧ Below w.heap.size w w' := by
 have hu31 := Tryz.underlying31
 have HR0_0 := am hr0_0
 have HC0_0 := am hc0_0
 clear hr0_0 hc0_0
 have HR0_1 := am hr0_1
 have HC0_1 := am hc0_1
 clear hr0_1 hc0_1
 have HR0_2 := am hr0_2
 have HC0_2 := am hc0_2
 clear hr0_2 hc0_2
 have HB := am (Below.refl w.heap.size w)
 have H : ((spec_l6Copy.f k l0_0).bind fun t215 => ((some (([] : List Int) : List Int)).bind fun y218 => (if y218.length + l0_1.length < 17592186044416 then ((some (([] : List Int) : List Int)).bind fun y224 => (if y224.length + l0_2.length < 17592186044416 then (some (t215, (y218 ++ l0_1), (y224 ++ l0_2), a0_3, a0_4)) else (none))) else (none)))) = some (r1, r2, r3, r4, r5) := h
 clear h
 replace H := bi_ H; obtain ⟨t215, A2, H⟩ := H
 obtain ⟨y218, hy218⟩ : ∃ y_ : List Int, y_ = (([] : List Int)) := ⟨_, rfl⟩
 replace H : (if y218.length + l0_1.length < 17592186044416 then ((some (([] : List Int) : List Int)).bind fun y224 => (if y224.length + l0_2.length < 17592186044416 then (some (t215, (y218 ++ l0_1), (y224 ++ l0_2), a0_3, a0_4)) else (none))) else (none)) = some (r1, r2, r3, r4, r5) := by first | (rw [hy218]; with_reducible exact H) | (have H2_ := (Option.bind_some _ _).symm.trans H; rw [hy218]; with_reducible exact H2_) | (have H2_ := (Option.bind_some _ _).symm.trans H; with_reducible exact H2_) | with_reducible exact H | (rw [hy218]; exact H) | exact H
 have Ny218 := am hy218
 clear hy218
 by_cases c3 : y218.length + l0_1.length < 17592186044416
 case neg => rw [if_neg c3] at H; exact absurd H (by simp)
 rw [if_pos c3] at H
 have LMc3 := am c3
 clear c3
 obtain ⟨y221, hy221⟩ : ∃ y_ : List Int, y_ = (y218 ++ l0_1) := ⟨_, rfl⟩
 replace H : ((some (([] : List Int) : List Int)).bind fun y224 => (if y224.length + l0_2.length < 17592186044416 then (some (t215, y221, (y224 ++ l0_2), a0_3, a0_4)) else (none))) = some (r1, r2, r3, r4, r5) := by first | (rw [hy221]; with_reducible exact H) | (have H2_ := (Option.bind_some _ _).symm.trans H; rw [hy221]; with_reducible exact H2_) | (have H2_ := (Option.bind_some _ _).symm.trans H; with_reducible exact H2_) | with_reducible exact H | (rw [hy221]; exact H) | exact H
 have Ny221 := am hy221
 clear hy221
 obtain ⟨y224, hy224⟩ : ∃ y_ : List Int, y_ = (([] : List Int)) := ⟨_, rfl⟩
 replace H : (if y224.length + l0_2.length < 17592186044416 then (some (t215, y221, (y224 ++ l0_2), a0_3, a0_4)) else (none)) = some (r1, r2, r3, r4, r5) := by first | (rw [hy224]; with_reducible exact H) | (have H2_ := (Option.bind_some _ _).symm.trans H; rw [hy224]; with_reducible exact H2_) | (have H2_ := (Option.bind_some _ _).symm.trans H; with_reducible exact H2_) | with_reducible exact H | (rw [hy224]; exact H) | exact H
 have Ny224 := am hy224
 clear hy224
 by_cases c4 : y224.length + l0_2.length < 17592186044416
 case neg => rw [if_neg c4] at H; exact absurd H (by simp)
 rw [if_pos c4] at H
 have LMc4 := am c4
 clear c4
 obtain ⟨y227, hy227⟩ : ∃ y_ : List Int, y_ = (y224 ++ l0_2) := ⟨_, rfl⟩
 replace H : (some (t215, y221, y227, a0_3, a0_4)) = some (r1, r2, r3, r4, r5) := by first | (rw [hy227]; with_reducible exact H) | (have H2_ := (Option.bind_some _ _).symm.trans H; rw [hy227]; with_reducible exact H2_) | (have H2_ := (Option.bind_some _ _).symm.trans H; with_reducible exact H2_) | with_reducible exact H | (rw [hy227]; exact H) | exact H
 have Ny227 := am hy227
 clear hy227
 simp only [Option.some.injEq, Prod.mk.injEq] at H
 obtain ⟨rfl, rfl, rfl, rfl, rfl⟩ := H
 go_enter Tryz.func26, Tryz.ntmps26
 try go_wp2_with (first | ((with_reducible refine gd_ 1 ?_); refine bx_ 1 (cs := #[.slice A0_0 l0_0.length c0_0, .slice A0_1 l0_1.length c0_1, .slice A0_2 l0_2.length c0_2, .int .i64 a0_3, .int .i64 a0_4]) 31 ?_; intro gb213 hg w5 hbox hb; have BK213 := am hbox; have GW213 := ge_ (w := w) hg; have GE213 := ge_ (w := w) hg; replace HB := am (below_step ab1 hb); clear hb hbox hg) | ((with_reducible refine gd_ 2 ?_); refine bx_ 2 (cs := #[.slice none 0 0, .slice none 0 0, .slice none 0 0, .int .i64 0, .int .i64 0]) 31 ?_; intro gb214 hg w6 hbox hb; have BK214 := am hbox; have GW214 := gE_ (w := w) GE213 hg; have GE214 := gE_ (w := w) GE213 hg; replace HB := am (below_step (ab2 GE213) hb); have NB213_214 := nl_ BK213 hg; have NB214_213 := ng_ BK213 hg; replace BK213 := bl_ BK213 hb; clear hb hbox hg))
 replace BK213 := am (blk_drew BK213.out)
 replace BK214 := am (blk_drew BK214.out)
 replace HB := am (below_drew1 HB.out)
 refine start_ (n := 17) (S := fun w' => w'.cell? ⟨gb213, 0, none⟩ = some (.slice A0_0 l0_0.length c0_0) ∧ w'.cell? ⟨gb213, 1, none⟩ = some (.slice A0_1 l0_1.length c0_1) ∧ w'.cell? ⟨gb213, 2, none⟩ = some (.slice A0_2 l0_2.length c0_2) ∧ w'.cell? ⟨gb213, 3, none⟩ = some (.int .i64 a0_3) ∧ w'.cell? ⟨gb213, 4, none⟩ = some (.int .i64 a0_4)) (ds := []) #[false, false, false, false, false, false, false, false, false, false, false, false, false, false, false, false, false] (by kernel_rfl) rfl rfl ⟨(blk_cell BK213.out 0).trans rfl, (blk_cell BK213.out 1).trans rfl, (blk_cell BK213.out 2).trans rfl, (blk_cell BK213.out 3).trans rfl, (blk_cell BK213.out 4).trans rfl⟩ (fun hHeld => ?_); refine with_tabW spec_l8Copy.tab1 spec_l8Copy.bits1 (fun HT_ HW_ => ?_)
 generalize w6.drew = w7 at BK213 BK214 HB hHeld ⊢
 refine pa_ 0 3 HT_ ?_
 refine pa_ 4 7 HT_ ?_
 refine pa_ 8 11 HT_ ?_
 refine pa_ 11 14 HT_ ?_
 refine pa_ 13 16 HT_ ?_
 refine tk_ 1 4 HT_ HW_ hHeld ?_
 refine tk_ 5 8 HT_ HW_ hHeld ?_
 refine tk_ 9 12 HT_ HW_ hHeld ?_
 refine tk_ 12 15 HT_ HW_ hHeld ?_
 refine tk_ 14 17 HT_ HW_ hHeld ?_
 refine join_ (σ := Value × Value × Value × Value) 3 #[true, true, true, true, true, true, true, true, true, true, false, true, true, true, true, false, false] (fun s_ => [(5, s_.1), (6, s_.2.1), (9, s_.2.2.1), (10, s_.2.2.2)]) (fun s_ w' => (w'.cell? ⟨gb213, 0, none⟩ = some (.slice A0_0 l0_0.length c0_0) ∧ w'.cell? ⟨gb213, 1, none⟩ = some (.slice A0_1 l0_1.length c0_1) ∧ w'.cell? ⟨gb213, 2, none⟩ = some (.slice A0_2 l0_2.length c0_2) ∧ w'.cell? ⟨gb213, 3, none⟩ = some (.int .i64 a0_3) ∧ w'.cell? ⟨gb213, 4, none⟩ = some (.int .i64 a0_4)) ∧ (Kd.S k53 53 w' w.heap.size (fun k_ => some k_ ≠ (s_.2.2.1 : Value).ownBlock ∧ some k_ ≠ (s_.2.2.2 : Value).ownBlock) s_.1 t215) ∧ (Kd.R (Kd.int .i64) 3 w' w.heap.size (fun k_ => some k_ ≠ (s_.2.2.2 : Value).ownBlock) s_.2.2.1 y221) ∧ (Kd.R (Kd.int .i64) 3 w' w.heap.size (fun k_ => some k_ ≠ (s_.2.2.1 : Value).ownBlock) s_.2.2.2 y224) ∧ (w'.heap[gb213]? = some (.cells #[.slice A0_0 l0_0.length c0_0, .slice A0_1 l0_1.length c0_1, .slice A0_2 l0_2.length c0_2, .int .i64 a0_3, .int .i64 a0_4] 31 (0, 0))) ∧ (w'.heap[gb214]? = some (.cells #[.slice none 0 0, .slice none 0 0, .slice none 0 0, .int .i64 0, .int .i64 0] 31 (0, 0))) ∧ (Below w.heap.size w w')) ?_ ?_
 rotate_left
 ·intro hJ2_3_6_7
  refine join_ (σ := Value × Value × Value) 4 #[true, true, true, true, true, true, true, false, true, true, false, true, true, true, true, false, false] (fun s_ => [(5, s_.1), (6, s_.2.1), (9, s_.2.2)]) (fun s_ w' => (w'.cell? ⟨gb213, 0, none⟩ = some (.slice A0_0 l0_0.length c0_0) ∧ w'.cell? ⟨gb213, 1, none⟩ = some (.slice A0_1 l0_1.length c0_1) ∧ w'.cell? ⟨gb213, 2, none⟩ = some (.slice A0_2 l0_2.length c0_2) ∧ w'.cell? ⟨gb213, 3, none⟩ = some (.int .i64 a0_3) ∧ w'.cell? ⟨gb213, 4, none⟩ = some (.int .i64 a0_4)) ∧ (Kd.S k53 53 w' w.heap.size (fun k_ => some k_ ≠ (s_.2.2 : Value).ownBlock) s_.1 t215) ∧ (Kd.R (Kd.int .i64) 3 w' w.heap.size (fun _ => True) s_.2.2 y221) ∧ (w'.heap[gb213]? = some (.cells #[.slice A0_0 l0_0.length c0_0, .slice A0_1 l0_1.length c0_1, .slice A0_2 l0_2.length c0_2, .int .i64 a0_3, .int .i64 a0_4] 31 (0, 0))) ∧ (w'.heap[gb214]? = some (.cells #[.slice none 0 0, .slice none 0 0, .slice none 0 0, .int .i64 0, .int .i64 0] 31 (0, 0))) ∧ (Below w.heap.size w w')) ?_ ?_
  rotate_left
  ·intro hJ2_3_6
   refine join_ (σ := Value × Value × Value) 4 #[true, true, true, true, true, true, false, true, true, true, false, true, true, true, true, false, false] (fun s_ => [(5, s_.1), (6, s_.2.1), (10, s_.2.2)]) (fun s_ w' => (w'.cell? ⟨gb213, 0, none⟩ = some (.slice A0_0 l0_0.length c0_0) ∧ w'.cell? ⟨gb213, 1, none⟩ = some (.slice A0_1 l0_1.length c0_1) ∧ w'.cell? ⟨gb213, 2, none⟩ = some (.slice A0_2 l0_2.length c0_2) ∧ w'.cell? ⟨gb213, 3, none⟩ = some (.int .i64 a0_3) ∧ w'.cell? ⟨gb213, 4, none⟩ = some (.int .i64 a0_4)) ∧ (Kd.S k53 53 w' w.heap.size (fun k_ => some k_ ≠ (s_.2.1 : Value).ownBlock ∧ some k_ ≠ (s_.2.2 : Value).ownBlock) s_.1 t215) ∧ (Kd.R (Kd.int .i64) 3 w' w.heap.size (fun k_ => some k_ ≠ (s_.2.2 : Value).ownBlock) s_.2.1 y218) ∧ (Kd.R (Kd.int .i64) 3 w' w.heap.size (fun k_ => some k_ ≠ (s_.2.1 : Value).ownBlock) s_.2.2 y224) ∧ (w'.heap[gb213]? = some (.cells #[.slice A0_0 l0_0.length c0_0, .slice A0_1 l0_1.length c0_1, .slice A0_2 l0_2.length c0_2, .int .i64 a0_3, .int .i64 a0_4] 31 (0, 0))) ∧ (w'.heap[gb214]? = some (.cells #[.slice none 0 0, .slice none 0 0, .slice none 0 0, .int .i64 0, .int .i64 0] 31 (0, 0))) ∧ (Below w.heap.size w w')) ?_ ?_
   rotate_left
   ·intro hJ2_3_7
    refine join_ (σ := Value × Value) 5 #[true, true, true, true, true, true, false, false, true, true, false, true, true, true, true, false, false] (fun s_ => [(5, s_.1), (6, s_.2)]) (fun s_ w' => (w'.cell? ⟨gb213, 0, none⟩ = some (.slice A0_0 l0_0.length c0_0) ∧ w'.cell? ⟨gb213, 1, none⟩ = some (.slice A0_1 l0_1.length c0_1) ∧ w'.cell? ⟨gb213, 2, none⟩ = some (.slice A0_2 l0_2.length c0_2) ∧ w'.cell? ⟨gb213, 3, none⟩ = some (.int .i64 a0_3) ∧ w'.cell? ⟨gb213, 4, none⟩ = some (.int .i64 a0_4)) ∧ (Kd.S k53 53 w' w.heap.size (fun k_ => some k_ ≠ (s_.2 : Value).ownBlock) s_.1 t215) ∧ (Kd.R (Kd.int .i64) 3 w' w.heap.size (fun _ => True) s_.2 y218) ∧ (w'.heap[gb213]? = some (.cells #[.slice A0_0 l0_0.length c0_0, .slice A0_1 l0_1.length c0_1, .slice A0_2 l0_2.length c0_2, .int .i64 a0_3, .int .i64 a0_4] 31 (0, 0))) ∧ (w'.heap[gb214]? = some (.cells #[.slice none 0 0, .slice none 0 0, .slice none 0 0, .int .i64 0, .int .i64 0] 31 (0, 0))) ∧ (Below w.heap.size w w')) ?_ ?_
    rotate_left
    ·intro hJ2_3
     refine join_ (σ := Value × Value) 5 #[true, true, true, false, true, true, false, true, true, true, false, true, true, true, true, false, false] (fun s_ => [(5, s_.1), (10, s_.2)]) (fun s_ w' => (w'.cell? ⟨gb213, 0, none⟩ = some (.slice A0_0 l0_0.length c0_0) ∧ w'.cell? ⟨gb213, 1, none⟩ = some (.slice A0_1 l0_1.length c0_1) ∧ w'.cell? ⟨gb213, 2, none⟩ = some (.slice A0_2 l0_2.length c0_2) ∧ w'.cell? ⟨gb213, 3, none⟩ = some (.int .i64 a0_3) ∧ w'.cell? ⟨gb213, 4, none⟩ = some (.int .i64 a0_4)) ∧ (Kd.S k53 53 w' w.heap.size (fun k_ => some k_ ≠ (s_.2 : Value).ownBlock) s_.1 t215) ∧ (Kd.R (Kd.int .i64) 3 w' w.heap.size (fun _ => True) s_.2 y224) ∧ (w'.heap[gb213]? = some (.cells #[.slice A0_0 l0_0.length c0_0, .slice A0_1 l0_1.length c0_1, .slice A0_2 l0_2.length c0_2, .int .i64 a0_3, .int .i64 a0_4] 31 (0, 0))) ∧ (w'.heap[gb214]? = some (.cells #[.slice none 0 0, .slice none 0 0, .slice none 0 0, .int .i64 0, .int .i64 0] 31 (0, 0))) ∧ (Below w.heap.size w w')) ?_ ?_
     rotate_left
     ·intro hJ2_7
      refine join_ (σ := Value × Value) 5 #[true, true, false, true, true, true, false, true, true, true, false, true, true, true, true, false, false] (fun s_ => [(6, s_.1), (10, s_.2)]) (fun s_ w' => (w'.cell? ⟨gb213, 0, none⟩ = some (.slice A0_0 l0_0.length c0_0) ∧ w'.cell? ⟨gb213, 1, none⟩ = some (.slice A0_1 l0_1.length c0_1) ∧ w'.cell? ⟨gb213, 2, none⟩ = some (.slice A0_2 l0_2.length c0_2) ∧ w'.cell? ⟨gb213, 3, none⟩ = some (.int .i64 a0_3) ∧ w'.cell? ⟨gb213, 4, none⟩ = some (.int .i64 a0_4)) ∧ (Kd.R (Kd.int .i64) 3 w' w.heap.size (fun k_ => some k_ ≠ (s_.2 : Value).ownBlock) s_.1 y218) ∧ (Kd.R (Kd.int .i64) 3 w' w.heap.size (fun k_ => some k_ ≠ (s_.1 : Value).ownBlock) s_.2 y224) ∧ (w'.heap[gb213]? = some (.cells #[.slice A0_0 l0_0.length c0_0, .slice A0_1 l0_1.length c0_1, .slice A0_2 l0_2.length c0_2, .int .i64 a0_3, .int .i64 a0_4] 31 (0, 0))) ∧ (w'.heap[gb214]? = some (.cells #[.slice none 0 0, .slice none 0 0, .slice none 0 0, .int .i64 0, .int .i64 0] 31 (0, 0))) ∧ (Below w.heap.size w w')) ?_ ?_
      rotate_left
      ·intro hJ3_7
       refine join_ (σ := Value) 6 #[true, true, true, false, true, true, false, false, true, true, false, true, true, true, true, false, false] (fun s_ => [(5, s_)]) (fun s_ w' => (w'.cell? ⟨gb213, 0, none⟩ = some (.slice A0_0 l0_0.length c0_0) ∧ w'.cell? ⟨gb213, 1, none⟩ = some (.slice A0_1 l0_1.length c0_1) ∧ w'.cell? ⟨gb213, 2, none⟩ = some (.slice A0_2 l0_2.length c0_2) ∧ w'.cell? ⟨gb213, 3, none⟩ = some (.int .i64 a0_3) ∧ w'.cell? ⟨gb213, 4, none⟩ = some (.int .i64 a0_4)) ∧ (Kd.S k53 53 w' w.heap.size (fun _ => True) s_ t215) ∧ (w'.heap[gb213]? = some (.cells #[.slice A0_0 l0_0.length c0_0, .slice A0_1 l0_1.length c0_1, .slice A0_2 l0_2.length c0_2, .int .i64 a0_3, .int .i64 a0_4] 31 (0, 0))) ∧ (w'.heap[gb214]? = some (.cells #[.slice none 0 0, .slice none 0 0, .slice none 0 0, .int .i64 0, .int .i64 0] 31 (0, 0))) ∧ (Below w.heap.size w w')) ?_ ?_
       rotate_left
       ·intro hJ2
        refine join_ (σ := Value) 6 #[true, true, false, true, true, true, false, false, true, true, false, true, true, true, true, false, false] (fun s_ => [(6, s_)]) (fun s_ w' => (w'.cell? ⟨gb213, 0, none⟩ = some (.slice A0_0 l0_0.length c0_0) ∧ w'.cell? ⟨gb213, 1, none⟩ = some (.slice A0_1 l0_1.length c0_1) ∧ w'.cell? ⟨gb213, 2, none⟩ = some (.slice A0_2 l0_2.length c0_2) ∧ w'.cell? ⟨gb213, 3, none⟩ = some (.int .i64 a0_3) ∧ w'.cell? ⟨gb213, 4, none⟩ = some (.int .i64 a0_4)) ∧ (Kd.R (Kd.int .i64) 3 w' w.heap.size (fun _ => True) s_ y218) ∧ (w'.heap[gb213]? = some (.cells #[.slice A0_0 l0_0.length c0_0, .slice A0_1 l0_1.length c0_1, .slice A0_2 l0_2.length c0_2, .int .i64 a0_3, .int .i64 a0_4] 31 (0, 0))) ∧ (w'.heap[gb214]? = some (.cells #[.slice none 0 0, .slice none 0 0, .slice none 0 0, .int .i64 0, .int .i64 0] 31 (0, 0))) ∧ (Below w.heap.size w w')) ?_ ?_
        rotate_left
        ·intro hJ3
         refine join_ (σ := Value) 6 #[true, true, false, false, true, true, false, true, true, true, false, true, true, true, true, false, false] (fun s_ => [(10, s_)]) (fun s_ w' => (w'.cell? ⟨gb213, 0, none⟩ = some (.slice A0_0 l0_0.length c0_0) ∧ w'.cell? ⟨gb213, 1, none⟩ = some (.slice A0_1 l0_1.length c0_1) ∧ w'.cell? ⟨gb213, 2, none⟩ = some (.slice A0_2 l0_2.length c0_2) ∧ w'.cell? ⟨gb213, 3, none⟩ = some (.int .i64 a0_3) ∧ w'.cell? ⟨gb213, 4, none⟩ = some (.int .i64 a0_4)) ∧ (Kd.R (Kd.int .i64) 3 w' w.heap.size (fun _ => True) s_ y224) ∧ (w'.heap[gb213]? = some (.cells #[.slice A0_0 l0_0.length c0_0, .slice A0_1 l0_1.length c0_1, .slice A0_2 l0_2.length c0_2, .int .i64 a0_3, .int .i64 a0_4] 31 (0, 0))) ∧ (w'.heap[gb214]? = some (.cells #[.slice none 0 0, .slice none 0 0, .slice none 0 0, .int .i64 0, .int .i64 0] 31 (0, 0))) ∧ (Below w.heap.size w w')) ?_ ?_
         rotate_left
         ·intro hJ7
          refine three_ (i := 2) (j := 3) (k := 7) (Ni := some 5) (Nj := some 6) (Nk := some 10) #[true, true, true, false, true, true, false, false, true, true, false, true, true, true, true, false, false] #[true, true, false, true, true, true, false, false, true, true, false, true, true, true, true, false, false] #[true, true, false, false, true, true, false, true, true, true, false, true, true, true, true, false, false] rfl rfl rfl rfl rfl rfl (three_of HT_.out (by kernel_rfl)) (by decide) (by decide) (by decide) (fun K hK => ?_) (fun K hK => ?_) (fun K hK => ?_)
          ·skip
           refine goes_ Tryz.func53 (by kernel_rfl) rfl #[.slice A0_0 l0_0.length c0_0] (by rfl) rfl rfl ab5 ?_
           with_reducible refine (spec_l6Copy.calls k _ _ l0_0 t215 _ ?side1 ?side2 A2.out).mono ?_
           (case side1 => repeat (first | exact (Kd.C_below HR0_0.out HB.out) | (with_reducible refine Kd.C_alloc ?_ _) | (with_reducible refine Kd.C_drewN ?_ _) | (with_reducible refine Kd.C_drew ?_)))
           (case side2 => exact HC0_0.out)
           rintro e w8 ⟨v216, rfl, ho0, hb⟩
           refine ⟨_, rfl, ?_⟩
           have HO217 := am (Kd.S_lower ho0 (below_size ba_))
           replace BK213 := bl_ BK213 hb
           replace BK214 := bl_ BK214 hb
           replace HB := am (below_step ba_ hb)
           (try clear hb)
           (try clear ho0)
           refine hK.out _ _ ⟨(blk_cell BK213.out 0).trans rfl, (blk_cell BK213.out 1).trans rfl, (blk_cell BK213.out 2).trans rfl, (blk_cell BK213.out 3).trans rfl, (blk_cell BK213.out 4).trans rfl⟩ (fun hHeld => ?_)
           clear hK K
           refine norm_ (a' := ?_) ?_ ?_
           rotate_left
           ·show Act.put _ (some 5) _ = _
            simp only [Act.put, List.setIfInBounds_toArray, List.set_cons_zero, List.set_cons_succ, i64_w, i32_w]
            rfl
           exact norm_ (by first | (simp only [putAll, Act.put, List.setIfInBounds_toArray, List.set_cons_zero, List.set_cons_succ]; done) | (simp only [putAll, Act.put, List.setIfInBounds_toArray, List.set_cons_zero, List.set_cons_succ]; rfl)) (hJ2 (v216) _ ⟨hHeld, (by (with_reducible repeat (first | apply Kd.S_alloc | apply Kd.S_drewN | apply Kd.S_drew)); exact HO217.out), (ab3 BK213), (ab3 BK214), ba_⟩)
          ·skip
           refine Kd.R_lit_step (Kd.int .i64) _ 3 ?hg (N := 6) ?hd (xs := ([] : List Int)) (inner := []) (ok := fun _ => True) (okp := fun _ => True) ?hr ?hp (fun _ hk => hk) trivial (Below.refl _ _) (Nat.le_refl _) (by simp) ?_; (case hd => rfl); (case hg => rfl); (case hr => first | (go_simp; done) | (go_simp; rfl)); (case hp => exact (Reps.none _ _))
           intro v219 w8 ho9 hb hg_ hnew_
           clear hg_ hnew_
           (first | rw [← Ny218.out] at ho9 | (simp only [Int.reduceToNat] at ho9; rw [← Ny218.out] at ho9))
           have HO220 := am (Kd.R_lower ho9 (below_size ba_))
           replace BK213 := bl_ BK213 hb
           replace BK214 := bl_ BK214 hb
           replace HB := am (below_step ba_ hb)
           clear hb ho9
           refine hK.out _ _ ⟨(blk_cell BK213.out 0).trans rfl, (blk_cell BK213.out 1).trans rfl, (blk_cell BK213.out 2).trans rfl, (blk_cell BK213.out 3).trans rfl, (blk_cell BK213.out 4).trans rfl⟩ (fun hHeld => ?_)
           clear hK K
           refine norm_ (a' := ?_) ?_ ?_
           rotate_left
           ·show Act.put _ (some 6) _ = _
            simp only [Act.put, List.setIfInBounds_toArray, List.set_cons_zero, List.set_cons_succ, i64_w, i32_w]
            rfl
           exact norm_ (by first | (simp only [putAll, Act.put, List.setIfInBounds_toArray, List.set_cons_zero, List.set_cons_succ]; done) | (simp only [putAll, Act.put, List.setIfInBounds_toArray, List.set_cons_zero, List.set_cons_succ]; rfl)) (hJ3 (v219) _ ⟨hHeld, (ab8 HO220), (ab3 BK213), (ab3 BK214), ba_⟩)
          ·skip
           refine Kd.R_lit_step (Kd.int .i64) _ 3 ?hg (N := 10) ?hd (xs := ([] : List Int)) (inner := []) (ok := fun _ => True) (okp := fun _ => True) ?hr ?hp (fun _ hk => hk) trivial (Below.refl _ _) (Nat.le_refl _) (by simp) ?_; (case hd => rfl); (case hg => rfl); (case hr => first | (go_simp; done) | (go_simp; rfl)); (case hp => exact (Reps.none _ _))
           intro v225 w8 ho9 hb hg_ hnew_
           clear hg_ hnew_
           (first | rw [← Ny224.out] at ho9 | (simp only [Int.reduceToNat] at ho9; rw [← Ny224.out] at ho9))
           have HO226 := am (Kd.R_lower ho9 (below_size ba_))
           replace BK213 := bl_ BK213 hb
           replace BK214 := bl_ BK214 hb
           replace HB := am (below_step ba_ hb)
           clear hb ho9
           refine hK.out _ _ ⟨(blk_cell BK213.out 0).trans rfl, (blk_cell BK213.out 1).trans rfl, (blk_cell BK213.out 2).trans rfl, (blk_cell BK213.out 3).trans rfl, (blk_cell BK213.out 4).trans rfl⟩ (fun hHeld => ?_)
           clear hK K
           refine norm_ (a' := ?_) ?_ ?_
           rotate_left
           ·show Act.put _ (some 10) _ = _
            simp only [Act.put, List.setIfInBounds_toArray, List.set_cons_zero, List.set_cons_succ, i64_w, i32_w]
            rfl
           exact norm_ (by first | (simp only [putAll, Act.put, List.setIfInBounds_toArray, List.set_cons_zero, List.set_cons_succ]; done) | (simp only [putAll, Act.put, List.setIfInBounds_toArray, List.set_cons_zero, List.set_cons_succ]; rfl)) (hJ7 (v225) _ ⟨hHeld, (ab8 HO226), (ab3 BK213), (ab3 BK214), ba_⟩)
         ·skip
          rintro v225 w10 ⟨hS_, h0_, h1_, h2_, h3_⟩
          have n0_ : Aside0 (Kd.R (Kd.int .i64) 3 w10 w.heap.size (fun _ => True) v225 y224) := ⟨h0_⟩
          have n1_ : Aside0 (w10.heap[gb213]? = some (.cells #[.slice A0_0 l0_0.length c0_0, .slice A0_1 l0_1.length c0_1, .slice A0_2 l0_2.length c0_2, .int .i64 a0_3, .int .i64 a0_4] 31 (0, 0))) := ⟨h1_⟩
          have n2_ : Aside0 (w10.heap[gb214]? = some (.cells #[.slice none 0 0, .slice none 0 0, .slice none 0 0, .int .i64 0, .int .i64 0] 31 (0, 0))) := ⟨h2_⟩
          have n3_ : Aside0 (Below w.heap.size w w10) := ⟨h3_⟩
          clear BK213
          clear BK214
          clear HB
          clear h0_ h1_ h2_ h3_
          have HO226 := n0_
          have BK213 := n1_
          have BK214 := n2_
          have HB := n3_
          clear n0_ n1_ n2_ n3_
          have hHeld : w10.cell? ⟨gb213, 0, none⟩ = some (.slice A0_0 l0_0.length c0_0) ∧ w10.cell? ⟨gb213, 1, none⟩ = some (.slice A0_1 l0_1.length c0_1) ∧ w10.cell? ⟨gb213, 2, none⟩ = some (.slice A0_2 l0_2.length c0_2) ∧ w10.cell? ⟨gb213, 3, none⟩ = some (.int .i64 a0_3) ∧ w10.cell? ⟨gb213, 4, none⟩ = some (.int .i64 a0_4) := hS_
          refine norm_ (a' := ?_) ?_ ?_
          rotate_left
          ·simp only [putAll, Act.put, List.setIfInBounds_toArray, List.set_cons_zero, List.set_cons_succ]
           rfl
          refine two_ (i := 2) (j := 3) (Ni := some 5) (Nj := some 6) #[true, true, true, false, true, true, false, true, true, true, false, true, true, true, true, false, false] #[true, true, false, true, true, true, false, true, true, true, false, true, true, true, true, false, false] rfl rfl rfl rfl (two_of HT_.out (by kernel_rfl)) (by decide) (by decide) (fun K hK => ?_) (fun K hK => ?_)
          ·skip
           refine goes_ Tryz.func53 (by kernel_rfl) rfl #[.slice A0_0 l0_0.length c0_0] (by rfl) rfl rfl ab5 ?_
           with_reducible refine (spec_l6Copy.calls k _ _ l0_0 t215 _ ?side1 ?side2 A2.out).mono ?_
           (case side1 => repeat (first | exact (Kd.C_below HR0_0.out HB.out) | (with_reducible refine Kd.C_alloc ?_ _) | (with_reducible refine Kd.C_drewN ?_ _) | (with_reducible refine Kd.C_drew ?_)))
           (case side2 => exact HC0_0.out)
           rintro e w11 ⟨v216, rfl, ho0, hb⟩
           refine ⟨_, rfl, ?_⟩
           have HO217 := am (Kd.S_lower (Kd.S_new' ho0 (Kd.R_lt (ab8 HO226))) (below_size ba_))
           replace HO226 := am (Kd.R_below (ab8 HO226) hb)
           replace BK213 := bl_ BK213 hb
           replace BK214 := bl_ BK214 hb
           replace HB := am (below_step ba_ hb)
           (try clear hb)
           (try clear ho0)
           refine hK.out _ _ ⟨(blk_cell BK213.out 0).trans rfl, (blk_cell BK213.out 1).trans rfl, (blk_cell BK213.out 2).trans rfl, (blk_cell BK213.out 3).trans rfl, (blk_cell BK213.out 4).trans rfl⟩ (fun hHeld => ?_)
           clear hK K
           refine norm_ (a' := ?_) ?_ ?_
           rotate_left
           ·show Act.put _ (some 5) _ = _
            simp only [Act.put, List.setIfInBounds_toArray, List.set_cons_zero, List.set_cons_succ, i64_w, i32_w]
            rfl
           exact norm_ (by first | (simp only [putAll, Act.put, List.setIfInBounds_toArray, List.set_cons_zero, List.set_cons_succ]; done) | (simp only [putAll, Act.put, List.setIfInBounds_toArray, List.set_cons_zero, List.set_cons_succ]; rfl)) (hJ2_7 (v216, v225) _ ⟨hHeld, (by (with_reducible repeat (first | apply Kd.S_alloc | apply Kd.S_drewN | apply Kd.S_drew)); exact Kd.S_mono HO217.out (fun _ hk => hk.2)), (ab8 HO226), (ab3 BK213), (ab3 BK214), ba_⟩)
          ·skip
           refine Kd.R_lit_step (Kd.int .i64) _ 3 ?hg (N := 6) ?hd (xs := ([] : List Int)) (inner := []) (ok := fun _ => True) (okp := fun _ => True) ?hr ?hp (fun _ hk => hk) trivial (Below.refl _ _) (Nat.le_refl _) (by simp) ?_; (case hd => rfl); (case hg => rfl); (case hr => first | (go_simp; done) | (go_simp; rfl)); (case hp => exact (Reps.none _ _))
           intro v219 w11 ho12 hb hg_ hnew_
           clear hg_ hnew_
           (first | rw [← Ny218.out] at ho12 | (simp only [Int.reduceToNat] at ho12; rw [← Ny218.out] at ho12))
           have HO220 := am (Kd.R_lower (Kd.R_new' ho12 (Kd.R_lt (ab8 HO226))) (below_size ba_))
           replace HO226 := am (Kd.R_elder' (ab8 HO226) (Kd.R_base ho12) hb)
           replace BK213 := bl_ BK213 hb
           replace BK214 := bl_ BK214 hb
           replace HB := am (below_step ba_ hb)
           clear hb ho12
           refine hK.out _ _ ⟨(blk_cell BK213.out 0).trans rfl, (blk_cell BK213.out 1).trans rfl, (blk_cell BK213.out 2).trans rfl, (blk_cell BK213.out 3).trans rfl, (blk_cell BK213.out 4).trans rfl⟩ (fun hHeld => ?_)
           clear hK K
           refine norm_ (a' := ?_) ?_ ?_
           rotate_left
           ·show Act.put _ (some 6) _ = _
            simp only [Act.put, List.setIfInBounds_toArray, List.set_cons_zero, List.set_cons_succ, i64_w, i32_w]
            rfl
           exact norm_ (by first | (simp only [putAll, Act.put, List.setIfInBounds_toArray, List.set_cons_zero, List.set_cons_succ]; done) | (simp only [putAll, Act.put, List.setIfInBounds_toArray, List.set_cons_zero, List.set_cons_succ]; rfl)) (hJ3_7 (v219, v225) _ ⟨hHeld, (by (with_reducible repeat (first | apply Kd.R_alloc | apply Kd.R_drewN | apply Kd.R_drew)); exact Kd.R_mono HO220.out (fun _ hk => hk.2)), (by (with_reducible repeat (first | apply Kd.R_alloc | apply Kd.R_drewN | apply Kd.R_drew)); exact Kd.R_mono HO226.out (fun _ hk => hk.2)), (ab3 BK213), (ab3 BK214), ba_⟩)
        ·skip
         rintro v219 w10 ⟨hS_, h0_, h1_, h2_, h3_⟩
         have n0_ : Aside0 (Kd.R (Kd.int .i64) 3 w10 w.heap.size (fun _ => True) v219 y218) := ⟨h0_⟩
         have n1_ : Aside0 (w10.heap[gb213]? = some (.cells #[.slice A0_0 l0_0.length c0_0, .slice A0_1 l0_1.length c0_1, .slice A0_2 l0_2.length c0_2, .int .i64 a0_3, .int .i64 a0_4] 31 (0, 0))) := ⟨h1_⟩
         have n2_ : Aside0 (w10.heap[gb214]? = some (.cells #[.slice none 0 0, .slice none 0 0, .slice none 0 0, .int .i64 0, .int .i64 0] 31 (0, 0))) := ⟨h2_⟩
         have n3_ : Aside0 (Below w.heap.size w w10) := ⟨h3_⟩
         clear BK213
         clear BK214
         clear HB
         clear h0_ h1_ h2_ h3_
         have HO220 := n0_
         have BK213 := n1_
         have BK214 := n2_
         have HB := n3_
         clear n0_ n1_ n2_ n3_
         have hHeld : w10.cell? ⟨gb213, 0, none⟩ = some (.slice A0_0 l0_0.length c0_0) ∧ w10.cell? ⟨gb213, 1, none⟩ = some (.slice A0_1 l0_1.length c0_1) ∧ w10.cell? ⟨gb213, 2, none⟩ = some (.slice A0_2 l0_2.length c0_2) ∧ w10.cell? ⟨gb213, 3, none⟩ = some (.int .i64 a0_3) ∧ w10.cell? ⟨gb213, 4, none⟩ = some (.int .i64 a0_4) := hS_
         refine norm_ (a' := ?_) ?_ ?_
         rotate_left
         ·simp only [putAll, Act.put, List.setIfInBounds_toArray, List.set_cons_zero, List.set_cons_succ]
          rfl
         refine two_ (i := 2) (j := 7) (Ni := some 5) (Nj := some 10) #[true, true, true, true, true, true, false, false, true, true, false, true, true, true, true, false, false] #[true, true, false, true, true, true, false, true, true, true, false, true, true, true, true, false, false] rfl rfl rfl rfl (two_of HT_.out (by kernel_rfl)) (by decide) (by decide) (fun K hK => ?_) (fun K hK => ?_)
         ·skip
          refine goes_ Tryz.func53 (by kernel_rfl) rfl #[.slice A0_0 l0_0.length c0_0] (by rfl) rfl rfl ab5 ?_
          with_reducible refine (spec_l6Copy.calls k _ _ l0_0 t215 _ ?side1 ?side2 A2.out).mono ?_
          (case side1 => repeat (first | exact (Kd.C_below HR0_0.out HB.out) | (with_reducible refine Kd.C_alloc ?_ _) | (with_reducible refine Kd.C_drewN ?_ _) | (with_reducible refine Kd.C_drew ?_)))
          (case side2 => exact HC0_0.out)
          rintro e w11 ⟨v216, rfl, ho0, hb⟩
          refine ⟨_, rfl, ?_⟩
          have HO217 := am (Kd.S_lower (Kd.S_new' ho0 (Kd.R_lt (ab8 HO220))) (below_size ba_))
          replace HO220 := am (Kd.R_below (ab8 HO220) hb)
          replace BK213 := bl_ BK213 hb
          replace BK214 := bl_ BK214 hb
          replace HB := am (below_step ba_ hb)
          (try clear hb)
          (try clear ho0)
          refine hK.out _ _ ⟨(blk_cell BK213.out 0).trans rfl, (blk_cell BK213.out 1).trans rfl, (blk_cell BK213.out 2).trans rfl, (blk_cell BK213.out 3).trans rfl, (blk_cell BK213.out 4).trans rfl⟩ (fun hHeld => ?_)
          clear hK K
          refine norm_ (a' := ?_) ?_ ?_
          rotate_left
          ·show Act.put _ (some 5) _ = _
           simp only [Act.put, List.setIfInBounds_toArray, List.set_cons_zero, List.set_cons_succ, i64_w, i32_w]
           rfl
          exact norm_ (by first | (simp only [putAll, Act.put, List.setIfInBounds_toArray, List.set_cons_zero, List.set_cons_succ]; done) | (simp only [putAll, Act.put, List.setIfInBounds_toArray, List.set_cons_zero, List.set_cons_succ]; rfl)) (hJ2_3 (v216, v219) _ ⟨hHeld, (by (with_reducible repeat (first | apply Kd.S_alloc | apply Kd.S_drewN | apply Kd.S_drew)); exact Kd.S_mono HO217.out (fun _ hk => hk.2)), (ab8 HO220), (ab3 BK213), (ab3 BK214), ba_⟩)
         ·skip
          refine Kd.R_lit_step (Kd.int .i64) _ 3 ?hg (N := 10) ?hd (xs := ([] : List Int)) (inner := []) (ok := fun _ => True) (okp := fun _ => True) ?hr ?hp (fun _ hk => hk) trivial (Below.refl _ _) (Nat.le_refl _) (by simp) ?_; (case hd => rfl); (case hg => rfl); (case hr => first | (go_simp; done) | (go_simp; rfl)); (case hp => exact (Reps.none _ _))
          intro v225 w11 ho12 hb hg_ hnew_
          clear hg_ hnew_
          (first | rw [← Ny224.out] at ho12 | (simp only [Int.reduceToNat] at ho12; rw [← Ny224.out] at ho12))
          have HO226 := am (Kd.R_lower (Kd.R_new' ho12 (Kd.R_lt (ab8 HO220))) (below_size ba_))
          replace HO220 := am (Kd.R_elder' (ab8 HO220) (Kd.R_base ho12) hb)
          replace BK213 := bl_ BK213 hb
          replace BK214 := bl_ BK214 hb
          replace HB := am (below_step ba_ hb)
          clear hb ho12
          refine hK.out _ _ ⟨(blk_cell BK213.out 0).trans rfl, (blk_cell BK213.out 1).trans rfl, (blk_cell BK213.out 2).trans rfl, (blk_cell BK213.out 3).trans rfl, (blk_cell BK213.out 4).trans rfl⟩ (fun hHeld => ?_)
          clear hK K
          refine norm_ (a' := ?_) ?_ ?_
          rotate_left
          ·show Act.put _ (some 10) _ = _
           simp only [Act.put, List.setIfInBounds_toArray, List.set_cons_zero, List.set_cons_succ, i64_w, i32_w]
           rfl
          exact norm_ (by first | (simp only [putAll, Act.put, List.setIfInBounds_toArray, List.set_cons_zero, List.set_cons_succ]; done) | (simp only [putAll, Act.put, List.setIfInBounds_toArray, List.set_cons_zero, List.set_cons_succ]; rfl)) (hJ3_7 (v219, v225) _ ⟨hHeld, (by (with_reducible repeat (first | apply Kd.R_alloc | apply Kd.R_drewN | apply Kd.R_drew)); exact Kd.R_mono HO220.out (fun _ hk => hk.2)), (by (with_reducible repeat (first | apply Kd.R_alloc | apply Kd.R_drewN | apply Kd.R_drew)); exact Kd.R_mono HO226.out (fun _ hk => hk.2)), (ab3 BK213), (ab3 BK214), ba_⟩)
       ·skip
        rintro v216 w9 ⟨hS_, h0_, h1_, h2_, h3_⟩
        have n0_ : Aside0 (Kd.S k53 53 w9 w.heap.size (fun _ => True) v216 t215) := ⟨h0_⟩
        have n1_ : Aside0 (w9.heap[gb213]? = some (.cells #[.slice A0_0 l0_0.length c0_0, .slice A0_1 l0_1.length c0_1, .slice A0_2 l0_2.length c0_2, .int .i64 a0_3, .int .i64 a0_4] 31 (0, 0))) := ⟨h1_⟩
        have n2_ : Aside0 (w9.heap[gb214]? = some (.cells #[.slice none 0 0, .slice none 0 0, .slice none 0 0, .int .i64 0, .int .i64 0] 31 (0, 0))) := ⟨h2_⟩
        have n3_ : Aside0 (Below w.heap.size w w9) := ⟨h3_⟩
        clear BK213
        clear BK214
        clear HB
        clear h0_ h1_ h2_ h3_
        have HO217 := n0_
        have BK213 := n1_
        have BK214 := n2_
        have HB := n3_
        clear n0_ n1_ n2_ n3_
        have hHeld : w9.cell? ⟨gb213, 0, none⟩ = some (.slice A0_0 l0_0.length c0_0) ∧ w9.cell? ⟨gb213, 1, none⟩ = some (.slice A0_1 l0_1.length c0_1) ∧ w9.cell? ⟨gb213, 2, none⟩ = some (.slice A0_2 l0_2.length c0_2) ∧ w9.cell? ⟨gb213, 3, none⟩ = some (.int .i64 a0_3) ∧ w9.cell? ⟨gb213, 4, none⟩ = some (.int .i64 a0_4) := hS_
        refine norm_ (a' := ?_) ?_ ?_
        rotate_left
        ·simp only [putAll, Act.put, List.setIfInBounds_toArray, List.set_cons_zero, List.set_cons_succ]
         rfl
        refine two_ (i := 3) (j := 7) (Ni := some 6) (Nj := some 10) #[true, true, true, true, true, true, false, false, true, true, false, true, true, true, true, false, false] #[true, true, true, false, true, true, false, true, true, true, false, true, true, true, true, false, false] rfl rfl rfl rfl (two_of HT_.out (by kernel_rfl)) (by decide) (by decide) (fun K hK => ?_) (fun K hK => ?_)
        ·skip
         refine Kd.R_lit_step (Kd.int .i64) _ 3 ?hg (N := 6) ?hd (xs := ([] : List Int)) (inner := []) (ok := fun _ => True) (okp := fun _ => True) ?hr ?hp (fun _ hk => hk) trivial (Below.refl _ _) (Nat.le_refl _) (by simp) ?_; (case hd => rfl); (case hg => rfl); (case hr => first | (go_simp; done) | (go_simp; rfl)); (case hp => exact (Reps.none _ _))
         intro v219 w10 ho11 hb hg_ hnew_
         clear hg_ hnew_
         (first | rw [← Ny218.out] at ho11 | (simp only [Int.reduceToNat] at ho11; rw [← Ny218.out] at ho11))
         replace HO217 := am (Kd.S_elder' (by (with_reducible repeat (first | apply Kd.S_alloc | apply Kd.S_drewN | apply Kd.S_drew)); exact HO217.out) (Kd.R_base ho11) hb)
         have HO220 := am (Kd.R_lower ho11 (below_size ba_))
         replace BK213 := bl_ BK213 hb
         replace BK214 := bl_ BK214 hb
         replace HB := am (below_step ba_ hb)
         clear hb ho11
         refine hK.out _ _ ⟨(blk_cell BK213.out 0).trans rfl, (blk_cell BK213.out 1).trans rfl, (blk_cell BK213.out 2).trans rfl, (blk_cell BK213.out 3).trans rfl, (blk_cell BK213.out 4).trans rfl⟩ (fun hHeld => ?_)
         clear hK K
         refine norm_ (a' := ?_) ?_ ?_
         rotate_left
         ·show Act.put _ (some 6) _ = _
          simp only [Act.put, List.setIfInBounds_toArray, List.set_cons_zero, List.set_cons_succ, i64_w, i32_w]
          rfl
         exact norm_ (by first | (simp only [putAll, Act.put, List.setIfInBounds_toArray, List.set_cons_zero, List.set_cons_succ]; done) | (simp only [putAll, Act.put, List.setIfInBounds_toArray, List.set_cons_zero, List.set_cons_succ]; rfl)) (hJ2_3 (v216, v219) _ ⟨hHeld, (by (with_reducible repeat (first | apply Kd.S_alloc | apply Kd.S_drewN | apply Kd.S_drew)); exact Kd.S_mono HO217.out (fun _ hk => hk.2)), (ab8 HO220), (ab3 BK213), (ab3 BK214), ba_⟩)
        ·skip
         refine Kd.R_lit_step (Kd.int .i64) _ 3 ?hg (N := 10) ?hd (xs := ([] : List Int)) (inner := []) (ok := fun _ => True) (okp := fun _ => True) ?hr ?hp (fun _ hk => hk) trivial (Below.refl _ _) (Nat.le_refl _) (by simp) ?_; (case hd => rfl); (case hg => rfl); (case hr => first | (go_simp; done) | (go_simp; rfl)); (case hp => exact (Reps.none _ _))
         intro v225 w10 ho11 hb hg_ hnew_
         clear hg_ hnew_
         (first | rw [← Ny224.out] at ho11 | (simp only [Int.reduceToNat] at ho11; rw [← Ny224.out] at ho11))
         replace HO217 := am (Kd.S_elder' (by (with_reducible repeat (first | apply Kd.S_alloc | apply Kd.S_drewN | apply Kd.S_drew)); exact HO217.out) (Kd.R_base ho11) hb)
         have HO226 := am (Kd.R_lower ho11 (below_size ba_))
         replace BK213 := bl_ BK213 hb
         replace BK214 := bl_ BK214 hb
         replace HB := am (below_step ba_ hb)
         clear hb ho11
         refine hK.out _ _ ⟨(blk_cell BK213.out 0).trans rfl, (blk_cell BK213.out 1).trans rfl, (blk_cell BK213.out 2).trans rfl, (blk_cell BK213.out 3).trans rfl, (blk_cell BK213.out 4).trans rfl⟩ (fun hHeld => ?_)
         clear hK K
         refine norm_ (a' := ?_) ?_ ?_
         rotate_left
         ·show Act.put _ (some 10) _ = _
          simp only [Act.put, List.setIfInBounds_toArray, List.set_cons_zero, List.set_cons_succ, i64_w, i32_w]
          rfl
         exact norm_ (by first | (simp only [putAll, Act.put, List.setIfInBounds_toArray, List.set_cons_zero, List.set_cons_succ]; done) | (simp only [putAll, Act.put, List.setIfInBounds_toArray, List.set_cons_zero, List.set_cons_succ]; rfl)) (hJ2_7 (v216, v225) _ ⟨hHeld, (by (with_reducible repeat (first | apply Kd.S_alloc | apply Kd.S_drewN | apply Kd.S_drew)); exact Kd.S_mono HO217.out (fun _ hk => hk.2)), (ab8 HO226), (ab3 BK213), (ab3 BK214), ba_⟩)
      ·skip
       rintro ⟨v219, v225⟩ w12 ⟨hS_, h0_, h1_, h2_, h3_, h4_⟩
       have n0_ : Aside0 (Kd.R (Kd.int .i64) 3 w12 w.heap.size (fun k_ => some k_ ≠ (v225 : Value).ownBlock) v219 y218) := ⟨h0_⟩
       have n1_ : Aside0 (Kd.R (Kd.int .i64) 3 w12 w.heap.size (fun k_ => some k_ ≠ (v219 : Value).ownBlock) v225 y224) := ⟨h1_⟩
       have n2_ : Aside0 (w12.heap[gb213]? = some (.cells #[.slice A0_0 l0_0.length c0_0, .slice A0_1 l0_1.length c0_1, .slice A0_2 l0_2.length c0_2, .int .i64 a0_3, .int .i64 a0_4] 31 (0, 0))) := ⟨h2_⟩
       have n3_ : Aside0 (w12.heap[gb214]? = some (.cells #[.slice none 0 0, .slice none 0 0, .slice none 0 0, .int .i64 0, .int .i64 0] 31 (0, 0))) := ⟨h3_⟩
       have n4_ : Aside0 (Below w.heap.size w w12) := ⟨h4_⟩
       clear BK213
       clear BK214
       clear HB
       clear h0_ h1_ h2_ h3_ h4_
       have HO220 := n0_
       have HO226 := n1_
       have BK213 := n2_
       have BK214 := n3_
       have HB := n4_
       clear n0_ n1_ n2_ n3_ n4_
       have hHeld : w12.cell? ⟨gb213, 0, none⟩ = some (.slice A0_0 l0_0.length c0_0) ∧ w12.cell? ⟨gb213, 1, none⟩ = some (.slice A0_1 l0_1.length c0_1) ∧ w12.cell? ⟨gb213, 2, none⟩ = some (.slice A0_2 l0_2.length c0_2) ∧ w12.cell? ⟨gb213, 3, none⟩ = some (.int .i64 a0_3) ∧ w12.cell? ⟨gb213, 4, none⟩ = some (.int .i64 a0_4) := hS_
       refine norm_ (a' := ?_) ?_ ?_
       rotate_left
       ·simp only [putAll, Act.put, List.setIfInBounds_toArray, List.set_cons_zero, List.set_cons_succ]
        rfl
       refine on_ 2 5 HT_ fun K hK => ?_
       refine goes_ Tryz.func53 (by kernel_rfl) rfl #[.slice A0_0 l0_0.length c0_0] (by rfl) rfl rfl ab5 ?_
       with_reducible refine (spec_l6Copy.calls k _ _ l0_0 t215 _ ?side1 ?side2 A2.out).mono ?_
       (case side1 => repeat (first | exact (Kd.C_below HR0_0.out HB.out) | (with_reducible refine Kd.C_alloc ?_ _) | (with_reducible refine Kd.C_drewN ?_ _) | (with_reducible refine Kd.C_drew ?_)))
       (case side2 => exact HC0_0.out)
       rintro e w13 ⟨v216, rfl, ho0, hb⟩
       refine ⟨_, rfl, ?_⟩
       have HO217 := am (Kd.S_lower (Kd.S_new' (Kd.S_new' ho0 (Kd.R_lt (ab8 HO220))) (Kd.R_lt (ab8 HO226))) (below_size ba_))
       replace HO220 := am (Kd.R_below (ab8 HO220) hb)
       replace HO226 := am (Kd.R_below (ab8 HO226) hb)
       replace BK213 := bl_ BK213 hb
       replace BK214 := bl_ BK214 hb
       replace HB := am (below_step ba_ hb)
       (try clear hb)
       (try clear ho0)
       refine hK.out _ _ ⟨(blk_cell BK213.out 0).trans rfl, (blk_cell BK213.out 1).trans rfl, (blk_cell BK213.out 2).trans rfl, (blk_cell BK213.out 3).trans rfl, (blk_cell BK213.out 4).trans rfl⟩ (fun hHeld => ?_)
       clear hK K
       refine norm_ (a' := ?_) ?_ ?_
       rotate_left
       ·show Act.put _ (some 5) _ = _
        simp only [Act.put, List.setIfInBounds_toArray, List.set_cons_zero, List.set_cons_succ, i64_w, i32_w]
        rfl
       exact norm_ (by first | (simp only [putAll, Act.put, List.setIfInBounds_toArray, List.set_cons_zero, List.set_cons_succ]; done) | (simp only [putAll, Act.put, List.setIfInBounds_toArray, List.set_cons_zero, List.set_cons_succ]; rfl)) (hJ2_3_7 (v216, v219, v225) _ ⟨hHeld, (by (with_reducible repeat (first | apply Kd.S_alloc | apply Kd.S_drewN | apply Kd.S_drew)); exact Kd.S_mono HO217.out (fun _ hk => ⟨hk.1.2, hk.2⟩)), (ab8 HO220), (ab8 HO226), (ab3 BK213), (ab3 BK214), ba_⟩)
     ·skip
      rintro ⟨v216, v225⟩ w11 ⟨hS_, h0_, h1_, h2_, h3_, h4_⟩
      have n0_ : Aside0 (Kd.S k53 53 w11 w.heap.size (fun k_ => some k_ ≠ (v225 : Value).ownBlock) v216 t215) := ⟨h0_⟩
      have n1_ : Aside0 (Kd.R (Kd.int .i64) 3 w11 w.heap.size (fun _ => True) v225 y224) := ⟨h1_⟩
      have n2_ : Aside0 (w11.heap[gb213]? = some (.cells #[.slice A0_0 l0_0.length c0_0, .slice A0_1 l0_1.length c0_1, .slice A0_2 l0_2.length c0_2, .int .i64 a0_3, .int .i64 a0_4] 31 (0, 0))) := ⟨h2_⟩
      have n3_ : Aside0 (w11.heap[gb214]? = some (.cells #[.slice none 0 0, .slice none 0 0, .slice none 0 0, .int .i64 0, .int .i64 0] 31 (0, 0))) := ⟨h3_⟩
      have n4_ : Aside0 (Below w.heap.size w w11) := ⟨h4_⟩
      clear BK213
      clear BK214
      clear HB
      clear h0_ h1_ h2_ h3_ h4_
      have HO217 := n0_
      have HO226 := n1_
      have BK213 := n2_
      have BK214 := n3_
      have HB := n4_
      clear n0_ n1_ n2_ n3_ n4_
      have hHeld : w11.cell? ⟨gb213, 0, none⟩ = some (.slice A0_0 l0_0.length c0_0) ∧ w11.cell? ⟨gb213, 1, none⟩ = some (.slice A0_1 l0_1.length c0_1) ∧ w11.cell? ⟨gb213, 2, none⟩ = some (.slice A0_2 l0_2.length c0_2) ∧ w11.cell? ⟨gb213, 3, none⟩ = some (.int .i64 a0_3) ∧ w11.cell? ⟨gb213, 4, none⟩ = some (.int .i64 a0_4) := hS_
      refine norm_ (a' := ?_) ?_ ?_
      rotate_left
      ·simp only [putAll, Act.put, List.setIfInBounds_toArray, List.set_cons_zero, List.set_cons_succ]
       rfl
      refine on_ 3 6 HT_ fun K hK => ?_
      refine Kd.R_lit_step (Kd.int .i64) _ 3 ?hg (N := 6) ?hd (xs := ([] : List Int)) (inner := []) (ok := fun _ => True) (okp := fun _ => True) ?hr ?hp (fun _ hk => hk) trivial (Below.refl _ _) (Nat.le_refl _) (by simp) ?_; (case hd => rfl); (case hg => rfl); (case hr => first | (go_simp; done) | (go_simp; rfl)); (case hp => exact (Reps.none _ _))
      intro v219 w12 ho13 hb hg_ hnew_
      clear hg_ hnew_
      (first | rw [← Ny218.out] at ho13 | (simp only [Int.reduceToNat] at ho13; rw [← Ny218.out] at ho13))
      replace HO217 := am (Kd.S_elder' (by (with_reducible repeat (first | apply Kd.S_alloc | apply Kd.S_drewN | apply Kd.S_drew)); exact HO217.out) (Kd.R_base ho13) hb)
      have HO220 := am (Kd.R_lower (Kd.R_new' ho13 (Kd.R_lt (ab8 HO226))) (below_size ba_))
      replace HO226 := am (Kd.R_elder' (ab8 HO226) (Kd.R_base ho13) hb)
      replace BK213 := bl_ BK213 hb
      replace BK214 := bl_ BK214 hb
      replace HB := am (below_step ba_ hb)
      clear hb ho13
      refine hK.out _ _ ⟨(blk_cell BK213.out 0).trans rfl, (blk_cell BK213.out 1).trans rfl, (blk_cell BK213.out 2).trans rfl, (blk_cell BK213.out 3).trans rfl, (blk_cell BK213.out 4).trans rfl⟩ (fun hHeld => ?_)
      clear hK K
      refine norm_ (a' := ?_) ?_ ?_
      rotate_left
      ·show Act.put _ (some 6) _ = _
       simp only [Act.put, List.setIfInBounds_toArray, List.set_cons_zero, List.set_cons_succ, i64_w, i32_w]
       rfl
      exact norm_ (by first | (simp only [putAll, Act.put, List.setIfInBounds_toArray, List.set_cons_zero, List.set_cons_succ]; done) | (simp only [putAll, Act.put, List.setIfInBounds_toArray, List.set_cons_zero, List.set_cons_succ]; rfl)) (hJ2_3_7 (v216, v219, v225) _ ⟨hHeld, (by (with_reducible repeat (first | apply Kd.S_alloc | apply Kd.S_drewN | apply Kd.S_drew)); exact Kd.S_mono HO217.out (fun _ hk => ⟨hk.2, hk.1⟩)), (by (with_reducible repeat (first | apply Kd.R_alloc | apply Kd.R_drewN | apply Kd.R_drew)); exact Kd.R_mono HO220.out (fun _ hk => hk.2)), (by (with_reducible repeat (first | apply Kd.R_alloc | apply Kd.R_drewN | apply Kd.R_drew)); exact Kd.R_mono HO226.out (fun _ hk => hk.2)), (ab3 BK213), (ab3 BK214), ba_⟩)
    ·skip
     rintro ⟨v216, v219⟩ w11 ⟨hS_, h0_, h1_, h2_, h3_, h4_⟩
     have n0_ : Aside0 (Kd.S k53 53 w11 w.heap.size (fun k_ => some k_ ≠ (v219 : Value).ownBlock) v216 t215) := ⟨h0_⟩
     have n1_ : Aside0 (Kd.R (Kd.int .i64) 3 w11 w.heap.size (fun _ => True) v219 y218) := ⟨h1_⟩
     have n2_ : Aside0 (w11.heap[gb213]? = some (.cells #[.slice A0_0 l0_0.length c0_0, .slice A0_1 l0_1.length c0_1, .slice A0_2 l0_2.length c0_2, .int .i64 a0_3, .int .i64 a0_4] 31 (0, 0))) := ⟨h2_⟩
     have n3_ : Aside0 (w11.heap[gb214]? = some (.cells #[.slice none 0 0, .slice none 0 0, .slice none 0 0, .int .i64 0, .int .i64 0] 31 (0, 0))) := ⟨h3_⟩
     have n4_ : Aside0 (Below w.heap.size w w11) := ⟨h4_⟩
     clear BK213
     clear BK214
     clear HB
     clear h0_ h1_ h2_ h3_ h4_
     have HO217 := n0_
     have HO220 := n1_
     have BK213 := n2_
     have BK214 := n3_
     have HB := n4_
     clear n0_ n1_ n2_ n3_ n4_
     have hHeld : w11.cell? ⟨gb213, 0, none⟩ = some (.slice A0_0 l0_0.length c0_0) ∧ w11.cell? ⟨gb213, 1, none⟩ = some (.slice A0_1 l0_1.length c0_1) ∧ w11.cell? ⟨gb213, 2, none⟩ = some (.slice A0_2 l0_2.length c0_2) ∧ w11.cell? ⟨gb213, 3, none⟩ = some (.int .i64 a0_3) ∧ w11.cell? ⟨gb213, 4, none⟩ = some (.int .i64 a0_4) := hS_
     refine norm_ (a' := ?_) ?_ ?_
     rotate_left
     ·simp only [putAll, Act.put, List.setIfInBounds_toArray, List.set_cons_zero, List.set_cons_succ]
      rfl
     refine two_ (i := 6) (j := 7) (Ni := some 9) (Nj := some 10) #[true, true, true, true, true, true, true, false, true, true, false, true, true, true, true, false, false] #[true, true, true, true, true, true, false, true, true, true, false, true, true, true, true, false, false] rfl rfl rfl rfl (two_of HT_.out (by kernel_rfl)) (by decide) (by decide) (fun K hK => ?_) (fun K hK => ?_)
     ·skip
      refine Kd.R_append_rows_step (Kd.int .i64) (w0 := w) w.heap.size (by rfl) (.tmp 6) (.tmp 8) 23 3 (.int .i64 0) 8 rfl Tryz.underlying23 info3 rfl (by decide) (by omega) v219 y218 l0_1 _ _ _ (fun _ => True) (fun _ => False) rfl rfl ?aO ?aR (fun _ _ h => h) (fun _ h => h.elim) ?aF ?aB ?aS ?aL ?_
      (case aR => repeat (first | exact (Kd.C_below HR0_1.out HB.out) | (with_reducible refine Kd.C_alloc ?_ _) | (with_reducible refine Kd.C_drewN ?_ _) | (with_reducible refine Kd.C_drew ?_)))
      (case aB => exact ba_)
      (case aF => exact (fun _ _ => trivial))
      (case aO => exact (ab8 HO220))
      (case aS => exact (below_size ba_))
      (case aL => have := LMc3.out; omega)
      intro v222 w12 ho hb hg hat
      rw [← Ny221.out] at ho
      replace BK213 := bg_ BK213 hg (Kd.R_ne HO220.out BK213.out (by decide))
      replace BK214 := bg_ BK214 hg (Kd.R_ne HO220.out BK214.out (by decide))
      replace HO217 := am (Kd.S_after (ok := (fun _ => True)) (by (with_reducible repeat (first | apply Kd.S_alloc | apply Kd.S_drewN | apply Kd.S_drew)); exact Kd.S_mono HO217.out (fun _ hk => ⟨trivial, hk⟩)) hg hat)
      replace HB := am hb
      have HO223 := am ho
      clear HO220
      clear ho hb hg hat
      refine hK.out _ _ ⟨(blk_cell BK213.out 0).trans rfl, (blk_cell BK213.out 1).trans rfl, (blk_cell BK213.out 2).trans rfl, (blk_cell BK213.out 3).trans rfl, (blk_cell BK213.out 4).trans rfl⟩ (fun hHeld => ?_)
      clear hK K
      refine norm_ (a' := ?_) ?_ ?_
      rotate_left
      ·show Act.put _ (some 9) _ = _
       simp only [Act.put, List.setIfInBounds_toArray, List.set_cons_zero, List.set_cons_succ, i64_w, i32_w]
       rfl
      exact norm_ (by first | (simp only [putAll, Act.put, List.setIfInBounds_toArray, List.set_cons_zero, List.set_cons_succ]; done) | (simp only [putAll, Act.put, List.setIfInBounds_toArray, List.set_cons_zero, List.set_cons_succ]; rfl)) (hJ2_3_6 (v216, v219, v222) _ ⟨hHeld, (by (with_reducible repeat (first | apply Kd.S_alloc | apply Kd.S_drewN | apply Kd.S_drew)); exact Kd.S_mono HO217.out (fun _ hk => hk.2)), (ab8 HO223), (ab3 BK213), (ab3 BK214), ba_⟩)
     ·skip
      refine Kd.R_lit_step (Kd.int .i64) _ 3 ?hg (N := 10) ?hd (xs := ([] : List Int)) (inner := []) (ok := fun _ => True) (okp := fun _ => True) ?hr ?hp (fun _ hk => hk) trivial (Below.refl _ _) (Nat.le_refl _) (by simp) ?_; (case hd => rfl); (case hg => rfl); (case hr => first | (go_simp; done) | (go_simp; rfl)); (case hp => exact (Reps.none _ _))
      intro v225 w12 ho13 hb hg_ hnew_
      clear hg_ hnew_
      (first | rw [← Ny224.out] at ho13 | (simp only [Int.reduceToNat] at ho13; rw [← Ny224.out] at ho13))
      replace HO217 := am (Kd.S_elder' (by (with_reducible repeat (first | apply Kd.S_alloc | apply Kd.S_drewN | apply Kd.S_drew)); exact HO217.out) (Kd.R_base ho13) hb)
      have HO226 := am (Kd.R_lower (Kd.R_new' ho13 (Kd.R_lt (ab8 HO220))) (below_size ba_))
      replace HO220 := am (Kd.R_elder' (ab8 HO220) (Kd.R_base ho13) hb)
      replace BK213 := bl_ BK213 hb
      replace BK214 := bl_ BK214 hb
      replace HB := am (below_step ba_ hb)
      clear hb ho13
      refine hK.out _ _ ⟨(blk_cell BK213.out 0).trans rfl, (blk_cell BK213.out 1).trans rfl, (blk_cell BK213.out 2).trans rfl, (blk_cell BK213.out 3).trans rfl, (blk_cell BK213.out 4).trans rfl⟩ (fun hHeld => ?_)
      clear hK K
      refine norm_ (a' := ?_) ?_ ?_
      rotate_left
      ·show Act.put _ (some 10) _ = _
       simp only [Act.put, List.setIfInBounds_toArray, List.set_cons_zero, List.set_cons_succ, i64_w, i32_w]
       rfl
      exact norm_ (by first | (simp only [putAll, Act.put, List.setIfInBounds_toArray, List.set_cons_zero, List.set_cons_succ]; done) | (simp only [putAll, Act.put, List.setIfInBounds_toArray, List.set_cons_zero, List.set_cons_succ]; rfl)) (hJ2_3_7 (v216, v219, v225) _ ⟨hHeld, (by (with_reducible repeat (first | apply Kd.S_alloc | apply Kd.S_drewN | apply Kd.S_drew)); exact HO217.out), (by (with_reducible repeat (first | apply Kd.R_alloc | apply Kd.R_drewN | apply Kd.R_drew)); exact Kd.R_mono HO220.out (fun _ hk => hk.2)), (by (with_reducible repeat (first | apply Kd.R_alloc | apply Kd.R_drewN | apply Kd.R_drew)); exact Kd.R_mono HO226.out (fun _ hk => hk.2)), (ab3 BK213), (ab3 BK214), ba_⟩)
   ·skip
    rintro ⟨v216, v219, v225⟩ w13 ⟨hS_, h0_, h1_, h2_, h3_, h4_, h5_⟩
    have n0_ : Aside0 (Kd.S k53 53 w13 w.heap.size (fun k_ => some k_ ≠ (v219 : Value).ownBlock ∧ some k_ ≠ (v225 : Value).ownBlock) v216 t215) := ⟨h0_⟩
    have n1_ : Aside0 (Kd.R (Kd.int .i64) 3 w13 w.heap.size (fun k_ => some k_ ≠ (v225 : Value).ownBlock) v219 y218) := ⟨h1_⟩
    have n2_ : Aside0 (Kd.R (Kd.int .i64) 3 w13 w.heap.size (fun k_ => some k_ ≠ (v219 : Value).ownBlock) v225 y224) := ⟨h2_⟩
    have n3_ : Aside0 (w13.heap[gb213]? = some (.cells #[.slice A0_0 l0_0.length c0_0, .slice A0_1 l0_1.length c0_1, .slice A0_2 l0_2.length c0_2, .int .i64 a0_3, .int .i64 a0_4] 31 (0, 0))) := ⟨h3_⟩
    have n4_ : Aside0 (w13.heap[gb214]? = some (.cells #[.slice none 0 0, .slice none 0 0, .slice none 0 0, .int .i64 0, .int .i64 0] 31 (0, 0))) := ⟨h4_⟩
    have n5_ : Aside0 (Below w.heap.size w w13) := ⟨h5_⟩
    clear BK213
    clear BK214
    clear HB
    clear h0_ h1_ h2_ h3_ h4_ h5_
    have HO217 := n0_
    have HO220 := n1_
    have HO226 := n2_
    have BK213 := n3_
    have BK214 := n4_
    have HB := n5_
    clear n0_ n1_ n2_ n3_ n4_ n5_
    have hHeld : w13.cell? ⟨gb213, 0, none⟩ = some (.slice A0_0 l0_0.length c0_0) ∧ w13.cell? ⟨gb213, 1, none⟩ = some (.slice A0_1 l0_1.length c0_1) ∧ w13.cell? ⟨gb213, 2, none⟩ = some (.slice A0_2 l0_2.length c0_2) ∧ w13.cell? ⟨gb213, 3, none⟩ = some (.int .i64 a0_3) ∧ w13.cell? ⟨gb213, 4, none⟩ = some (.int .i64 a0_4) := hS_
    refine norm_ (a' := ?_) ?_ ?_
    rotate_left
    ·simp only [putAll, Act.put, List.setIfInBounds_toArray, List.set_cons_zero, List.set_cons_succ]
     rfl
    refine on_ 6 9 HT_ fun K hK => ?_
    refine Kd.R_append_rows_step (Kd.int .i64) (w0 := w) w.heap.size (by rfl) (.tmp 6) (.tmp 8) 23 3 (.int .i64 0) 8 rfl Tryz.underlying23 info3 rfl (by decide) (by omega) v219 y218 l0_1 _ _ _ (fun k_ => some k_ ≠ (v225 : Value).ownBlock) (fun _ => False) rfl rfl ?aO ?aR (fun _ _ h => h) (fun _ h => h.elim) ?aF ?aB ?aS ?aL ?_
    (case aR => repeat (first | exact (Kd.C_below HR0_1.out HB.out) | (with_reducible refine Kd.C_alloc ?_ _) | (with_reducible refine Kd.C_drewN ?_ _) | (with_reducible refine Kd.C_drew ?_)))
    (case aB => exact ba_)
    (case aF => exact (fun k_ hk => Kd.fresh' (Kd.R_lt (ab8 HO226)) k_ hk))
    (case aO => exact (ab8 HO220))
    (case aS => exact (below_size ba_))
    (case aL => have := LMc3.out; omega)
    intro v222 w14 ho hb hg hat
    rw [← Ny221.out] at ho
    replace BK213 := bg_ BK213 hg (Kd.R_ne HO220.out BK213.out (by decide))
    replace BK214 := bg_ BK214 hg (Kd.R_ne HO220.out BK214.out (by decide))
    replace HO217 := am (Kd.S_after (ok := (fun k_ => some k_ ≠ (v225 : Value).ownBlock)) (by (with_reducible repeat (first | apply Kd.S_alloc | apply Kd.S_drewN | apply Kd.S_drew)); exact Kd.S_mono HO217.out (fun _ hk => ⟨hk.2, hk.1⟩)) hg hat)
    replace HO226 := am (Kd.R_after (ok := (fun _ => True)) (by (with_reducible repeat (first | apply Kd.R_alloc | apply Kd.R_drewN | apply Kd.R_drew)); exact Kd.R_mono HO226.out (fun _ hk => ⟨trivial, hk⟩)) hg hat)
    replace HB := am hb
    have HO223 := am ho
    clear HO220
    clear ho hb hg hat
    refine hK.out _ _ ⟨(blk_cell BK213.out 0).trans rfl, (blk_cell BK213.out 1).trans rfl, (blk_cell BK213.out 2).trans rfl, (blk_cell BK213.out 3).trans rfl, (blk_cell BK213.out 4).trans rfl⟩ (fun hHeld => ?_)
    clear hK K
    refine norm_ (a' := ?_) ?_ ?_
    rotate_left
    ·show Act.put _ (some 9) _ = _
     simp only [Act.put, List.setIfInBounds_toArray, List.set_cons_zero, List.set_cons_succ, i64_w, i32_w]
     rfl
    exact norm_ (by first | (simp only [putAll, Act.put, List.setIfInBounds_toArray, List.set_cons_zero, List.set_cons_succ]; done) | (simp only [putAll, Act.put, List.setIfInBounds_toArray, List.set_cons_zero, List.set_cons_succ]; rfl)) (hJ2_3_6_7 (v216, v219, v222, v225) _ ⟨hHeld, (by (with_reducible repeat (first | apply Kd.S_alloc | apply Kd.S_drewN | apply Kd.S_drew)); exact Kd.S_mono HO217.out (fun _ hk => ⟨hk.2, hk.1⟩)), (ab8 HO223), (by (with_reducible repeat (first | apply Kd.R_alloc | apply Kd.R_drewN | apply Kd.R_drew)); exact Kd.R_mono HO226.out (fun _ hk => hk.2)), (ab3 BK213), (ab3 BK214), ba_⟩)
  ·skip
   rintro ⟨v216, v219, v222⟩ w12 ⟨hS_, h0_, h1_, h2_, h3_, h4_⟩
   have n0_ : Aside0 (Kd.S k53 53 w12 w.heap.size (fun k_ => some k_ ≠ (v222 : Value).ownBlock) v216 t215) := ⟨h0_⟩
   have n1_ : Aside0 (Kd.R (Kd.int .i64) 3 w12 w.heap.size (fun _ => True) v222 y221) := ⟨h1_⟩
   have n2_ : Aside0 (w12.heap[gb213]? = some (.cells #[.slice A0_0 l0_0.length c0_0, .slice A0_1 l0_1.length c0_1, .slice A0_2 l0_2.length c0_2, .int .i64 a0_3, .int .i64 a0_4] 31 (0, 0))) := ⟨h2_⟩
   have n3_ : Aside0 (w12.heap[gb214]? = some (.cells #[.slice none 0 0, .slice none 0 0, .slice none 0 0, .int .i64 0, .int .i64 0] 31 (0, 0))) := ⟨h3_⟩
   have n4_ : Aside0 (Below w.heap.size w w12) := ⟨h4_⟩
   clear BK213
   clear BK214
   clear HB
   clear h0_ h1_ h2_ h3_ h4_
   have HO217 := n0_
   have HO223 := n1_
   have BK213 := n2_
   have BK214 := n3_
   have HB := n4_
   clear n0_ n1_ n2_ n3_ n4_
   have hHeld : w12.cell? ⟨gb213, 0, none⟩ = some (.slice A0_0 l0_0.length c0_0) ∧ w12.cell? ⟨gb213, 1, none⟩ = some (.slice A0_1 l0_1.length c0_1) ∧ w12.cell? ⟨gb213, 2, none⟩ = some (.slice A0_2 l0_2.length c0_2) ∧ w12.cell? ⟨gb213, 3, none⟩ = some (.int .i64 a0_3) ∧ w12.cell? ⟨gb213, 4, none⟩ = some (.int .i64 a0_4) := hS_
   refine norm_ (a' := ?_) ?_ ?_
   rotate_left
   ·simp only [putAll, Act.put, List.setIfInBounds_toArray, List.set_cons_zero, List.set_cons_succ]
    rfl
   refine on_ 7 10 HT_ fun K hK => ?_
   refine Kd.R_lit_step (Kd.int .i64) _ 3 ?hg (N := 10) ?hd (xs := ([] : List Int)) (inner := []) (ok := fun _ => True) (okp := fun _ => True) ?hr ?hp (fun _ hk => hk) trivial (Below.refl _ _) (Nat.le_refl _) (by simp) ?_; (case hd => rfl); (case hg => rfl); (case hr => first | (go_simp; done) | (go_simp; rfl)); (case hp => exact (Reps.none _ _))
   intro v225 w13 ho14 hb hg_ hnew_
   clear hg_ hnew_
   (first | rw [← Ny224.out] at ho14 | (simp only [Int.reduceToNat] at ho14; rw [← Ny224.out] at ho14))
   replace HO217 := am (Kd.S_elder' (by (with_reducible repeat (first | apply Kd.S_alloc | apply Kd.S_drewN | apply Kd.S_drew)); exact HO217.out) (Kd.R_base ho14) hb)
   have HO226 := am (Kd.R_lower (Kd.R_new' ho14 (Kd.R_lt (ab8 HO223))) (below_size ba_))
   replace HO223 := am (Kd.R_elder' (ab8 HO223) (Kd.R_base ho14) hb)
   replace BK213 := bl_ BK213 hb
   replace BK214 := bl_ BK214 hb
   replace HB := am (below_step ba_ hb)
   clear hb ho14
   refine hK.out _ _ ⟨(blk_cell BK213.out 0).trans rfl, (blk_cell BK213.out 1).trans rfl, (blk_cell BK213.out 2).trans rfl, (blk_cell BK213.out 3).trans rfl, (blk_cell BK213.out 4).trans rfl⟩ (fun hHeld => ?_)
   clear hK K
   refine norm_ (a' := ?_) ?_ ?_
   rotate_left
   ·show Act.put _ (some 10) _ = _
    simp only [Act.put, List.setIfInBounds_toArray, List.set_cons_zero, List.set_cons_succ, i64_w, i32_w]
    rfl
   exact norm_ (by first | (simp only [putAll, Act.put, List.setIfInBounds_toArray, List.set_cons_zero, List.set_cons_succ]; done) | (simp only [putAll, Act.put, List.setIfInBounds_toArray, List.set_cons_zero, List.set_cons_succ]; rfl)) (hJ2_3_6_7 (v216, v219, v222, v225) _ ⟨hHeld, (by (with_reducible repeat (first | apply Kd.S_alloc | apply Kd.S_drewN | apply Kd.S_drew)); exact HO217.out), (by (with_reducible repeat (first | apply Kd.R_alloc | apply Kd.R_drewN | apply Kd.R_drew)); exact Kd.R_mono HO223.out (fun _ hk => hk.2)), (by (with_reducible repeat (first | apply Kd.R_alloc | apply Kd.R_drewN | apply Kd.R_drew)); exact Kd.R_mono HO226.out (fun _ hk => hk.2)), (ab3 BK213), (ab3 BK214), ba_⟩)
 rintro ⟨v216, v219, v222, v225⟩ w14 ⟨hS_, h0_, h1_, h2_, h3_, h4_, h5_⟩
 have n0_ : Aside0 (Kd.S k53 53 w14 w.heap.size (fun k_ => some k_ ≠ (v222 : Value).ownBlock ∧ some k_ ≠ (v225 : Value).ownBlock) v216 t215) := ⟨h0_⟩
 have n1_ : Aside0 (Kd.R (Kd.int .i64) 3 w14 w.heap.size (fun k_ => some k_ ≠ (v225 : Value).ownBlock) v222 y221) := ⟨h1_⟩
 have n2_ : Aside0 (Kd.R (Kd.int .i64) 3 w14 w.heap.size (fun k_ => some k_ ≠ (v222 : Value).ownBlock) v225 y224) := ⟨h2_⟩
 have n3_ : Aside0 (w14.heap[gb213]? = some (.cells #[.slice A0_0 l0_0.length c0_0, .slice A0_1 l0_1.length c0_1, .slice A0_2 l0_2.length c0_2, .int .i64 a0_3, .int .i64 a0_4] 31 (0, 0))) := ⟨h3_⟩
 have n4_ : Aside0 (w14.heap[gb214]? = some (.cells #[.slice none 0 0, .slice none 0 0, .slice none 0 0, .int .i64 0, .int .i64 0] 31 (0, 0))) := ⟨h4_⟩
 have n5_ : Aside0 (Below w.heap.size w w14) := ⟨h5_⟩
 clear BK213
 clear BK214
 clear HB
 clear h0_ h1_ h2_ h3_ h4_ h5_
 have HO217 := n0_
 have HO223 := n1_
 have HO226 := n2_
 have BK213 := n3_
 have BK214 := n4_
 have HB := n5_
 clear n0_ n1_ n2_ n3_ n4_ n5_
 have hHeld : w14.cell? ⟨gb213, 0, none⟩ = some (.slice A0_0 l0_0.length c0_0) ∧ w14.cell? ⟨gb213, 1, none⟩ = some (.slice A0_1 l0_1.length c0_1) ∧ w14.cell? ⟨gb213, 2, none⟩ = some (.slice A0_2 l0_2.length c0_2) ∧ w14.cell? ⟨gb213, 3, none⟩ = some (.int .i64 a0_3) ∧ w14.cell? ⟨gb213, 4, none⟩ = some (.int .i64 a0_4) := hS_
 refine norm_ (a' := ?_) ?_ ?_
 rotate_left
 ·simp only [putAll, Act.put, List.setIfInBounds_toArray, List.set_cons_zero, List.set_cons_succ]
  rfl
 refine on_ 10 13 HT_ fun K hK => ?_
 refine Kd.R_append_rows_step (Kd.int .i64) (w0 := w) w.heap.size (by rfl) (.tmp 10) (.tmp 12) 23 3 (.int .i64 0) 8 rfl Tryz.underlying23 info3 rfl (by decide) (by omega) v225 y224 l0_2 _ _ _ (fun k_ => some k_ ≠ (v222 : Value).ownBlock) (fun _ => False) rfl rfl ?aO ?aR (fun _ _ h => h) (fun _ h => h.elim) ?aF ?aB ?aS ?aL ?_
 (case aR => repeat (first | exact (Kd.C_below HR0_2.out HB.out) | (with_reducible refine Kd.C_alloc ?_ _) | (with_reducible refine Kd.C_drewN ?_ _) | (with_reducible refine Kd.C_drew ?_)))
 (case aB => exact ba_)
 (case aF => exact (fun k_ hk => Kd.fresh' (Kd.R_lt (ab8 HO223)) k_ hk))
 (case aO => exact (ab8 HO226))
 (case aS => exact (below_size ba_))
 (case aL => have := LMc4.out; omega)
 intro v228 w15 ho hb hg hat
 rw [← Ny227.out] at ho
 replace BK213 := bg_ BK213 hg (Kd.R_ne HO226.out BK213.out (by decide))
 replace BK214 := bg_ BK214 hg (Kd.R_ne HO226.out BK214.out (by decide))
 replace HO217 := am (Kd.S_after (ok := (fun k_ => some k_ ≠ (v222 : Value).ownBlock)) (by (with_reducible repeat (first | apply Kd.S_alloc | apply Kd.S_drewN | apply Kd.S_drew)); exact HO217.out) hg hat)
 replace HO223 := am (Kd.R_after (ok := (fun _ => True)) (by (with_reducible repeat (first | apply Kd.R_alloc | apply Kd.R_drewN | apply Kd.R_drew)); exact Kd.R_mono HO223.out (fun _ hk => ⟨trivial, hk⟩)) hg hat)
 replace HB := am hb
 have HO229 := am ho
 clear HO226
 clear ho hb hg hat
 obtain ⟨Ao16, co16, eo16⟩ := Kd.R_slice HO229.out
 (first | subst eo16 | (injection eo16 with f1_ f2_ f3_; have f4_ := f1_.symm; have f5_ := f3_.symm; clear f1_ f2_ f3_; subst f4_; subst f5_))
 obtain ⟨Ao17, co17, eo17⟩ := Kd.R_slice HO223.out
 (first | subst eo17 | (injection eo17 with f1_ f2_ f3_; have f4_ := f1_.symm; have f5_ := f3_.symm; clear f1_ f2_ f3_; subst f4_; subst f5_))
 obtain ⟨Ao18, co18, eo18⟩ := Kd.S_slice HO217.out
 (first | subst eo18 | (injection eo18 with f1_ f2_ f3_; have f4_ := f1_.symm; have f5_ := f3_.symm; clear f1_ f2_ f3_; subst f4_; subst f5_))
 refine hK.out _ _ ⟨(blk_cell BK213.out 0).trans rfl, (blk_cell BK213.out 1).trans rfl, (blk_cell BK213.out 2).trans rfl, (blk_cell BK213.out 3).trans rfl, (blk_cell BK213.out 4).trans rfl⟩ (fun hHeld => ?_)
 clear hK K
 refine norm_ (a' := ?_) ?_ ?_
 rotate_left
 ·show Act.put _ (some 13) _ = _
  simp only [Act.put, List.setIfInBounds_toArray, List.set_cons_zero, List.set_cons_succ, i64_w, i32_w]
  rfl
 refine pa_ 15 18 HT_ ?_
 refine one_ (i := 16) (N := none) #[true, true, true, true, true, true, true, true, true, true, true, true, true, true, true, true, true] rfl rfl (one_of HT_.out (by kernel_rfl)) (by decide) (fun K hK => ?_)
 have hs19 : w15.cell? ⟨gb214, 0, none⟩ = some (.slice none 0 0) := (blk_cell BK214.out 0).trans rfl
 have hfs19 := blk_frozen BK214.out 0
 have hns19_0 := NB213_214.out
 have hms19_0 := NB214_213.out
 have hs20 : w15.cell? ⟨gb214, 1, none⟩ = some (.slice none 0 0) := (blk_cell BK214.out 1).trans rfl
 have hfs20 := blk_frozen BK214.out 1
 have hns20_0 := NB213_214.out
 have hms20_0 := NB214_213.out
 have hs21 : w15.cell? ⟨gb214, 2, none⟩ = some (.slice none 0 0) := (blk_cell BK214.out 2).trans rfl
 have hfs21 := blk_frozen BK214.out 2
 have hns21_0 := NB213_214.out
 have hms21_0 := NB214_213.out
 have hs22 : w15.cell? ⟨gb214, 3, none⟩ = some (.int .i64 0) := (blk_cell BK214.out 3).trans rfl
 have hfs22 := blk_frozen BK214.out 3
 have hns22_0 := NB213_214.out
 have hms22_0 := NB214_213.out
 have hs23 : w15.cell? ⟨gb214, 4, none⟩ = some (.int .i64 0) := (blk_cell BK214.out 4).trans rfl
 have hfs23 := blk_frozen BK214.out 4
 have hns23_0 := NB213_214.out
 have hms23_0 := NB214_213.out
 refine skip_ (w1 := ?_) (by rfl) rfl ?_ ?_
 rotate_left
 ·go_simp
  rfl
 refine hK.out _ _ ⟨((cell_far (p := ⟨gb214, _, none⟩) NB213_214.out _).trans (((cell_far (p := ⟨gb214, _, none⟩) NB213_214.out _).trans (((cell_far (p := ⟨gb214, _, none⟩) NB213_214.out _).trans (((cell_far (p := ⟨gb214, _, none⟩) NB213_214.out _).trans (((cell_far (p := ⟨gb214, _, none⟩) NB213_214.out _).trans (hHeld.1)))))))))), ((cell_far (p := ⟨gb214, _, none⟩) NB213_214.out _).trans (((cell_far (p := ⟨gb214, _, none⟩) NB213_214.out _).trans (((cell_far (p := ⟨gb214, _, none⟩) NB213_214.out _).trans (((cell_far (p := ⟨gb214, _, none⟩) NB213_214.out _).trans (((cell_far (p := ⟨gb214, _, none⟩) NB213_214.out _).trans (hHeld.2.1)))))))))), ((cell_far (p := ⟨gb214, _, none⟩) NB213_214.out _).trans (((cell_far (p := ⟨gb214, _, none⟩) NB213_214.out _).trans (((cell_far (p := ⟨gb214, _, none⟩) NB213_214.out _).trans (((cell_far (p := ⟨gb214, _, none⟩) NB213_214.out _).trans (((cell_far (p := ⟨gb214, _, none⟩) NB213_214.out _).trans (hHeld.2.2.1)))))))))), ((cell_far (p := ⟨gb214, _, none⟩) NB213_214.out _).trans (((cell_far (p := ⟨gb214, _, none⟩) NB213_214.out _).trans (((cell_far (p := ⟨gb214, _, none⟩) NB213_214.out _).trans (((cell_far (p := ⟨gb214, _, none⟩) NB213_214.out _).trans (((cell_far (p := ⟨gb214, _, none⟩) NB213_214.out _).trans (hHeld.2.2.2.1)))))))))), ((cell_far (p := ⟨gb214, _, none⟩) NB213_214.out _).trans (((cell_far (p := ⟨gb214, _, none⟩) NB213_214.out _).trans (((cell_far (p := ⟨gb214, _, none⟩) NB213_214.out _).trans (((cell_far (p := ⟨gb214, _, none⟩) NB213_214.out _).trans (((cell_far (p := ⟨gb214, _, none⟩) NB213_214.out _).trans (hHeld.2.2.2.2))))))))))⟩ (fun hHeld => ?_)
 clear hK K
 refine dn_ HT_ ?_
 try go_wp2
 refine bodyPost_ret (results_cell_row rfl _ _ gb214 31 #[.slice Ao18 t215.length co18, .slice Ao17 y221.length co17, .slice Ao16 y227.length co16, .int .i64 a0_3, .int .i64 a0_4] (0, 0) _ rfl (bq_ BK214) Tryz.underlying31 rfl (by kernel_rfl)) rfl ?_
 exact ⟨_, _, _, ab7, by (with_reducible repeat (first | apply Kd.S_alloc | apply Kd.S_drewN | apply Kd.S_drew)); exact Kd.S_mono (Kd.S_far (p := ⟨gb214, 4, none⟩) (Kd.S_far (p := ⟨gb214, 3, none⟩) (Kd.S_far (p := ⟨gb214, 2, none⟩) (Kd.S_far (p := ⟨gb214, 1, none⟩) (Kd.S_far (p := ⟨gb214, 0, none⟩) (Kd.S_types HO217.out BK214.out (by decide)) (fun _ hk => hk.2) (.slice Ao18 t215.length co18)) (fun _ hk => hk.2) (.slice Ao17 y221.length co17)) (fun _ hk => hk.2) (.slice Ao16 y227.length co16)) (fun _ hk => hk.2) (.int .i64 a0_3)) (fun _ hk => hk.2) (.int .i64 a0_4)) (fun _ hk => ⟨hk.1.1, hk.1.2⟩), by (with_reducible repeat (first | apply Kd.R_alloc | apply Kd.R_drewN | apply Kd.R_drew)); exact Kd.R_mono (Kd.R_far (p := ⟨gb214, 4, none⟩) (Kd.R_far (p := ⟨gb214, 3, none⟩) (Kd.R_far (p := ⟨gb214, 2, none⟩) (Kd.R_far (p := ⟨gb214, 1, none⟩) (Kd.R_far (p := ⟨gb214, 0, none⟩) (Kd.R_types HO223.out BK214.out (by decide)) (fun _ hk => hk.2) (.slice Ao18 t215.length co18)) (fun _ hk => hk.2) (.slice Ao17 y221.length co17)) (fun _ hk => hk.2) (.slice Ao16 y227.length co16)) (fun _ hk => hk.2) (.int .i64 a0_3)) (fun _ hk => hk.2) (.int .i64 a0_4)) (fun _ hk => hk.1.2), by (with_reducible repeat (first | apply Kd.R_alloc | apply Kd.R_drewN | apply Kd.R_drew)); exact Kd.R_mono (Kd.R_far (p := ⟨gb214, 4, none⟩) (Kd.R_far (p := ⟨gb214, 3, none⟩) (Kd.R_far (p := ⟨gb214, 2, none⟩) (Kd.R_far (p := ⟨gb214, 1, none⟩) (Kd.R_far (p := ⟨gb214, 0, none⟩) (Kd.R_types HO229.out BK214.out (by decide)) (fun _ hk => hk.2) (.slice Ao18 t215.length co18)) (fun _ hk => hk.2) (.slice Ao17 y221.length co17)) (fun _ hk => hk.2) (.slice Ao16 y227.length co16)) (fun _ hk => hk.2) (.int .i64 a0_3)) (fun _ hk => hk.2) (.int .i64 a0_4)) (fun _ hk => hk.1), ba_⟩
def spec_l8Name.f (l0_0 : List (S53)) (l0_1 : List Int) (l0_2 : List Int) (a0_3 : Int) (a0_4 : Int) (a1 : Int) : Option (ByteArray) := if a1 < 0 then (some (⟨#[]⟩ : ByteArray)) else (if a1 ≥ (l0_1.length : Int) then (some (⟨#[]⟩ : ByteArray)) else (if 0 ≤ a1 then (if a1 < (l0_1.length : Int) then (if (rd l0_1 a1) < 0 then (some (⟨#[]⟩ : ByteArray)) else (if (rd l0_1 a1) ≥ (l0_0.length : Int) then (some (⟨#[]⟩ : ByteArray)) else (if 0 ≤ (rd l0_1 a1) then (if (rd l0_1 a1) < (l0_0.length : Int) then (some ((rd_T53 l0_0 (rd l0_1 a1)).f2)) else (none)) else (none)))) else (none)) else (none)))
theorem spec_l8Name.calls (A0_0 : Option Addr) (c0_0 : Nat) (l0_0 : List (S53)) (A0_1 : Option Addr) (c0_1 : Nat) (l0_1 : List Int) (A0_2 : Option Addr) (c0_2 : Nat) (l0_2 : List Int) (a0_3 : Int) (a0_4 : Int) (a1 : Int) (r : ByteArray) (w : World) (hr0_0 : Kd.C k53 w A0_0 l0_0.length l0_0) (hc0_0 : l0_0.length ≤ c0_0) (hr0_1 : Kd.C (Kd.int .i64) w A0_1 l0_1.length l0_1) (hc0_1 : l0_1.length ≤ c0_1) (hr0_2 : Kd.C (Kd.int .i64) w A0_2 l0_2.length l0_2) (hc0_2 : l0_2.length ≤ c0_2) (h : spec_l8Name.f l0_0 l0_1 l0_2 a0_3 a0_4 a1 = some r) :
  Calls Tryz.prog 104 #[.agg #[.slice A0_0 l0_0.length c0_0, .slice A0_1 l0_1.length c0_1, .slice A0_2 l0_2.length c0_2, .int .i64 a0_3, .int .i64 a0_4], .int .i64 a1] w fun e w' => e = .returned (.string r) ∧ Below w.heap.size w w' := by
 have hu31 := Tryz.underlying31
 have HR0_0 := am hr0_0
 have HC0_0 := am hc0_0
 clear hr0_0 hc0_0
 have HR0_1 := am hr0_1
 have HC0_1 := am hc0_1
 clear hr0_1 hc0_1
 have HR0_2 := am hr0_2
 have HC0_2 := am hc0_2
 clear hr0_2 hc0_2
 have HB := am (Below.refl w.heap.size w)
 have H : (if a1 < 0 then (some (⟨#[]⟩ : ByteArray)) else (if a1 ≥ (l0_1.length : Int) then (some (⟨#[]⟩ : ByteArray)) else (if 0 ≤ a1 then (if a1 < (l0_1.length : Int) then (if (rd l0_1 a1) < 0 then (some (⟨#[]⟩ : ByteArray)) else (if (rd l0_1 a1) ≥ (l0_0.length : Int) then (some (⟨#[]⟩ : ByteArray)) else (if 0 ≤ (rd l0_1 a1) then (if (rd l0_1 a1) < (l0_0.length : Int) then (some ((rd_T53 l0_0 (rd l0_1 a1)).f2)) else (none)) else (none)))) else (none)) else (none)))) = some r := h
 clear h
 replace H := ir_ H; rcases H with ⟨c3b0, H⟩ | ⟨c3b0, H⟩
 ·obtain rfl := Option.some.inj H
  go_enter Tryz.func104, Tryz.ntmps104
  go_wp2_with (first | ((with_reducible refine gd_ 2 ?_); (try (refine gate_guard (by rfl) ?_; dsimp only)); refine bx_ 2 (cs := #[.slice A0_0 l0_0.length c0_0, .slice A0_1 l0_1.length c0_1, .slice A0_2 l0_2.length c0_2, .int .i64 a0_3, .int .i64 a0_4]) 31 ?_; intro gb230 hg w4 hbox hb; have BK230 := am hbox; have GW230 := ge_ (w := w) hg; have GE230 := ge_ (w := w) hg; replace HB := am (below_step ab1 hb); clear hb hbox hg))
  repeat (go_quiet (first | ((with_reducible refine gd_ 2 ?_); (try (refine gate_guard (by rfl) ?_; dsimp only)); refine bx_ 2 (cs := #[.slice A0_0 l0_0.length c0_0, .slice A0_1 l0_1.length c0_1, .slice A0_2 l0_2.length c0_2, .int .i64 a0_3, .int .i64 a0_4]) 31 ?_; intro gb230 hg w4 hbox hb; have BK230 := am hbox; have GW230 := ge_ (w := w) hg; have GE230 := ge_ (w := w) hg; replace HB := am (below_step ab1 hb); clear hb hbox hg)); try go_wp2_with (first | ((with_reducible refine gd_ 2 ?_); (try (refine gate_guard (by rfl) ?_; dsimp only)); refine bx_ 2 (cs := #[.slice A0_0 l0_0.length c0_0, .slice A0_1 l0_1.length c0_1, .slice A0_2 l0_2.length c0_2, .int .i64 a0_3, .int .i64 a0_4]) 31 ?_; intro gb230 hg w4 hbox hb; have BK230 := am hbox; have GW230 := ge_ (w := w) hg; have GE230 := ge_ (w := w) hg; replace HB := am (below_step ab1 hb); clear hb hbox hg)))
  go_ret
  exact ⟨ab7, ab2 GE230⟩
 ·by_cases c5 : a1 ≥ (l0_1.length : Int)
  ·rw [if_pos c5] at H
   have c5b0 : decide ((l0_1.length : Int) ≤ a1) = true := decide_eq_true c5
   clear c5
   obtain rfl := Option.some.inj H
   go_enter Tryz.func104, Tryz.ntmps104
   go_wp2_with (first | ((with_reducible refine gd_ 2 ?_); (try (refine gate_guard (by rfl) ?_; dsimp only)); refine bx_ 2 (cs := #[.slice A0_0 l0_0.length c0_0, .slice A0_1 l0_1.length c0_1, .slice A0_2 l0_2.length c0_2, .int .i64 a0_3, .int .i64 a0_4]) 31 ?_; intro gb230 hg w6 hbox hb; have BK230 := am hbox; have GW230 := ge_ (w := w) hg; have GE230 := ge_ (w := w) hg; replace HB := am (below_step ab1 hb); clear hb hbox hg; obtain ⟨⟨_, _, _, _, _⟩, _, _, _, _, _⟩ := Op.cells5 BK230.out))
   repeat (go_quiet (first | ((with_reducible refine gd_ 2 ?_); (try (refine gate_guard (by rfl) ?_; dsimp only)); refine bx_ 2 (cs := #[.slice A0_0 l0_0.length c0_0, .slice A0_1 l0_1.length c0_1, .slice A0_2 l0_2.length c0_2, .int .i64 a0_3, .int .i64 a0_4]) 31 ?_; intro gb230 hg w6 hbox hb; have BK230 := am hbox; have GW230 := ge_ (w := w) hg; have GE230 := ge_ (w := w) hg; replace HB := am (below_step ab1 hb); clear hb hbox hg; obtain ⟨⟨_, _, _, _, _⟩, _, _, _, _, _⟩ := Op.cells5 BK230.out)); try go_wp2_with (first | ((with_reducible refine gd_ 2 ?_); (try (refine gate_guard (by rfl) ?_; dsimp only)); refine bx_ 2 (cs := #[.slice A0_0 l0_0.length c0_0, .slice A0_1 l0_1.length c0_1, .slice A0_2 l0_2.length c0_2, .int .i64 a0_3, .int .i64 a0_4]) 31 ?_; intro gb230 hg w6 hbox hb; have BK230 := am hbox; have GW230 := ge_ (w := w) hg; have GE230 := ge_ (w := w) hg; replace HB := am (below_step ab1 hb); clear hb hbox hg; obtain ⟨⟨_, _, _, _, _⟩, _, _, _, _, _⟩ := Op.cells5 BK230.out)))
   go_ret
   exact ⟨ab7, ab2 GE230⟩
  ·rw [if_neg c5] at H
   have c5b0 : decide ((l0_1.length : Int) ≤ a1) = false := decide_eq_false c5
   clear c5
   replace H := iq_ H; obtain ⟨c8b0, H⟩ := H
   replace H := iq_ H; obtain ⟨c9b0, H⟩ := H
   replace H := ir_ H; rcases H with ⟨c10b0, H⟩ | ⟨c10b0, H⟩
   ·obtain rfl := Option.some.inj H
    go_enter Tryz.func104, Tryz.ntmps104
    go_wp2_with (first | ((with_reducible refine gd_ 2 ?_); (try (refine gate_guard (by rfl) ?_; dsimp only)); refine bx_ 2 (cs := #[.slice A0_0 l0_0.length c0_0, .slice A0_1 l0_1.length c0_1, .slice A0_2 l0_2.length c0_2, .int .i64 a0_3, .int .i64 a0_4]) 31 ?_; intro gb230 hg w11 hbox hb; have BK230 := am hbox; have GW230 := ge_ (w := w) hg; have GE230 := ge_ (w := w) hg; replace HB := am (below_step ab1 hb); clear hb hbox hg; obtain ⟨⟨_, _, _, _, _⟩, _, _, _, _, _⟩ := Op.cells5 BK230.out; have p231 : 0 ≤ (a1 : Int) := of_decide_eq_true ab4; have q231 : a1 < (l0_1.length : Int) := of_decide_eq_true ab4; obtain ⟨ad231, e231, hx231_0⟩ := Kd.at_int HR0_1.out a1 p231 q231; cases e231; replace hx231_0 := pc_ HB hx231_0; replace p231 := eq_true p231; replace q231 := eq_true q231))
    repeat (go_quiet (first | ((with_reducible refine gd_ 2 ?_); (try (refine gate_guard (by rfl) ?_; dsimp only)); refine bx_ 2 (cs := #[.slice A0_0 l0_0.length c0_0, .slice A0_1 l0_1.length c0_1, .slice A0_2 l0_2.length c0_2, .int .i64 a0_3, .int .i64 a0_4]) 31 ?_; intro gb230 hg w11 hbox hb; have BK230 := am hbox; have GW230 := ge_ (w := w) hg; have GE230 := ge_ (w := w) hg; replace HB := am (below_step ab1 hb); clear hb hbox hg; obtain ⟨⟨_, _, _, _, _⟩, _, _, _, _, _⟩ := Op.cells5 BK230.out; have p231 : 0 ≤ (a1 : Int) := of_decide_eq_true ab4; have q231 : a1 < (l0_1.length : Int) := of_decide_eq_true ab4; obtain ⟨ad231, e231, hx231_0⟩ := Kd.at_int HR0_1.out a1 p231 q231; cases e231; replace hx231_0 := pc_ HB hx231_0; replace p231 := eq_true p231; replace q231 := eq_true q231)); try go_wp2_with (first | ((with_reducible refine gd_ 2 ?_); (try (refine gate_guard (by rfl) ?_; dsimp only)); refine bx_ 2 (cs := #[.slice A0_0 l0_0.length c0_0, .slice A0_1 l0_1.length c0_1, .slice A0_2 l0_2.length c0_2, .int .i64 a0_3, .int .i64 a0_4]) 31 ?_; intro gb230 hg w11 hbox hb; have BK230 := am hbox; have GW230 := ge_ (w := w) hg; have GE230 := ge_ (w := w) hg; replace HB := am (below_step ab1 hb); clear hb hbox hg; obtain ⟨⟨_, _, _, _, _⟩, _, _, _, _, _⟩ := Op.cells5 BK230.out; have p231 : 0 ≤ (a1 : Int) := of_decide_eq_true ab4; have q231 : a1 < (l0_1.length : Int) := of_decide_eq_true ab4; obtain ⟨ad231, e231, hx231_0⟩ := Kd.at_int HR0_1.out a1 p231 q231; cases e231; replace hx231_0 := pc_ HB hx231_0; replace p231 := eq_true p231; replace q231 := eq_true q231)))
    go_ret
    exact ⟨ab7, ab2 GE230⟩
   ·by_cases c13 : (rd l0_1 a1) ≥ (l0_0.length : Int)
    ·rw [if_pos c13] at H
     have c13b0 : decide ((l0_0.length : Int) ≤ (rd l0_1 a1)) = true := decide_eq_true c13
     clear c13
     obtain rfl := Option.some.inj H
     go_enter Tryz.func104, Tryz.ntmps104
     go_wp2_with (first | ((with_reducible refine gd_ 2 ?_); (try (refine gate_guard (by rfl) ?_; dsimp only)); refine bx_ 2 (cs := #[.slice A0_0 l0_0.length c0_0, .slice A0_1 l0_1.length c0_1, .slice A0_2 l0_2.length c0_2, .int .i64 a0_3, .int .i64 a0_4]) 31 ?_; intro gb230 hg w14 hbox hb; have BK230 := am hbox; have GW230 := ge_ (w := w) hg; have GE230 := ge_ (w := w) hg; replace HB := am (below_step ab1 hb); clear hb hbox hg; obtain ⟨⟨_, _, _, _, _⟩, _, _, _, _, _⟩ := Op.cells5 BK230.out; have p231 : 0 ≤ (a1 : Int) := of_decide_eq_true ab4; have q231 : a1 < (l0_1.length : Int) := of_decide_eq_true ab4; obtain ⟨ad231, e231, hx231_0⟩ := Kd.at_int HR0_1.out a1 p231 q231; cases e231; replace hx231_0 := pc_ HB hx231_0; replace p231 := eq_true p231; replace q231 := eq_true q231; have p232 : 0 ≤ (a1 : Int) := of_decide_eq_true ab4; have q232 : a1 < (l0_1.length : Int) := of_decide_eq_true ab4; obtain ⟨ad232, e232, hx232_0⟩ := Kd.at_int HR0_1.out a1 p232 q232; obtain rfl : ad231 = ad232 := (by injection e232); replace hx232_0 := pc_ HB hx232_0; replace p232 := eq_true p232; replace q232 := eq_true q232))
     repeat (go_quiet (first | ((with_reducible refine gd_ 2 ?_); (try (refine gate_guard (by rfl) ?_; dsimp only)); refine bx_ 2 (cs := #[.slice A0_0 l0_0.length c0_0, .slice A0_1 l0_1.length c0_1, .slice A0_2 l0_2.length c0_2, .int .i64 a0_3, .int .i64 a0_4]) 31 ?_; intro gb230 hg w14 hbox hb; have BK230 := am hbox; have GW230 := ge_ (w := w) hg; have GE230 := ge_ (w := w) hg; replace HB := am (below_step ab1 hb); clear hb hbox hg; obtain ⟨⟨_, _, _, _, _⟩, _, _, _, _, _⟩ := Op.cells5 BK230.out; have p231 : 0 ≤ (a1 : Int) := of_decide_eq_true ab4; have q231 : a1 < (l0_1.length : Int) := of_decide_eq_true ab4; obtain ⟨ad231, e231, hx231_0⟩ := Kd.at_int HR0_1.out a1 p231 q231; cases e231; replace hx231_0 := pc_ HB hx231_0; replace p231 := eq_true p231; replace q231 := eq_true q231; have p232 : 0 ≤ (a1 : Int) := of_decide_eq_true ab4; have q232 : a1 < (l0_1.length : Int) := of_decide_eq_true ab4; obtain ⟨ad232, e232, hx232_0⟩ := Kd.at_int HR0_1.out a1 p232 q232; obtain rfl : ad231 = ad232 := (by injection e232); replace hx232_0 := pc_ HB hx232_0; replace p232 := eq_true p232; replace q232 := eq_true q232)); try go_wp2_with (first | ((with_reducible refine gd_ 2 ?_); (try (refine gate_guard (by rfl) ?_; dsimp only)); refine bx_ 2 (cs := #[.slice A0_0 l0_0.length c0_0, .slice A0_1 l0_1.length c0_1, .slice A0_2 l0_2.length c0_2, .int .i64 a0_3, .int .i64 a0_4]) 31 ?_; intro gb230 hg w14 hbox hb; have BK230 := am hbox; have GW230 := ge_ (w := w) hg; have GE230 := ge_ (w := w) hg; replace HB := am (below_step ab1 hb); clear hb hbox hg; obtain ⟨⟨_, _, _, _, _⟩, _, _, _, _, _⟩ := Op.cells5 BK230.out; have p231 : 0 ≤ (a1 : Int) := of_decide_eq_true ab4; have q231 : a1 < (l0_1.length : Int) := of_decide_eq_true ab4; obtain ⟨ad231, e231, hx231_0⟩ := Kd.at_int HR0_1.out a1 p231 q231; cases e231; replace hx231_0 := pc_ HB hx231_0; replace p231 := eq_true p231; replace q231 := eq_true q231; have p232 : 0 ≤ (a1 : Int) := of_decide_eq_true ab4; have q232 : a1 < (l0_1.length : Int) := of_decide_eq_true ab4; obtain ⟨ad232, e232, hx232_0⟩ := Kd.at_int HR0_1.out a1 p232 q232; obtain rfl : ad231 = ad232 := (by injection e232); replace hx232_0 := pc_ HB hx232_0; replace p232 := eq_true p232; replace q232 := eq_true q232)))
     go_ret
     exact ⟨ab7, ab2 GE230⟩
    ·rw [if_neg c13] at H
     have c13b0 : decide ((l0_0.length : Int) ≤ (rd l0_1 a1)) = false := decide_eq_false c13
     clear c13
     replace H := iq_ H; obtain ⟨c16b0, H⟩ := H
     replace H := iq_ H; obtain ⟨c17b0, H⟩ := H
     obtain rfl := Option.some.inj H
     go_enter Tryz.func104, Tryz.ntmps104
     go_wp2_with (first | ((with_reducible refine gd_ 2 ?_); (try (refine gate_guard (by rfl) ?_; dsimp only)); refine bx_ 2 (cs := #[.slice A0_0 l0_0.length c0_0, .slice A0_1 l0_1.length c0_1, .slice A0_2 l0_2.length c0_2, .int .i64 a0_3, .int .i64 a0_4]) 31 ?_; intro gb230 hg w18 hbox hb; have BK230 := am hbox; have GW230 := ge_ (w := w) hg; have GE230 := ge_ (w := w) hg; replace HB := am (below_step ab1 hb); clear hb hbox hg; obtain ⟨⟨_, _, _, _, _⟩, _, _, _, _, _⟩ := Op.cells5 BK230.out; have p231 : 0 ≤ (a1 : Int) := of_decide_eq_true ab4; have q231 : a1 < (l0_1.length : Int) := of_decide_eq_true ab4; obtain ⟨ad231, e231, hx231_0⟩ := Kd.at_int HR0_1.out a1 p231 q231; cases e231; replace hx231_0 := pc_ HB hx231_0; replace p231 := eq_true p231; replace q231 := eq_true q231; have p232 : 0 ≤ (a1 : Int) := of_decide_eq_true ab4; have q232 : a1 < (l0_1.length : Int) := of_decide_eq_true ab4; obtain ⟨ad232, e232, hx232_0⟩ := Kd.at_int HR0_1.out a1 p232 q232; obtain rfl : ad231 = ad232 := (by injection e232); replace hx232_0 := pc_ HB hx232_0; replace p232 := eq_true p232; replace q232 := eq_true q232; have p233 : 0 ≤ (a1 : Int) := of_decide_eq_true ab4; have q233 : a1 < (l0_1.length : Int) := of_decide_eq_true ab4; obtain ⟨ad233, e233, hx233_0⟩ := Kd.at_int HR0_1.out a1 p233 q233; obtain rfl : ad231 = ad233 := (by injection e233); replace hx233_0 := pc_ HB hx233_0; replace p233 := eq_true p233; replace q233 := eq_true q233; have p234 : 0 ≤ ((rd l0_1 a1) : Int) := of_decide_eq_true ab4; have q234 : (rd l0_1 a1) < (l0_0.length : Int) := of_decide_eq_true ab4; obtain ⟨ad234, A234_3, c234_3, A234_6, c234_6, e234, hx234_0, hx234_1, hx234_2, hx234_3, hx234_4, hx234_5, hx234_6, hl234_3, hi234_3, hl234_6, hi234_6⟩ := at_T53 HR0_0.out (rd l0_1 a1) p234 q234; cases e234; replace hx234_0 := pc_ HB hx234_0; replace hx234_1 := pc_ HB hx234_1; replace hx234_2 := pc_ HB hx234_2; replace hx234_3 := pc_ HB hx234_3; replace hx234_4 := pc_ HB hx234_4; replace hx234_5 := pc_ HB hx234_5; replace hx234_6 := pc_ HB hx234_6; have HR234_3 := am hi234_3; have HC234_3 := am hl234_3; clear hi234_3 hl234_3; have HR234_6 := am hi234_6; have HC234_6 := am hl234_6; clear hi234_6 hl234_6; replace p234 := eq_true p234; replace q234 := eq_true q234))
     repeat (go_quiet (first | ((with_reducible refine gd_ 2 ?_); (try (refine gate_guard (by rfl) ?_; dsimp only)); refine bx_ 2 (cs := #[.slice A0_0 l0_0.length c0_0, .slice A0_1 l0_1.length c0_1, .slice A0_2 l0_2.length c0_2, .int .i64 a0_3, .int .i64 a0_4]) 31 ?_; intro gb230 hg w18 hbox hb; have BK230 := am hbox; have GW230 := ge_ (w := w) hg; have GE230 := ge_ (w := w) hg; replace HB := am (below_step ab1 hb); clear hb hbox hg; obtain ⟨⟨_, _, _, _, _⟩, _, _, _, _, _⟩ := Op.cells5 BK230.out; have p231 : 0 ≤ (a1 : Int) := of_decide_eq_true ab4; have q231 : a1 < (l0_1.length : Int) := of_decide_eq_true ab4; obtain ⟨ad231, e231, hx231_0⟩ := Kd.at_int HR0_1.out a1 p231 q231; cases e231; replace hx231_0 := pc_ HB hx231_0; replace p231 := eq_true p231; replace q231 := eq_true q231; have p232 : 0 ≤ (a1 : Int) := of_decide_eq_true ab4; have q232 : a1 < (l0_1.length : Int) := of_decide_eq_true ab4; obtain ⟨ad232, e232, hx232_0⟩ := Kd.at_int HR0_1.out a1 p232 q232; obtain rfl : ad231 = ad232 := (by injection e232); replace hx232_0 := pc_ HB hx232_0; replace p232 := eq_true p232; replace q232 := eq_true q232; have p233 : 0 ≤ (a1 : Int) := of_decide_eq_true ab4; have q233 : a1 < (l0_1.length : Int) := of_decide_eq_true ab4; obtain ⟨ad233, e233, hx233_0⟩ := Kd.at_int HR0_1.out a1 p233 q233; obtain rfl : ad231 = ad233 := (by injection e233); replace hx233_0 := pc_ HB hx233_0; replace p233 := eq_true p233; replace q233 := eq_true q233; have p234 : 0 ≤ ((rd l0_1 a1) : Int) := of_decide_eq_true ab4; have q234 : (rd l0_1 a1) < (l0_0.length : Int) := of_decide_eq_true ab4; obtain ⟨ad234, A234_3, c234_3, A234_6, c234_6, e234, hx234_0, hx234_1, hx234_2, hx234_3, hx234_4, hx234_5, hx234_6, hl234_3, hi234_3, hl234_6, hi234_6⟩ := at_T53 HR0_0.out (rd l0_1 a1) p234 q234; cases e234; replace hx234_0 := pc_ HB hx234_0; replace hx234_1 := pc_ HB hx234_1; replace hx234_2 := pc_ HB hx234_2; replace hx234_3 := pc_ HB hx234_3; replace hx234_4 := pc_ HB hx234_4; replace hx234_5 := pc_ HB hx234_5; replace hx234_6 := pc_ HB hx234_6; have HR234_3 := am hi234_3; have HC234_3 := am hl234_3; clear hi234_3 hl234_3; have HR234_6 := am hi234_6; have HC234_6 := am hl234_6; clear hi234_6 hl234_6; replace p234 := eq_true p234; replace q234 := eq_true q234)); try go_wp2_with (first | ((with_reducible refine gd_ 2 ?_); (try (refine gate_guard (by rfl) ?_; dsimp only)); refine bx_ 2 (cs := #[.slice A0_0 l0_0.length c0_0, .slice A0_1 l0_1.length c0_1, .slice A0_2 l0_2.length c0_2, .int .i64 a0_3, .int .i64 a0_4]) 31 ?_; intro gb230 hg w18 hbox hb; have BK230 := am hbox; have GW230 := ge_ (w := w) hg; have GE230 := ge_ (w := w) hg; replace HB := am (below_step ab1 hb); clear hb hbox hg; obtain ⟨⟨_, _, _, _, _⟩, _, _, _, _, _⟩ := Op.cells5 BK230.out; have p231 : 0 ≤ (a1 : Int) := of_decide_eq_true ab4; have q231 : a1 < (l0_1.length : Int) := of_decide_eq_true ab4; obtain ⟨ad231, e231, hx231_0⟩ := Kd.at_int HR0_1.out a1 p231 q231; cases e231; replace hx231_0 := pc_ HB hx231_0; replace p231 := eq_true p231; replace q231 := eq_true q231; have p232 : 0 ≤ (a1 : Int) := of_decide_eq_true ab4; have q232 : a1 < (l0_1.length : Int) := of_decide_eq_true ab4; obtain ⟨ad232, e232, hx232_0⟩ := Kd.at_int HR0_1.out a1 p232 q232; obtain rfl : ad231 = ad232 := (by injection e232); replace hx232_0 := pc_ HB hx232_0; replace p232 := eq_true p232; replace q232 := eq_true q232; have p233 : 0 ≤ (a1 : Int) := of_decide_eq_true ab4; have q233 : a1 < (l0_1.length : Int) := of_decide_eq_true ab4; obtain ⟨ad233, e233, hx233_0⟩ := Kd.at_int HR0_1.out a1 p233 q233; obtain rfl : ad231 = ad233 := (by injection e233); replace hx233_0 := pc_ HB hx233_0; replace p233 := eq_true p233; replace q233 := eq_true q233; have p234 : 0 ≤ ((rd l0_1 a1) : Int) := of_decide_eq_true ab4; have q234 : (rd l0_1 a1) < (l0_0.length : Int) := of_decide_eq_true ab4; obtain ⟨ad234, A234_3, c234_3, A234_6, c234_6, e234, hx234_0, hx234_1, hx234_2, hx234_3, hx234_4, hx234_5, hx234_6, hl234_3, hi234_3, hl234_6, hi234_6⟩ := at_T53 HR0_0.out (rd l0_1 a1) p234 q234; cases e234; replace hx234_0 := pc_ HB hx234_0; replace hx234_1 := pc_ HB hx234_1; replace hx234_2 := pc_ HB hx234_2; replace hx234_3 := pc_ HB hx234_3; replace hx234_4 := pc_ HB hx234_4; replace hx234_5 := pc_ HB hx234_5; replace hx234_6 := pc_ HB hx234_6; have HR234_3 := am hi234_3; have HC234_3 := am hl234_3; clear hi234_3 hl234_3; have HR234_6 := am hi234_6; have HC234_6 := am hl234_6; clear hi234_6 hl234_6; replace p234 := eq_true p234; replace q234 := eq_true q234)))
     go_ret
     exact ⟨ab7, ab2 GE230⟩
def spec_l8Find.l0 : Nat → ByteArray → Int → List (S53) → List Int → List Int → Int → Int → Option (Int)
 | 0, _, _, _, _, _, _, _ => none
 | k + 1, x1, x5, x236000, x236001, x236002, x236003, x236004 => if x5 ≥ 0 then ((spec_l8Name.f x236000 x236001 x236002 x236003 x236004 x5).bind fun t236 => (if t236.toList = x1.toList then (some x5) else (spec_l8Find.l0 k x1 (wrap64 (x5 - 1)) x236000 x236001 x236002 x236003 x236004))) else (some x5)
def spec_l8Find.f (k : Nat) (l0_0 : List (S53)) (l0_1 : List Int) (l0_2 : List Int) (a0_3 : Int) (a0_4 : Int) (a1 : ByteArray) : Option (Int) := spec_l8Find.l0 k a1 (wrap64 ((l0_1.length : Int) - 1)) l0_0 l0_1 l0_2 a0_3 a0_4
theorem spec_l8Find.calls (k : Nat) (A0_0 : Option Addr) (c0_0 : Nat) (l0_0 : List (S53)) (A0_1 : Option Addr) (c0_1 : Nat) (l0_1 : List Int) (A0_2 : Option Addr) (c0_2 : Nat) (l0_2 : List Int) (a0_3 : Int) (a0_4 : Int) (a1 : ByteArray) (r : Int) (w : World) (hr0_0 : Kd.C k53 w A0_0 l0_0.length l0_0) (hc0_0 : l0_0.length ≤ c0_0) (hr0_1 : Kd.C (Kd.int .i64) w A0_1 l0_1.length l0_1) (hc0_1 : l0_1.length ≤ c0_1) (hr0_2 : Kd.C (Kd.int .i64) w A0_2 l0_2.length l0_2) (hc0_2 : l0_2.length ≤ c0_2) (h : spec_l8Find.f k l0_0 l0_1 l0_2 a0_3 a0_4 a1 = some r) :
  Calls Tryz.prog 83 #[.agg #[.slice A0_0 l0_0.length c0_0, .slice A0_1 l0_1.length c0_1, .slice A0_2 l0_2.length c0_2, .int .i64 a0_3, .int .i64 a0_4], .string a1] w fun e w' => e = .returned (.int .i64 r) ∧ Below w.heap.size w w' := by
 have hu31 := Tryz.underlying31
 have HR0_0 := am hr0_0
 have HC0_0 := am hc0_0
 clear hr0_0 hc0_0
 have HR0_1 := am hr0_1
 have HC0_1 := am hc0_1
 clear hr0_1 hc0_1
 have HR0_2 := am hr0_2
 have HC0_2 := am hc0_2
 clear hr0_2 hc0_2
 have HB := am (Below.refl w.heap.size w)
 have H : (spec_l8Find.l0 k a1 (wrap64 ((l0_1.length : Int) - 1)) l0_0 l0_1 l0_2 a0_3 a0_4) = some r := h
 clear h
 have H' := am H
 clear H
 go_enter Tryz.func83, Tryz.ntmps83
 go_wp2_with (first | ((with_reducible refine gd_ 2 ?_); refine bx_ 2 (cs := #[.slice A0_0 l0_0.length c0_0, .slice A0_1 l0_1.length c0_1, .slice A0_2 l0_2.length c0_2, .int .i64 a0_3, .int .i64 a0_4]) 31 ?_; intro gb235 hg w3 hbox hb; have BK235 := am hbox; have GW235 := ge_ (w := w) hg; have GE235 := ge_ (w := w) hg; replace HB := am (below_step ab1 hb); clear hb hbox hg; obtain ⟨⟨_, _, _, _, _⟩, _, _, _, _, _⟩ := Op.cells5 BK235.out))
 go_loopg [5] k (fun kq v5 w' => ∃ (x5_1 : Int), v5 = .int .i64 x5_1 ∧ Aside0 (spec_l8Find.l0 kq a1 x5_1 l0_0 l0_1 l0_2 a0_3 a0_4 = some r) ∧ Aside0 (kq ≤ k) ∧ Aside0 (w'.heap[gb235]? = some (.cells #[(.slice A0_0 l0_0.length c0_0), (.slice A0_1 l0_1.length c0_1), (.slice A0_2 l0_2.length c0_2), .int .i64 a0_3, .int .i64 a0_4] 31 (0, 0))) ∧ Aside0 (Below w.heap.size w w'))
 case atStart => exact ⟨(wrap64 ((l0_1.length : Int) - 1)), ab6, H', ⟨Nat.le_refl _⟩, ⟨ab3 BK235⟩, ⟨ab2 GE235⟩⟩
 case round =>
  clear H'
  (try clear p2); (try clear hcz4_0); (try clear hcz4_1); (try clear hcz4_2); (try clear hcz4_3); (try clear hcz4_4); (try clear hfz4_0); (try clear hfz4_1); (try clear hfz4_2); (try clear hfz4_3); (try clear hfz4_4)
  obtain ⟨x5_1, rfl, HA, HK1, BK235, HB⟩ := hrel
  cases gk with
  | zero => exact absurd HA.out (by simp [spec_l8Find.l0])
  | succ k1 =>
   have H := HA.out
   clear HA
   simp only [spec_l8Find.l0] at H
   by_cases c5 : x5_1 ≥ 0
   ·rw [if_pos c5] at H
    have c5b0 : decide (0 ≤ x5_1) = true := decide_eq_true c5
    clear c5
    replace H := bi_ H; obtain ⟨t236, A6, H⟩ := H
    replace H := ie_ H; rcases H with ⟨c7b0, c7b1, H⟩ | ⟨c7, c7b0, c7b1, H⟩
    ·obtain rfl := Option.some.inj H
     obtain ⟨⟨_, _, _, _, _⟩, _, _, _, _, _⟩ := Op.cells5 BK235.out
     go_wp2_with (first | (go_at_call 104; (with_reducible refine (spec_l8Name.calls _ _ l0_0 _ _ l0_1 _ _ l0_2 a0_3 a0_4 x5_1 t236 _ (sc_ HR0_0) HC0_0.out (sc_ HR0_1) HC0_1.out (sc_ HR0_2) HC0_2.out A6.out).mono ?_); rintro e w9 ⟨rfl, hb⟩; replace BK235 := bl_ BK235 hb; replace HB := am (below_step (ab2 GE235) hb); (try clear hb)))
     go_ret
     exact ⟨ab7, ab2 GE235⟩
    ·have H' := am H
     clear H
     obtain ⟨⟨_, _, _, _, _⟩, _, _, _, _, _⟩ := Op.cells5 BK235.out
     go_wp2_with (first | (go_at_call 104; (with_reducible refine (spec_l8Name.calls _ _ l0_0 _ _ l0_1 _ _ l0_2 a0_3 a0_4 x5_1 t236 _ (sc_ HR0_0) HC0_0.out (sc_ HR0_1) HC0_1.out (sc_ HR0_2) HC0_2.out A6.out).mono ?_); rintro e w11 ⟨rfl, hb⟩; replace BK235 := bl_ BK235 hb; replace HB := am (below_step (ab2 GE235) hb); (try clear hb)))
     go_roundg k1
     case measure => have := HK1.out; omega
     case rel => exact ⟨(wrap64 (x5_1 - 1)), ab6, H', ⟨by have := HK1.out; omega⟩, ⟨ab3 BK235⟩, ⟨ab2 GE235⟩⟩
   ·rw [if_neg c5] at H
    have c5b0 : decide (0 ≤ x5_1) = false := decide_eq_false c5
    clear c5
    obtain rfl := Option.some.inj H
    go_wp2
    go_ret
    exact ⟨ab7, ab2 GE235⟩
def spec_TableOpen.f (k : Nat) (l0_0 : List (S53)) (l0_1 : List Int) (l0_2 : List Int) (a0_3 : Int) (a0_4 : Int) : Option (Int) := (spec_l8Find.f k l0_0 l0_1 l0_2 a0_3 a0_4 (⟨#[116, 97, 98, 108, 101]⟩ : ByteArray)).bind fun t238 => (some t238)
theorem spec_TableOpen.calls (k : Nat) (A0_0 : Option Addr) (c0_0 : Nat) (l0_0 : List (S53)) (A0_1 : Option Addr) (c0_1 : Nat) (l0_1 : List Int) (A0_2 : Option Addr) (c0_2 : Nat) (l0_2 : List Int) (a0_3 : Int) (a0_4 : Int) (r : Int) (w : World) (hr0_0 : Kd.C k53 w A0_0 l0_0.length l0_0) (hc0_0 : l0_0.length ≤ c0_0) (hr0_1 : Kd.C (Kd.int .i64) w A0_1 l0_1.length l0_1) (hc0_1 : l0_1.length ≤ c0_1) (hr0_2 : Kd.C (Kd.int .i64) w A0_2 l0_2.length l0_2) (hc0_2 : l0_2.length ≤ c0_2) (h : spec_TableOpen.f k l0_0 l0_1 l0_2 a0_3 a0_4 = some r) :
  Calls Tryz.prog 54 #[.agg #[.slice A0_0 l0_0.length c0_0, .slice A0_1 l0_1.length c0_1, .slice A0_2 l0_2.length c0_2, .int .i64 a0_3, .int .i64 a0_4]] w fun e w' => e = .returned (.int .i64 r) ∧ Below w.heap.size w w' := by
 have hu31 := Tryz.underlying31
 have HR0_0 := am hr0_0
 have HC0_0 := am hc0_0
 clear hr0_0 hc0_0
 have HR0_1 := am hr0_1
 have HC0_1 := am hc0_1
 clear hr0_1 hc0_1
 have HR0_2 := am hr0_2
 have HC0_2 := am hc0_2
 clear hr0_2 hc0_2
 have HB := am (Below.refl w.heap.size w)
 have H : ((spec_l8Find.f k l0_0 l0_1 l0_2 a0_3 a0_4 (⟨#[116, 97, 98, 108, 101]⟩ : ByteArray)).bind fun t238 => (some t238)) = some r := h
 clear h
 replace H := bi_ H; obtain ⟨t238, A2, H⟩ := H
 obtain rfl := Option.some.inj H
 go_enter Tryz.func54, Tryz.ntmps54
 go_wp2_with (first | ((with_reducible refine gd_ 1 ?_); refine bx_ 1 (cs := #[.slice A0_0 l0_0.length c0_0, .slice A0_1 l0_1.length c0_1, .slice A0_2 l0_2.length c0_2, .int .i64 a0_3, .int .i64 a0_4]) 31 ?_; intro gb237 hg w3 hbox hb; have BK237 := am hbox; have GW237 := ge_ (w := w) hg; have GE237 := ge_ (w := w) hg; replace HB := am (below_step ab1 hb); clear hb hbox hg; obtain ⟨⟨_, _, _, _, _⟩, _, _, _, _, _⟩ := Op.cells5 BK237.out) | ((with_reducible refine gf_ 83 ?_); refine gc_ Tryz.func83 (spec_l8Find.calls k _ _ l0_0 _ _ l0_1 _ _ l0_2 a0_3 a0_4 (⟨#[116, 97, 98, 108, 101]⟩ : ByteArray) t238 _ (sc_ HR0_0) HC0_0.out (sc_ HR0_1) HC0_1.out (sc_ HR0_2) HC0_2.out A2.out) ?_; rintro w5 hb; replace BK237 := bl_ BK237 hb; replace HB := am (below_step (ab2 GE237) hb); (try clear hb)))
 go_ret
 exact ⟨ab7, ab2 GE237⟩
def spec_l8Last.f (l0_0 : List (S53)) (l0_1 : List Int) (l0_2 : List Int) (a0_3 : Int) (a0_4 : Int) : Option (ByteArray) := (spec_l8Name.f l0_0 l0_1 l0_2 a0_3 a0_4 (wrap64 ((l0_1.length : Int) - 1))).bind fun t240 => (some t240)
theorem spec_l8Last.calls (A0_0 : Option Addr) (c0_0 : Nat) (l0_0 : List (S53)) (A0_1 : Option Addr) (c0_1 : Nat) (l0_1 : List Int) (A0_2 : Option Addr) (c0_2 : Nat) (l0_2 : List Int) (a0_3 : Int) (a0_4 : Int) (r : ByteArray) (w : World) (hr0_0 : Kd.C k53 w A0_0 l0_0.length l0_0) (hc0_0 : l0_0.length ≤ c0_0) (hr0_1 : Kd.C (Kd.int .i64) w A0_1 l0_1.length l0_1) (hc0_1 : l0_1.length ≤ c0_1) (hr0_2 : Kd.C (Kd.int .i64) w A0_2 l0_2.length l0_2) (hc0_2 : l0_2.length ≤ c0_2) (h : spec_l8Last.f l0_0 l0_1 l0_2 a0_3 a0_4 = some r) :
  Calls Tryz.prog 84 #[.agg #[.slice A0_0 l0_0.length c0_0, .slice A0_1 l0_1.length c0_1, .slice A0_2 l0_2.length c0_2, .int .i64 a0_3, .int .i64 a0_4]] w fun e w' => e = .returned (.string r) ∧ Below w.heap.size w w' := by
 have hu31 := Tryz.underlying31
 have HR0_0 := am hr0_0
 have HC0_0 := am hc0_0
 clear hr0_0 hc0_0
 have HR0_1 := am hr0_1
 have HC0_1 := am hc0_1
 clear hr0_1 hc0_1
 have HR0_2 := am hr0_2
 have HC0_2 := am hc0_2
 clear hr0_2 hc0_2
 have HB := am (Below.refl w.heap.size w)
 have H : ((spec_l8Name.f l0_0 l0_1 l0_2 a0_3 a0_4 (wrap64 ((l0_1.length : Int) - 1))).bind fun t240 => (some t240)) = some r := h
 clear h
 replace H := bi_ H; obtain ⟨t240, A2, H⟩ := H
 obtain rfl := Option.some.inj H
 go_enter Tryz.func84, Tryz.ntmps84
 go_wp2_with (first | ((with_reducible refine gd_ 1 ?_); refine bx_ 1 (cs := #[.slice A0_0 l0_0.length c0_0, .slice A0_1 l0_1.length c0_1, .slice A0_2 l0_2.length c0_2, .int .i64 a0_3, .int .i64 a0_4]) 31 ?_; intro gb239 hg w3 hbox hb; have BK239 := am hbox; have GW239 := ge_ (w := w) hg; have GE239 := ge_ (w := w) hg; replace HB := am (below_step ab1 hb); clear hb hbox hg; obtain ⟨⟨_, _, _, _, _⟩, _, _, _, _, _⟩ := Op.cells5 BK239.out) | ((with_reducible refine gf_ 104 ?_); refine gc_ Tryz.func104 (spec_l8Name.calls _ _ l0_0 _ _ l0_1 _ _ l0_2 a0_3 a0_4 (wrap64 ((l0_1.length : Int) - 1)) t240 _ (sc_ HR0_0) HC0_0.out (sc_ HR0_1) HC0_1.out (sc_ HR0_2) HC0_2.out A2.out) ?_; rintro w5 hb; replace BK239 := bl_ BK239 hb; replace HB := am (below_step (ab2 GE239) hb); (try clear hb)))
 go_ret
 exact ⟨ab7, ab2 GE239⟩
def spec_InTable.f (l0_0 : List (S53)) (l0_1 : List Int) (l0_2 : List Int) (a0_3 : Int) (a0_4 : Int) : Option (Bool) := (spec_l8Last.f l0_0 l0_1 l0_2 a0_3 a0_4).bind fun t242 => (if t242.toList = ([116, 97, 98, 108, 101] : List UInt8) then (some true) else (if t242.toList = ([116, 98, 111, 100, 121] : List UInt8) then (some true) else (some (t242.toList == ([116, 114] : List UInt8)))))
theorem spec_InTable.calls (A0_0 : Option Addr) (c0_0 : Nat) (l0_0 : List (S53)) (A0_1 : Option Addr) (c0_1 : Nat) (l0_1 : List Int) (A0_2 : Option Addr) (c0_2 : Nat) (l0_2 : List Int) (a0_3 : Int) (a0_4 : Int) (r : Bool) (w : World) (hr0_0 : Kd.C k53 w A0_0 l0_0.length l0_0) (hc0_0 : l0_0.length ≤ c0_0) (hr0_1 : Kd.C (Kd.int .i64) w A0_1 l0_1.length l0_1) (hc0_1 : l0_1.length ≤ c0_1) (hr0_2 : Kd.C (Kd.int .i64) w A0_2 l0_2.length l0_2) (hc0_2 : l0_2.length ≤ c0_2) (h : spec_InTable.f l0_0 l0_1 l0_2 a0_3 a0_4 = some r) :
  Calls Tryz.prog 55 #[.agg #[.slice A0_0 l0_0.length c0_0, .slice A0_1 l0_1.length c0_1, .slice A0_2 l0_2.length c0_2, .int .i64 a0_3, .int .i64 a0_4]] w fun e w' => e = .returned (.bool r) ∧ Below w.heap.size w w' := by
 have hu31 := Tryz.underlying31
 have HR0_0 := am hr0_0
 have HC0_0 := am hc0_0
 clear hr0_0 hc0_0
 have HR0_1 := am hr0_1
 have HC0_1 := am hc0_1
 clear hr0_1 hc0_1
 have HR0_2 := am hr0_2
 have HC0_2 := am hc0_2
 clear hr0_2 hc0_2
 have HB := am (Below.refl w.heap.size w)
 have H : ((spec_l8Last.f l0_0 l0_1 l0_2 a0_3 a0_4).bind fun t242 => (if t242.toList = ([116, 97, 98, 108, 101] : List UInt8) then (some true) else (if t242.toList = ([116, 98, 111, 100, 121] : List UInt8) then (some true) else (some (t242.toList == ([116, 114] : List UInt8)))))) = some r := h
 clear h
 replace H := bi_ H; obtain ⟨t242, A2, H⟩ := H
 replace H := ie_ H; rcases H with ⟨c3b0, c3b1, H⟩ | ⟨c3, c3b0, c3b1, H⟩
 ·obtain rfl := Option.some.inj H
  go_enter Tryz.func55, Tryz.ntmps55
  go_wp2_with (first | ((with_reducible refine gd_ 1 ?_); refine bx_ 1 (cs := #[.slice A0_0 l0_0.length c0_0, .slice A0_1 l0_1.length c0_1, .slice A0_2 l0_2.length c0_2, .int .i64 a0_3, .int .i64 a0_4]) 31 ?_; intro gb241 hg w4 hbox hb; have BK241 := am hbox; have GW241 := ge_ (w := w) hg; have GE241 := ge_ (w := w) hg; replace HB := am (below_step ab1 hb); clear hb hbox hg; obtain ⟨⟨_, _, _, _, _⟩, _, _, _, _, _⟩ := Op.cells5 BK241.out) | ((with_reducible refine gf_ 84 ?_); refine gc_ Tryz.func84 (spec_l8Last.calls _ _ l0_0 _ _ l0_1 _ _ l0_2 a0_3 a0_4 t242 _ (sc_ HR0_0) HC0_0.out (sc_ HR0_1) HC0_1.out (sc_ HR0_2) HC0_2.out A2.out) ?_; rintro w6 hb; replace BK241 := bl_ BK241 hb; replace HB := am (below_step (ab2 GE241) hb); (try clear hb)))
  go_ret
  exact ⟨ab7, ab2 GE241⟩
 ·replace H := ie_ H; rcases H with ⟨c7b0, c7b1, H⟩ | ⟨c7, c7b0, c7b1, H⟩
  ·obtain rfl := Option.some.inj H
   go_enter Tryz.func55, Tryz.ntmps55
   go_wp2_with (first | ((with_reducible refine gd_ 1 ?_); refine bx_ 1 (cs := #[.slice A0_0 l0_0.length c0_0, .slice A0_1 l0_1.length c0_1, .slice A0_2 l0_2.length c0_2, .int .i64 a0_3, .int .i64 a0_4]) 31 ?_; intro gb241 hg w8 hbox hb; have BK241 := am hbox; have GW241 := ge_ (w := w) hg; have GE241 := ge_ (w := w) hg; replace HB := am (below_step ab1 hb); clear hb hbox hg; obtain ⟨⟨_, _, _, _, _⟩, _, _, _, _, _⟩ := Op.cells5 BK241.out) | ((with_reducible refine gf_ 84 ?_); refine gc_ Tryz.func84 (spec_l8Last.calls _ _ l0_0 _ _ l0_1 _ _ l0_2 a0_3 a0_4 t242 _ (sc_ HR0_0) HC0_0.out (sc_ HR0_1) HC0_1.out (sc_ HR0_2) HC0_2.out A2.out) ?_; rintro w10 hb; replace BK241 := bl_ BK241 hb; replace HB := am (below_step (ab2 GE241) hb); (try clear hb)))
   go_ret
   exact ⟨ab7, ab2 GE241⟩
  ·obtain rfl := Option.some.inj H
   go_enter Tryz.func55, Tryz.ntmps55
   go_wp2_with (first | ((with_reducible refine gd_ 1 ?_); refine bx_ 1 (cs := #[.slice A0_0 l0_0.length c0_0, .slice A0_1 l0_1.length c0_1, .slice A0_2 l0_2.length c0_2, .int .i64 a0_3, .int .i64 a0_4]) 31 ?_; intro gb241 hg w11 hbox hb; have BK241 := am hbox; have GW241 := ge_ (w := w) hg; have GE241 := ge_ (w := w) hg; replace HB := am (below_step ab1 hb); clear hb hbox hg; obtain ⟨⟨_, _, _, _, _⟩, _, _, _, _, _⟩ := Op.cells5 BK241.out) | ((with_reducible refine gf_ 84 ?_); refine gc_ Tryz.func84 (spec_l8Last.calls _ _ l0_0 _ _ l0_1 _ _ l0_2 a0_3 a0_4 t242 _ (sc_ HR0_0) HC0_0.out (sc_ HR0_1) HC0_1.out (sc_ HR0_2) HC0_2.out A2.out) ?_; rintro w13 hb; replace BK241 := bl_ BK241 hb; replace HB := am (below_step (ab2 GE241) hb); (try clear hb)))
   go_ret
   exact ⟨ab7, ab2 GE241⟩
def spec_l9Kid.l0 : Nat → Int → List Int → Int → Option (Int)
 | 0, _, _, _ => none
 | k + 1, x1, x5, x6 => if x6 < (wrap64 ((x5.length : Int) - 1)) then (if 0 ≤ x6 then (if x6 < (x5.length : Int) then (if (rd x5 x6) = x1 then (some x6) else (spec_l9Kid.l0 k x1 x5 (wrap64 (x6 + 1)))) else (none)) else (none)) else (some x6)
def spec_l9Kid.f (k : Nat) (l0 : List (S53)) (a1 : Int) : Option (Int) := if 0 ≤ a1 then (if a1 < (l0.length : Int) then (if 0 ≤ ((rd_T53 l0 a1).f5) then (if ((rd_T53 l0 a1).f5) < (l0.length : Int) then (spec_l9Kid.l0 k a1 ((rd_T53 l0 ((rd_T53 l0 a1).f5)).f6) 0) else (none)) else (none)) else (none)) else (none)
theorem spec_l9Kid.calls (k : Nat) (A0 : Option Addr) (c0 : Nat) (l0 : List (S53)) (a1 : Int) (r : Int) (w : World) (hr0 : Kd.C k53 w A0 l0.length l0) (hc0 : l0.length ≤ c0) (h : spec_l9Kid.f k l0 a1 = some r) :
  Calls Tryz.prog 56 #[.slice A0 l0.length c0, .int .i64 a1] w fun e w' => e = .returned (.int .i64 r) ∧ Drawn0 w w' := by
 have HR0 := am hr0
 have HC0 := am hc0
 clear hr0 hc0
 have H : (if 0 ≤ a1 then (if a1 < (l0.length : Int) then (if 0 ≤ ((rd_T53 l0 a1).f5) then (if ((rd_T53 l0 a1).f5) < (l0.length : Int) then (spec_l9Kid.l0 k a1 ((rd_T53 l0 ((rd_T53 l0 a1).f5)).f6) 0) else (none)) else (none)) else (none)) else (none)) = some r := h
 clear h
 replace H := iq_ H; obtain ⟨c3b0, H⟩ := H
 replace H := iq_ H; obtain ⟨c4b0, H⟩ := H
 replace H := iq_ H; obtain ⟨c5b0, H⟩ := H
 replace H := iq_ H; obtain ⟨c6b0, H⟩ := H
 have H' := am H
 clear H
 obtain ⟨p243, q243, ad243, A243_3, c243_3, A243_6, c243_6, rfl, hx243_0, hx243_1, hx243_2, hx243_3, hx243_4, hx243_5, hx243_6, HC243_3, HR243_3, HC243_6, HR243_6⟩ := otT53 b0_ HR0.out a1 (of_decide_eq_true ab4) (of_decide_eq_true ab4)
 obtain ⟨p244, q244, A244_3, c244_3, A244_6, c244_6, hx244_0, hx244_1, hx244_2, hx244_3, hx244_4, hx244_5, hx244_6, HC244_3, HR244_3, HC244_6, HR244_6⟩ := agT53 b0_ HR0.out ((rd_T53 l0 a1).f5) (of_decide_eq_true ab4) (of_decide_eq_true ab4)
 go_enter Tryz.func56, Tryz.ntmps56
 go_wp2
 go_loopg [6] k (fun kq v6 w' => ∃ (x6_1 : Int), v6 = .int .i64 x6_1 ∧ Aside0 (spec_l9Kid.l0 kq a1 ((rd_T53 l0 ((rd_T53 l0 a1).f5)).f6) x6_1 = some r) ∧ Aside0 (kq ≤ k) ∧ Drawn0 w w')
 case atStart => exact ⟨(0), ab6, H', ⟨Nat.le_refl _⟩, by repeat (first | exact Drawn0.refl _ | apply Drawn0.step)⟩
 case round =>
  clear H'
  (try clear c2); (try clear p2); (try clear q2); (try clear hx2); (try clear c3); (try clear c3b0); (try clear c4); (try clear c4b0); (try clear c5); (try clear c5b0); (try clear c6); (try clear c6b0); (try clear hx243_0); (try clear hx243_1); (try clear hx243_2); (try clear hx243_3); (try clear hx243_4); (try clear hx243_5); (try clear hx243_6); (try clear hx244_0); (try clear hx244_1); (try clear hx244_2); (try clear hx244_3); (try clear hx244_4); (try clear hx244_5); (try clear hx244_6); (try clear p243); (try clear p244); (try clear q243); (try clear q244)
  obtain ⟨x6_1, rfl, HA, HK1, ⟨m1, rfl⟩⟩ := hrel
  cases gk with
  | zero => exact absurd HA.out (by simp [spec_l9Kid.l0])
  | succ k1 =>
   have H := HA.out
   clear HA
   simp only [spec_l9Kid.l0] at H
   replace H := ir_ H; rcases H with ⟨c7b0, H⟩ | ⟨c7b0, H⟩
   ·replace H := iq_ H; obtain ⟨c8b0, H⟩ := H
    replace H := iq_ H; obtain ⟨c9b0, H⟩ := H
    replace H := ie_ H; rcases H with ⟨c10b0, c10b1, H⟩ | ⟨c10, c10b0, c10b1, H⟩
    ·obtain rfl := Option.some.inj H
     have p245 : 0 ≤ (x6_1 : Int) := of_decide_eq_true ab4
     have q245 : x6_1 < (((rd_T53 l0 ((rd_T53 l0 a1).f5)).f6).length : Int) := of_decide_eq_true ab4
     obtain ⟨ad245, e245, hx245_0⟩ := Kd.at_int HR244_6.out x6_1 p245 q245
     cases e245
     replace p245 := eq_true p245
     replace q245 := eq_true q245
     go_wp2
     go_ret
     exact ⟨ab6, by repeat (first | exact Drawn0.refl _ | apply Drawn0.step)⟩
    ·have H' := am H
     clear H
     have p245 : 0 ≤ (x6_1 : Int) := of_decide_eq_true ab4
     have q245 : x6_1 < (((rd_T53 l0 ((rd_T53 l0 a1).f5)).f6).length : Int) := of_decide_eq_true ab4
     obtain ⟨ad245, e245, hx245_0⟩ := Kd.at_int HR244_6.out x6_1 p245 q245
     cases e245
     replace p245 := eq_true p245
     replace q245 := eq_true q245
     go_wp2
     go_roundg k1
     case measure => have := HK1.out; omega
     case rel => exact ⟨(wrap64 (x6_1 + 1)), ab6, H', ⟨by have := HK1.out; omega⟩, by repeat (first | exact Drawn0.refl _ | apply Drawn0.step)⟩
   ·obtain rfl := Option.some.inj H
    go_wp2
    go_ret
    exact ⟨ab6, by repeat (first | exact Drawn0.refl _ | apply Drawn0.step)⟩
def spec_l9Place.j0 : Nat → Int → Bool → List (S53) → List Int → List Int → Int → Int → Option (Int × Int)
 | 0, _, _, _, _, _, _, _ => none
 | k + 1, x4, x13, x247000, x247001, x247002, x247003, x247004 => if x13 = true then (if 0 ≤ x4 then (if x4 < (x247001.length : Int) then (if 0 ≤ (rd x247001 x4) then (if (rd x247001 x4) < (x247000.length : Int) then ((spec_l9Kid.f k x247000 (rd x247001 x4)).bind fun t251 => (some ((rd_T53 x247000 (rd x247001 x4)).f5, t251))) else (none)) else (none)) else (none)) else (none)) else (if (x247001.length : Int) = 0 then (some (0, (-1))) else (if 0 ≤ (wrap64 ((x247001.length : Int) - 1)) then (if (wrap64 ((x247001.length : Int) - 1)) < (x247001.length : Int) then (some (rd x247001 (wrap64 ((x247001.length : Int) - 1)), (-1))) else (none)) else (none)))
def spec_l9Place.f (k : Nat) (l0_0 : List (S53)) (l0_1 : List Int) (l0_2 : List Int) (a0_3 : Int) (a0_4 : Int) : Option (Int × Int) := (spec_TableOpen.f k l0_0 l0_1 l0_2 a0_3 a0_4).bind fun t247 => ((spec_InTable.f l0_0 l0_1 l0_2 a0_3 a0_4).bind fun t248 => (if t248 = true then (spec_l9Place.j0 k t247 (decide (t247 ≥ 0)) l0_0 l0_1 l0_2 a0_3 a0_4) else (spec_l9Place.j0 k t247 false l0_0 l0_1 l0_2 a0_3 a0_4)))
theorem spec_l9Place.calls (k : Nat) (A0_0 : Option Addr) (c0_0 : Nat) (l0_0 : List (S53)) (A0_1 : Option Addr) (c0_1 : Nat) (l0_1 : List Int) (A0_2 : Option Addr) (c0_2 : Nat) (l0_2 : List Int) (a0_3 : Int) (a0_4 : Int) (r1 : Int) (r2 : Int) (w : World) (hr0_0 : Kd.C k53 w A0_0 l0_0.length l0_0) (hc0_0 : l0_0.length ≤ c0_0) (hr0_1 : Kd.C (Kd.int .i64) w A0_1 l0_1.length l0_1) (hc0_1 : l0_1.length ≤ c0_1) (hr0_2 : Kd.C (Kd.int .i64) w A0_2 l0_2.length l0_2) (hc0_2 : l0_2.length ≤ c0_2) (h : spec_l9Place.f k l0_0 l0_1 l0_2 a0_3 a0_4 = some (r1, r2)) :
  Calls Tryz.prog 27 #[.agg #[.slice A0_0 l0_0.length c0_0, .slice A0_1 l0_1.length c0_1, .slice A0_2 l0_2.length c0_2, .int .i64 a0_3, .int .i64 a0_4]] w fun e w' => e = .returned (.tuple #[.int .i64 r1, .int .i64 r2]) ∧ Below w.heap.size w w' := by
 have hu31 := Tryz.underlying31
 have HR0_0 := am hr0_0
 have HC0_0 := am hc0_0
 clear hr0_0 hc0_0
 have HR0_1 := am hr0_1
 have HC0_1 := am hc0_1
 clear hr0_1 hc0_1
 have HR0_2 := am hr0_2
 have HC0_2 := am hc0_2
 clear hr0_2 hc0_2
 have HB := am (Below.refl w.heap.size w)
 have H : ((spec_TableOpen.f k l0_0 l0_1 l0_2 a0_3 a0_4).bind fun t247 => ((spec_InTable.f l0_0 l0_1 l0_2 a0_3 a0_4).bind fun t248 => (if t248 = true then (spec_l9Place.j0 k t247 (decide (t247 ≥ 0)) l0_0 l0_1 l0_2 a0_3 a0_4) else (spec_l9Place.j0 k t247 false l0_0 l0_1 l0_2 a0_3 a0_4)))) = some (r1, r2) := h
 clear h
 replace H := bi_ H; obtain ⟨t247, A2, H⟩ := H
 have HC3 := am H
 clear H
 go_enter Tryz.func27, Tryz.ntmps27
 go_upto_region 2 with (first | ((with_reducible refine gd_ 1 ?_); refine bx_ 1 (cs := #[.slice A0_0 l0_0.length c0_0, .slice A0_1 l0_1.length c0_1, .slice A0_2 l0_2.length c0_2, .int .i64 a0_3, .int .i64 a0_4]) 31 ?_; intro gb246 hg w4 hbox hb; have BK246 := am hbox; have GW246 := ge_ (w := w) hg; have GE246 := ge_ (w := w) hg; replace HB := am (below_step ab1 hb); clear hb hbox hg; obtain ⟨⟨_, _, _, _, _⟩, _, _, _, _, _⟩ := Op.cells5 BK246.out) | (go_at_call 54; (with_reducible refine (spec_TableOpen.calls k _ _ l0_0 _ _ l0_1 _ _ l0_2 a0_3 a0_4 t247 _ (sc_ HR0_0) HC0_0.out (sc_ HR0_1) HC0_1.out (sc_ HR0_2) HC0_2.out A2.out).mono ?_); rintro e w6 ⟨rfl, hb⟩; replace BK246 := bl_ BK246 hb; replace HB := am (below_step (ab2 GE246) hb); (try clear hb)))
 repeat (go_quiet (first | ((with_reducible refine gd_ 1 ?_); refine bx_ 1 (cs := #[.slice A0_0 l0_0.length c0_0, .slice A0_1 l0_1.length c0_1, .slice A0_2 l0_2.length c0_2, .int .i64 a0_3, .int .i64 a0_4]) 31 ?_; intro gb246 hg w4 hbox hb; have BK246 := am hbox; have GW246 := ge_ (w := w) hg; have GE246 := ge_ (w := w) hg; replace HB := am (below_step ab1 hb); clear hb hbox hg; obtain ⟨⟨_, _, _, _, _⟩, _, _, _, _, _⟩ := Op.cells5 BK246.out) | (go_at_call 54; (with_reducible refine (spec_TableOpen.calls k _ _ l0_0 _ _ l0_1 _ _ l0_2 a0_3 a0_4 t247 _ (sc_ HR0_0) HC0_0.out (sc_ HR0_1) HC0_1.out (sc_ HR0_2) HC0_2.out A2.out).mono ?_); rintro e w6 ⟨rfl, hb⟩; replace BK246 := bl_ BK246 hb; replace HB := am (below_step (ab2 GE246) hb); (try clear hb))); go_upto_region 2 with (first | ((with_reducible refine gd_ 1 ?_); refine bx_ 1 (cs := #[.slice A0_0 l0_0.length c0_0, .slice A0_1 l0_1.length c0_1, .slice A0_2 l0_2.length c0_2, .int .i64 a0_3, .int .i64 a0_4]) 31 ?_; intro gb246 hg w4 hbox hb; have BK246 := am hbox; have GW246 := ge_ (w := w) hg; have GE246 := ge_ (w := w) hg; replace HB := am (below_step ab1 hb); clear hb hbox hg; obtain ⟨⟨_, _, _, _, _⟩, _, _, _, _, _⟩ := Op.cells5 BK246.out) | (go_at_call 54; (with_reducible refine (spec_TableOpen.calls k _ _ l0_0 _ _ l0_1 _ _ l0_2 a0_3 a0_4 t247 _ (sc_ HR0_0) HC0_0.out (sc_ HR0_1) HC0_1.out (sc_ HR0_2) HC0_2.out A2.out).mono ?_); rintro e w6 ⟨rfl, hb⟩; replace BK246 := bl_ BK246 hb; replace HB := am (below_step (ab2 GE246) hb); (try clear hb))))
 (try simp only [Act.put, List.setIfInBounds_toArray, List.set_cons_zero, List.set_cons_succ])
 go_cut [13] (fun v13 wc => ∃ (kq : Nat) (x13_2 : Bool), v13 = .bool x13_2 ∧ Aside0 (spec_l9Place.j0 kq t247 x13_2 l0_0 l0_1 l0_2 a0_3 a0_4 = some (r1, r2)) ∧ Aside0 (kq ≤ k) ∧ Aside0 (wc.heap[gb246]? = some (.cells #[(.slice A0_0 l0_0.length c0_0), (.slice A0_1 l0_1.length c0_1), (.slice A0_2 l0_2.length c0_2), .int .i64 a0_3, .int .i64 a0_4] 31 (0, 0))) ∧ Aside0 (Below w.heap.size w wc))
 case first =>
  have H := HC3.out
  clear HC3
  replace H := bi_ H; obtain ⟨t248, A7, H⟩ := H
  replace H := ib_ H; rcases H with ⟨rfl, H⟩ | ⟨rfl, H⟩
  ·have H' := am H
   clear H
   obtain ⟨⟨_, _, _, _, _⟩, _, _, _, _, _⟩ := Op.cells5 BK246.out
   go_wp2_with (first | (go_at_call 55; (with_reducible refine (spec_InTable.calls _ _ l0_0 _ _ l0_1 _ _ l0_2 a0_3 a0_4 true _ (sc_ HR0_0) HC0_0.out (sc_ HR0_1) HC0_1.out (sc_ HR0_2) HC0_2.out A7.out).mono ?_); rintro e w10 ⟨rfl, hb⟩; replace BK246 := bl_ BK246 hb; replace HB := am (below_step (ab2 GE246) hb); (try clear hb)))
   repeat (go_quiet (first | (go_at_call 55; (with_reducible refine (spec_InTable.calls _ _ l0_0 _ _ l0_1 _ _ l0_2 a0_3 a0_4 true _ (sc_ HR0_0) HC0_0.out (sc_ HR0_1) HC0_1.out (sc_ HR0_2) HC0_2.out A7.out).mono ?_); rintro e w10 ⟨rfl, hb⟩; replace BK246 := bl_ BK246 hb; replace HB := am (below_step (ab2 GE246) hb); (try clear hb))); try go_wp2_with (first | (go_at_call 55; (with_reducible refine (spec_InTable.calls _ _ l0_0 _ _ l0_1 _ _ l0_2 a0_3 a0_4 true _ (sc_ HR0_0) HC0_0.out (sc_ HR0_1) HC0_1.out (sc_ HR0_2) HC0_2.out A7.out).mono ?_); rintro e w10 ⟨rfl, hb⟩; replace BK246 := bl_ BK246 hb; replace HB := am (below_step (ab2 GE246) hb); (try clear hb))))
   first | go_meet | (subst hji22; go_meet)
   case rel => exact ⟨_, (decide (t247 ≥ 0)), ab6, H', ⟨by first | omega | exact Nat.le_refl _⟩, ⟨ab3 BK246⟩, ⟨ab2 GE246⟩⟩
  ·have H' := am H
   clear H
   obtain ⟨⟨_, _, _, _, _⟩, _, _, _, _, _⟩ := Op.cells5 BK246.out
   go_wp2_with (first | (go_at_call 55; (with_reducible refine (spec_InTable.calls _ _ l0_0 _ _ l0_1 _ _ l0_2 a0_3 a0_4 false _ (sc_ HR0_0) HC0_0.out (sc_ HR0_1) HC0_1.out (sc_ HR0_2) HC0_2.out A7.out).mono ?_); rintro e w12 ⟨rfl, hb⟩; replace BK246 := bl_ BK246 hb; replace HB := am (below_step (ab2 GE246) hb); (try clear hb)))
   repeat (go_quiet (first | (go_at_call 55; (with_reducible refine (spec_InTable.calls _ _ l0_0 _ _ l0_1 _ _ l0_2 a0_3 a0_4 false _ (sc_ HR0_0) HC0_0.out (sc_ HR0_1) HC0_1.out (sc_ HR0_2) HC0_2.out A7.out).mono ?_); rintro e w12 ⟨rfl, hb⟩; replace BK246 := bl_ BK246 hb; replace HB := am (below_step (ab2 GE246) hb); (try clear hb))); try go_wp2_with (first | (go_at_call 55; (with_reducible refine (spec_InTable.calls _ _ l0_0 _ _ l0_1 _ _ l0_2 a0_3 a0_4 false _ (sc_ HR0_0) HC0_0.out (sc_ HR0_1) HC0_1.out (sc_ HR0_2) HC0_2.out A7.out).mono ?_); rintro e w12 ⟨rfl, hb⟩; replace BK246 := bl_ BK246 hb; replace HB := am (below_step (ab2 GE246) hb); (try clear hb))))
   first | go_meet | (subst hji22; go_meet)
   case rel => exact ⟨_, (false), ab6, H', ⟨by first | omega | exact Nat.le_refl _⟩, ⟨ab3 BK246⟩, ⟨ab2 GE246⟩⟩
 case rest =>
  clear HC3
  (try clear c2); (try clear p2); (try clear c8); (try clear hcz11_0); (try clear hcz11_1); (try clear hcz11_2); (try clear hcz11_3); (try clear hcz11_4); (try clear hcz5_0); (try clear hcz5_1); (try clear hcz5_2); (try clear hcz5_3); (try clear hcz5_4); (try clear hcz9_0); (try clear hcz9_1); (try clear hcz9_2); (try clear hcz9_3); (try clear hcz9_4); (try clear hfz11_0); (try clear hfz11_1); (try clear hfz11_2); (try clear hfz11_3); (try clear hfz11_4); (try clear hfz5_0); (try clear hfz5_1); (try clear hfz5_2); (try clear hfz5_3); (try clear hfz5_4); (try clear hfz9_0); (try clear hfz9_1); (try clear hfz9_2); (try clear hfz9_3); (try clear hfz9_4)
  obtain ⟨kq, x13_2, rfl, HA, HJ2, BK246, HB⟩ := hcut
  cases kq with
  | zero => exact absurd HA.out (by simp [spec_l9Place.j0])
  | succ kj2 =>
   have H := HA.out
   clear HA
   simp only [spec_l9Place.j0] at H
   replace H := ib_ H; rcases H with ⟨rfl, H⟩ | ⟨rfl, H⟩
   ·replace H := iq_ H; obtain ⟨c14b0, H⟩ := H
    replace H := iq_ H; obtain ⟨c15b0, H⟩ := H
    replace H := iq_ H; obtain ⟨c16b0, H⟩ := H
    replace H := iq_ H; obtain ⟨c17b0, H⟩ := H
    replace H := bi_ H; obtain ⟨t251, A18, H⟩ := H
    simp only [Option.some.injEq, Prod.mk.injEq] at H
    obtain ⟨rfl, rfl⟩ := H
    obtain ⟨⟨_, _, _, _, _⟩, _, _, _, _, _⟩ := Op.cells5 BK246.out
    have p249 : 0 ≤ (t247 : Int) := of_decide_eq_true ab4
    have q249 : t247 < (l0_1.length : Int) := of_decide_eq_true ab4
    obtain ⟨ad249, e249, hx249_0⟩ := Kd.at_int HR0_1.out t247 p249 q249
    cases e249
    replace hx249_0 := pc_ HB hx249_0
    replace p249 := eq_true p249
    replace q249 := eq_true q249
    obtain ⟨p250, q250, ad250, A250_3, c250_3, A250_6, c250_6, rfl, hx250_0, hx250_1, hx250_2, hx250_3, hx250_4, hx250_5, hx250_6, HC250_3, HR250_3, HC250_6, HR250_6⟩ := otT53 HB HR0_0.out (rd l0_1 t247) (of_decide_eq_true ab4) (of_decide_eq_true ab4)
    go_wp2_with (first | (go_at_call 56; (with_reducible refine (spec_l9Kid.calls kj2 _ _ l0_0 (rd l0_1 t247) t251 _ (sc_ HR0_0) HC0_0.out A18.out).mono ?_); rintro e w' ⟨rfl, ⟨nd, rfl⟩⟩; (try first | exact ⟨rfl, _, World.drewN_drewN _ _ _⟩ | exact ⟨rfl, _, Eq.trans (World.drewN_drewN _ _ _) (congrArg (World.drewN _) (Nat.add_assoc _ _ _))⟩)))
    repeat (go_quiet (first | (go_at_call 56; (with_reducible refine (spec_l9Kid.calls kj2 _ _ l0_0 (rd l0_1 t247) t251 _ (sc_ HR0_0) HC0_0.out A18.out).mono ?_); rintro e w' ⟨rfl, ⟨nd, rfl⟩⟩; (try first | exact ⟨rfl, _, World.drewN_drewN _ _ _⟩ | exact ⟨rfl, _, Eq.trans (World.drewN_drewN _ _ _) (congrArg (World.drewN _) (Nat.add_assoc _ _ _))⟩))); try go_wp2_with (first | (go_at_call 56; (with_reducible refine (spec_l9Kid.calls kj2 _ _ l0_0 (rd l0_1 t247) t251 _ (sc_ HR0_0) HC0_0.out A18.out).mono ?_); rintro e w' ⟨rfl, ⟨nd, rfl⟩⟩; (try first | exact ⟨rfl, _, World.drewN_drewN _ _ _⟩ | exact ⟨rfl, _, Eq.trans (World.drewN_drewN _ _ _) (congrArg (World.drewN _) (Nat.add_assoc _ _ _))⟩))))
    go_ret2
    exact ⟨ab7, ab2 GE246⟩
   ·replace H := ie_ H; rcases H with ⟨c20b0, c20b1, H⟩ | ⟨c20, c20b0, c20b1, H⟩
    ·simp only [Option.some.injEq, Prod.mk.injEq] at H
     obtain ⟨rfl, rfl⟩ := H
     obtain ⟨⟨_, _, _, _, _⟩, _, _, _, _, _⟩ := Op.cells5 BK246.out
     go_wp2
     repeat (go_quiet (fail); try go_wp2)
     go_ret2
     exact ⟨ab7, ab2 GE246⟩
    ·have c20b2 : ¬ (l0_1 = []) := fun h_ => c20 (by rw [h_]; rfl)
     obtain ⟨ji22, hji22⟩ : ∃ j_ : Int, (wrap64 ((l0_1.length : Int) - 1)) = j_ := ⟨_, rfl⟩
     replace H : (if 0 ≤ (ji22) then (if (ji22) < (l0_1.length : Int) then (some (rd l0_1 (ji22), (-1))) else (none)) else (none)) = some (r1, r2) := by first | (rw [hji22] at H; exact H) | (simp only [hji22] at H ⊢; exact H)
     have hji22w : (IntKind.i64.wrap ((l0_1.length : Int) - 1)) = ji22 := (i64_w _).trans hji22
     replace H := iq_ H; obtain ⟨c23b0, H⟩ := H
     replace H := iq_ H; obtain ⟨c24b0, H⟩ := H
     simp only [Option.some.injEq, Prod.mk.injEq] at H
     obtain ⟨rfl, rfl⟩ := H
     obtain ⟨⟨_, _, _, _, _⟩, _, _, _, _, _⟩ := Op.cells5 BK246.out
     have p252 : 0 ≤ ((ji22) : Int) := of_decide_eq_true ab4
     have q252 : (ji22) < (l0_1.length : Int) := of_decide_eq_true ab4
     obtain ⟨ad252, e252, hx252_0⟩ := Kd.at_int HR0_1.out (ji22) p252 q252
     cases e252
     replace hx252_0 := pc_ HB hx252_0
     replace p252 := eq_true p252
     replace q252 := eq_true q252
     go_wp2
     repeat (go_quiet (fail); try go_wp2)
     go_ret2
     exact ⟨by first | rfl | (simp [errW_none, errW_some] <;> rfl) | (simp only [← hji22]; first | rfl | (simp [errW_none, errW_some] <;> rfl)) | (simp [*, errW_none, errW_some] <;> rfl), ab2 GE246⟩
def laws_toAttr.f (a0_0 : ByteArray) (a0_1 : ByteArray) : Option (ByteArray × ByteArray) := some (a0_0, a0_1)
theorem laws_toAttr.calls (a0_0 : ByteArray) (a0_1 : ByteArray) (r1 : ByteArray) (r2 : ByteArray) (w : World) (h : laws_toAttr.f a0_0 a0_1 = some (r1, r2)) :
  Calls Tryz.prog 31 #[.agg #[.string a0_0, .string a0_1]] w fun e w' => e = .returned (.agg #[.string r1, .string r2]) ∧ Below w.heap.size w w' := by
 have hu47 := Tryz.underlying47
 have hu56 := Tryz.underlying56
 have HB := am (Below.refl w.heap.size w)
 have H : (some (a0_0, a0_1)) = some (r1, r2) := h
 clear h
 simp only [Option.some.injEq, Prod.mk.injEq] at H
 obtain ⟨rfl, rfl⟩ := H
 go_enter Tryz.func31, Tryz.ntmps31
 go_wp2_with (first | ((with_reducible refine gd_ 1 ?_); refine bx_ 1 (cs := #[.string a0_0, .string a0_1]) 47 ?_; intro gb298 hg w2 hbox hb; have BK298 := am hbox; have GW298 := ge_ (w := w) hg; have GE298 := ge_ (w := w) hg; replace HB := am (below_step ab1 hb); clear hb hbox hg) | ((with_reducible refine gd_ 2 ?_); refine bx_ 2 (cs := #[.string (⟨#[]⟩ : ByteArray), .string (⟨#[]⟩ : ByteArray)]) 56 ?_; intro gb299 hg w3 hbox hb; have BK299 := am hbox; have GW299 := gE_ (w := w) GE298 hg; have GE299 := gE_ (w := w) GE298 hg; replace HB := am (below_step (ab2 GE298) hb); have NB298_299 := nl_ BK298 hg; have NB299_298 := ng_ BK298 hg; replace BK298 := bl_ BK298 hb; clear hb hbox hg) | ((with_reducible refine gd_ 3 ?_); refine bx_ 3 (cs := #[.string (⟨#[]⟩ : ByteArray), .string (⟨#[]⟩ : ByteArray)]) 56 ?_; intro gb300 hg w4 hbox hb; have BK300 := am hbox; have GW300 := am ((by rw [hg]; exact (below_size ba_) : w.heap.size ≤ gb300)); have GE300 := am ((by rw [hg]; exact (below_size ba_) : w.heap.size ≤ gb300)); replace HB := am (below_step ba_ hb); have NB298_300 := nl_ BK298 hg; have NB300_298 := ng_ BK298 hg; replace BK298 := bl_ BK298 hb; have NB299_300 := nl_ BK299 hg; have NB300_299 := ng_ BK299 hg; replace BK299 := bl_ BK299 hb; clear hb hbox hg; have hnb5 := NB298_299.out; have hnc5 := NB299_298.out; have hnb6 := NB298_300.out; have hnc6 := NB300_298.out; obtain ⟨⟨_, _⟩, _, _⟩ := Op.cells2 BK298.out; have hnb8 := NB300_299.out; have hnc8 := NB299_300.out; obtain ⟨⟨_, _⟩, _, _⟩ := Op.cells2 BK300.out; obtain ⟨⟨_, _⟩, _, _⟩ := Op.cells2 BK299.out))
 refine bodyPost_ret (results_cell_row rfl _ _ gb299 56 #[.string a0_0, .string a0_1] (0, 0) _ rfl (bq_ BK299) Tryz.underlying56 rfl (by kernel_rfl)) rfl ?_
 exact ⟨ab7, ba_⟩
end Go.Proofs.YtekkalnafngfeaaGreat.P
