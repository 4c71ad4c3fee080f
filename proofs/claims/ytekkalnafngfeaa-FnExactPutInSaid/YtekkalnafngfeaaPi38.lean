-- WRITTEN BY this session's own programs
import Derived.Test.YtekkalnafngfeaaPi24
import Derived.Test.YtekkalnafngfeaaPi2
import Derived.Test.YtekkalnafngfeaaPi16
import Derived.Test.YtekkalnafngfeaaPi5
namespace Go.Proofs.Ytekkalnafngfeaa.P
open Go.RowKit Go.Proofs.YtekkalnafngfeaaW.PrintWords Go.Proofs.YtekkalnafngfeaaW.PrintLast Go.Proofs.YtekkalnafngfeaaW.PrintMore Go
set_option linter.unusedVariables false
set_option linter.unusedSimpArgs false
set_option maxHeartbeats 8000000
set_option maxRecDepth 100000
attribute [local go_sem] max2_int min2_int max_two min_two max_three min_three max_four min_four
def spec_l8Copy.f (k : Nat) (l0_0 : List (S38)) (l0_1 : List Int) (l0_2 : List Int) (a0_3 : Int) (a0_4 : Int) : Option ((List (S38)) × List Int × List Int × Int × Int) := (spec_l6Copy.f k l0_0).bind fun t215 => ((some (([] : List Int) : List Int)).bind fun y218 => (if y218.length + l0_1.length < 17592186044416 then ((some (([] : List Int) : List Int)).bind fun y224 => (if y224.length + l0_2.length < 17592186044416 then (some (t215, (y218 ++ l0_1), (y224 ++ l0_2), a0_3, a0_4)) else (none))) else (none)))
def spec_l8Copy.T1 : Bool × List (List Nat × List Nat) := (true, [([], []), ([0], [0]), ([1], [1]), ([], []), ([], []), ([4], [4]), ([3, 5, 2], [3, 5]), ([], []), ([], []), ([8], [8]), ([7, 9, 6], [7, 9]), ([], []), ([11], [11]), ([], []), ([13], [13]), ([2, 6, 10, 12, 14], [2, 6, 10, 12, 14]), ([15, 10, 0, 1, 2, 3, 4, 5, 6, 7, 8, 9, 10, 11, 12, 13, 14, 15], [15])])
def spec_l8Copy.B1 : List Nat := [0, 1, 3, 0, 0, 16, 63, 0, 0, 256, 1023, 0, 2048, 0, 8192, 32767, 65535]
theorem spec_l8Copy.tab1 : rtab .any (opsOf Try.f20 1) = spec_l8Copy.T1 := by kernel_rfl
theorem spec_l8Copy.bits1 : waitsOk spec_l8Copy.T1.2 spec_l8Copy.B1 = true := by kernel_rfl
theorem spec_l8Copy.calls (k : Nat) (A0_0 : Option Addr) (c0_0 : Nat) (l0_0 : List (S38)) (A0_1 : Option Addr) (c0_1 : Nat) (l0_1 : List Int) (A0_2 : Option Addr) (c0_2 : Nat) (l0_2 : List Int) (a0_3 : Int) (a0_4 : Int) (r1 : List (S38)) (r2 : List Int) (r3 : List Int) (r4 : Int) (r5 : Int) (w : World) (hr0_0 : Kd.C k38 w A0_0 l0_0.length l0_0) (hc0_0 : l0_0.length ≤ c0_0) (hr0_1 : Kd.C (Kd.int .i64) w A0_1 l0_1.length l0_1) (hc0_1 : l0_1.length ≤ c0_1) (hr0_2 : Kd.C (Kd.int .i64) w A0_2 l0_2.length l0_2) (hc0_2 : l0_2.length ≤ c0_2) (h : spec_l8Copy.f k l0_0 l0_1 l0_2 a0_3 a0_4 = some (r1, r2, r3, r4, r5)) :
  Calls Try.prog 20 #[.agg #[.slice A0_0 l0_0.length c0_0, .slice A0_1 l0_1.length c0_1, .slice A0_2 l0_2.length c0_2, .int .i64 a0_3, .int .i64 a0_4]] w fun e w' => ∃ v0_ v1_ v2_ : Value, e = .returned (.agg #[v0_, v1_, v2_, .int .i64 r4, .int .i64 r5]) ∧ Kd.S k38 38 w' w.heap.size (fun k_ => some k_ ≠ (v1_ : Value).ownBlock ∧ some k_ ≠ (v2_ : Value).ownBlock) v0_ r1 ∧ Kd.R (Kd.int .i64) 3 w' w.heap.size (fun k_ => some k_ ≠ (v2_ : Value).ownBlock) v1_ r2 ∧ Kd.R (Kd.int .i64) 3 w' w.heap.size (fun k_ => some k_ ≠ (v1_ : Value).ownBlock) v2_ r3 ∧ Below w.heap.size w w' := by
 have hu33 := Try.underlying33
 have HR0_0 := am hr0_0
 have HC0_0 := am hc0_0
 clear hr0_0 hc0_0
 have HR0_1 := am hr0_1
 have HC0_1 := am hc0_1
 clear hr0_1 hc0_1
 have HR0_2 := am hr0_2
 have HC0_2 := am hc0_2
 clear hr0_2 hc0_2
 have HB := am (Below.refl w.heap.size w)
 have H : ((spec_l6Copy.f k l0_0).bind fun t215 => ((some (([] : List Int) : List Int)).bind fun y218 => (if y218.length + l0_1.length < 17592186044416 then ((some (([] : List Int) : List Int)).bind fun y224 => (if y224.length + l0_2.length < 17592186044416 then (some (t215, (y218 ++ l0_1), (y224 ++ l0_2), a0_3, a0_4)) else (none))) else (none)))) = some (r1, r2, r3, r4, r5) := h
 clear h
 replace H := bi_ H; obtain ⟨t215, A2, H⟩ := H
 obtain ⟨y218, hy218⟩ : ∃ y_ : List Int, y_ = (([] : List Int)) := ⟨_, rfl⟩
 replace H : (if y218.length + l0_1.length < 17592186044416 then ((some (([] : List Int) : List Int)).bind fun y224 => (if y224.length + l0_2.length < 17592186044416 then (some (t215, (y218 ++ l0_1), (y224 ++ l0_2), a0_3, a0_4)) else (none))) else (none)) = some (r1, r2, r3, r4, r5) := by first | (rw [hy218]; with_reducible exact H) | (have H2_ := (Option.bind_some _ _).symm.trans H; rw [hy218]; with_reducible exact H2_) | (have H2_ := (Option.bind_some _ _).symm.trans H; with_reducible exact H2_) | with_reducible exact H | (rw [hy218]; exact H) | exact H
 have Ny218 := am hy218
 clear hy218
 by_cases c3 : y218.length + l0_1.length < 17592186044416
 case neg => rw [if_neg c3] at H; exact absurd H (by simp)
 rw [if_pos c3] at H
 have LMc3 := am c3
 clear c3
 obtain ⟨y221, hy221⟩ : ∃ y_ : List Int, y_ = (y218 ++ l0_1) := ⟨_, rfl⟩
 replace H : ((some (([] : List Int) : List Int)).bind fun y224 => (if y224.length + l0_2.length < 17592186044416 then (some (t215, y221, (y224 ++ l0_2), a0_3, a0_4)) else (none))) = some (r1, r2, r3, r4, r5) := by first | (rw [hy221]; with_reducible exact H) | (have H2_ := (Option.bind_some _ _).symm.trans H; rw [hy221]; with_reducible exact H2_) | (have H2_ := (Option.bind_some _ _).symm.trans H; with_reducible exact H2_) | with_reducible exact H | (rw [hy221]; exact H) | exact H
 have Ny221 := am hy221
 clear hy221
 obtain ⟨y224, hy224⟩ : ∃ y_ : List Int, y_ = (([] : List Int)) := ⟨_, rfl⟩
 replace H : (if y224.length + l0_2.length < 17592186044416 then (some (t215, y221, (y224 ++ l0_2), a0_3, a0_4)) else (none)) = some (r1, r2, r3, r4, r5) := by first | (rw [hy224]; with_reducible exact H) | (have H2_ := (Option.bind_some _ _).symm.trans H; rw [hy224]; with_reducible exact H2_) | (have H2_ := (Option.bind_some _ _).symm.trans H; with_reducible exact H2_) | with_reducible exact H | (rw [hy224]; exact H) | exact H
 have Ny224 := am hy224
 clear hy224
 by_cases c4 : y224.length + l0_2.length < 17592186044416
 case neg => rw [if_neg c4] at H; exact absurd H (by simp)
 rw [if_pos c4] at H
 have LMc4 := am c4
 clear c4
 obtain ⟨y227, hy227⟩ : ∃ y_ : List Int, y_ = (y224 ++ l0_2) := ⟨_, rfl⟩
 replace H : (some (t215, y221, y227, a0_3, a0_4)) = some (r1, r2, r3, r4, r5) := by first | (rw [hy227]; with_reducible exact H) | (have H2_ := (Option.bind_some _ _).symm.trans H; rw [hy227]; with_reducible exact H2_) | (have H2_ := (Option.bind_some _ _).symm.trans H; with_reducible exact H2_) | with_reducible exact H | (rw [hy227]; exact H) | exact H
 have Ny227 := am hy227
 clear hy227
 simp only [Option.some.injEq, Prod.mk.injEq] at H
 obtain ⟨rfl, rfl, rfl, rfl, rfl⟩ := H
 go_enter Try.func20, Try.ntmps20
 try go_wp2_with (first | ((with_reducible refine gd_ 1 ?_); refine bx_ 1 (cs := #[.slice A0_0 l0_0.length c0_0, .slice A0_1 l0_1.length c0_1, .slice A0_2 l0_2.length c0_2, .int .i64 a0_3, .int .i64 a0_4]) 33 ?_; intro gb213 hg w5 hbox hb; have BK213 := am hbox; have GW213 := ge_ (w := w) hg; have GE213 := ge_ (w := w) hg; replace HB := am (below_step ab1 hb); clear hb hbox hg) | ((with_reducible refine gd_ 2 ?_); refine bx_ 2 (cs := #[.slice none 0 0, .slice none 0 0, .slice none 0 0, .int .i64 0, .int .i64 0]) 33 ?_; intro gb214 hg w6 hbox hb; have BK214 := am hbox; have GW214 := gE_ (w := w) GE213 hg; have GE214 := gE_ (w := w) GE213 hg; replace HB := am (below_step (ab2 GE213) hb); have NB213_214 := nl_ BK213 hg; have NB214_213 := ng_ BK213 hg; replace BK213 := bl_ BK213 hb; clear hb hbox hg))
 replace BK213 := am (blk_drew BK213.out)
 replace BK214 := am (blk_drew BK214.out)
 replace HB := am (below_drew1 HB.out)
 refine start_ (n := 17) (S := fun w' => w'.cell? ⟨gb213, 0, none⟩ = some (.slice A0_0 l0_0.length c0_0) ∧ w'.cell? ⟨gb213, 1, none⟩ = some (.slice A0_1 l0_1.length c0_1) ∧ w'.cell? ⟨gb213, 2, none⟩ = some (.slice A0_2 l0_2.length c0_2) ∧ w'.cell? ⟨gb213, 3, none⟩ = some (.int .i64 a0_3) ∧ w'.cell? ⟨gb213, 4, none⟩ = some (.int .i64 a0_4)) (ds := []) #[false, false, false, false, false, false, false, false, false, false, false, false, false, false, false, false, false] (by kernel_rfl) rfl rfl ⟨(blk_cell BK213.out 0).trans rfl, (blk_cell BK213.out 1).trans rfl, (blk_cell BK213.out 2).trans rfl, (blk_cell BK213.out 3).trans rfl, (blk_cell BK213.out 4).trans rfl⟩ (fun hHeld => ?_); refine with_tabW spec_l8Copy.tab1 spec_l8Copy.bits1 (fun HT_ HW_ => ?_)
 generalize w6.drew = w7 at BK213 BK214 HB hHeld ⊢
 refine pa_ 0 3 HT_ ?_
 refine pa_ 4 7 HT_ ?_
 refine pa_ 8 11 HT_ ?_
 refine pa_ 11 14 HT_ ?_
 refine pa_ 13 16 HT_ ?_
 refine tk_ 1 4 HT_ HW_ hHeld ?_
 refine tk_ 5 8 HT_ HW_ hHeld ?_
 refine tk_ 9 12 HT_ HW_ hHeld ?_
 refine tk_ 12 15 HT_ HW_ hHeld ?_
 refine tk_ 14 17 HT_ HW_ hHeld ?_
 refine join_ (σ := Value × Value × Value × Value) 3 #[true, true, true, true, true, true, true, true, true, true, false, true, true, true, true, false, false] (fun s_ => [(5, s_.1), (6, s_.2.1), (9, s_.2.2.1), (10, s_.2.2.2)]) (fun s_ w' => (w'.cell? ⟨gb213, 0, none⟩ = some (.slice A0_0 l0_0.length c0_0) ∧ w'.cell? ⟨gb213, 1, none⟩ = some (.slice A0_1 l0_1.length c0_1) ∧ w'.cell? ⟨gb213, 2, none⟩ = some (.slice A0_2 l0_2.length c0_2) ∧ w'.cell? ⟨gb213, 3, none⟩ = some (.int .i64 a0_3) ∧ w'.cell? ⟨gb213, 4, none⟩ = some (.int .i64 a0_4)) ∧ (Kd.S k38 38 w' w.heap.size (fun k_ => some k_ ≠ (s_.2.2.1 : Value).ownBlock ∧ some k_ ≠ (s_.2.2.2 : Value).ownBlock) s_.1 t215) ∧ (Kd.R (Kd.int .i64) 3 w' w.heap.size (fun k_ => some k_ ≠ (s_.2.2.2 : Value).ownBlock) s_.2.2.1 y221) ∧ (Kd.R (Kd.int .i64) 3 w' w.heap.size (fun k_ => some k_ ≠ (s_.2.2.1 : Value).ownBlock) s_.2.2.2 y224) ∧ (w'.heap[gb213]? = some (.cells #[.slice A0_0 l0_0.length c0_0, .slice A0_1 l0_1.length c0_1, .slice A0_2 l0_2.length c0_2, .int .i64 a0_3, .int .i64 a0_4] 33 (0, 0))) ∧ (w'.heap[gb214]? = some (.cells #[.slice none 0 0, .slice none 0 0, .slice none 0 0, .int .i64 0, .int .i64 0] 33 (0, 0))) ∧ (Below w.heap.size w w')) ?_ ?_
 rotate_left
 ·intro hJ2_3_6_7
  refine join_ (σ := Value × Value × Value) 4 #[true, true, true, true, true, true, true, false, true, true, false, true, true, true, true, false, false] (fun s_ => [(5, s_.1), (6, s_.2.1), (9, s_.2.2)]) (fun s_ w' => (w'.cell? ⟨gb213, 0, none⟩ = some (.slice A0_0 l0_0.length c0_0) ∧ w'.cell? ⟨gb213, 1, none⟩ = some (.slice A0_1 l0_1.length c0_1) ∧ w'.cell? ⟨gb213, 2, none⟩ = some (.slice A0_2 l0_2.length c0_2) ∧ w'.cell? ⟨gb213, 3, none⟩ = some (.int .i64 a0_3) ∧ w'.cell? ⟨gb213, 4, none⟩ = some (.int .i64 a0_4)) ∧ (Kd.S k38 38 w' w.heap.size (fun k_ => some k_ ≠ (s_.2.2 : Value).ownBlock) s_.1 t215) ∧ (Kd.R (Kd.int .i64) 3 w' w.heap.size (fun _ => True) s_.2.2 y221) ∧ (w'.heap[gb213]? = some (.cells #[.slice A0_0 l0_0.length c0_0, .slice A0_1 l0_1.length c0_1, .slice A0_2 l0_2.length c0_2, .int .i64 a0_3, .int .i64 a0_4] 33 (0, 0))) ∧ (w'.heap[gb214]? = some (.cells #[.slice none 0 0, .slice none 0 0, .slice none 0 0, .int .i64 0, .int .i64 0] 33 (0, 0))) ∧ (Below w.heap.size w w')) ?_ ?_
  rotate_left
  ·intro hJ2_3_6
   refine join_ (σ := Value × Value × Value) 4 #[true, true, true, true, true, true, false, true, true, true, false, true, true, true, true, false, false] (fun s_ => [(5, s_.1), (6, s_.2.1), (10, s_.2.2)]) (fun s_ w' => (w'.cell? ⟨gb213, 0, none⟩ = some (.slice A0_0 l0_0.length c0_0) ∧ w'.cell? ⟨gb213, 1, none⟩ = some (.slice A0_1 l0_1.length c0_1) ∧ w'.cell? ⟨gb213, 2, none⟩ = some (.slice A0_2 l0_2.length c0_2) ∧ w'.cell? ⟨gb213, 3, none⟩ = some (.int .i64 a0_3) ∧ w'.cell? ⟨gb213, 4, none⟩ = some (.int .i64 a0_4)) ∧ (Kd.S k38 38 w' w.heap.size (fun k_ => some k_ ≠ (s_.2.1 : Value).ownBlock ∧ some k_ ≠ (s_.2.2 : Value).ownBlock) s_.1 t215) ∧ (Kd.R (Kd.int .i64) 3 w' w.heap.size (fun k_ => some k_ ≠ (s_.2.2 : Value).ownBlock) s_.2.1 y218) ∧ (Kd.R (Kd.int .i64) 3 w' w.heap.size (fun k_ => some k_ ≠ (s_.2.1 : Value).ownBlock) s_.2.2 y224) ∧ (w'.heap[gb213]? = some (.cells #[.slice A0_0 l0_0.length c0_0, .slice A0_1 l0_1.length c0_1, .slice A0_2 l0_2.length c0_2, .int .i64 a0_3, .int .i64 a0_4] 33 (0, 0))) ∧ (w'.heap[gb214]? = some (.cells #[.slice none 0 0, .slice none 0 0, .slice none 0 0, .int .i64 0, .int .i64 0] 33 (0, 0))) ∧ (Below w.heap.size w w')) ?_ ?_
   rotate_left
   ·intro hJ2_3_7
    refine join_ (σ := Value × Value) 5 #[true, true, true, true, true, true, false, false, true, true, false, true, true, true, true, false, false] (fun s_ => [(5, s_.1), (6, s_.2)]) (fun s_ w' => (w'.cell? ⟨gb213, 0, none⟩ = some (.slice A0_0 l0_0.length c0_0) ∧ w'.cell? ⟨gb213, 1, none⟩ = some (.slice A0_1 l0_1.length c0_1) ∧ w'.cell? ⟨gb213, 2, none⟩ = some (.slice A0_2 l0_2.length c0_2) ∧ w'.cell? ⟨gb213, 3, none⟩ = some (.int .i64 a0_3) ∧ w'.cell? ⟨gb213, 4, none⟩ = some (.int .i64 a0_4)) ∧ (Kd.S k38 38 w' w.heap.size (fun k_ => some k_ ≠ (s_.2 : Value).ownBlock) s_.1 t215) ∧ (Kd.R (Kd.int .i64) 3 w' w.heap.size (fun _ => True) s_.2 y218) ∧ (w'.heap[gb213]? = some (.cells #[.slice A0_0 l0_0.length c0_0, .slice A0_1 l0_1.length c0_1, .slice A0_2 l0_2.length c0_2, .int .i64 a0_3, .int .i64 a0_4] 33 (0, 0))) ∧ (w'.heap[gb214]? = some (.cells #[.slice none 0 0, .slice none 0 0, .slice none 0 0, .int .i64 0, .int .i64 0] 33 (0, 0))) ∧ (Below w.heap.size w w')) ?_ ?_
    rotate_left
    ·intro hJ2_3
     refine join_ (σ := Value × Value) 5 #[true, true, true, false, true, true, false, true, true, true, false, true, true, true, true, false, false] (fun s_ => [(5, s_.1), (10, s_.2)]) (fun s_ w' => (w'.cell? ⟨gb213, 0, none⟩ = some (.slice A0_0 l0_0.length c0_0) ∧ w'.cell? ⟨gb213, 1, none⟩ = some (.slice A0_1 l0_1.length c0_1) ∧ w'.cell? ⟨gb213, 2, none⟩ = some (.slice A0_2 l0_2.length c0_2) ∧ w'.cell? ⟨gb213, 3, none⟩ = some (.int .i64 a0_3) ∧ w'.cell? ⟨gb213, 4, none⟩ = some (.int .i64 a0_4)) ∧ (Kd.S k38 38 w' w.heap.size (fun k_ => some k_ ≠ (s_.2 : Value).ownBlock) s_.1 t215) ∧ (Kd.R (Kd.int .i64) 3 w' w.heap.size (fun _ => True) s_.2 y224) ∧ (w'.heap[gb213]? = some (.cells #[.slice A0_0 l0_0.length c0_0, .slice A0_1 l0_1.length c0_1, .slice A0_2 l0_2.length c0_2, .int .i64 a0_3, .int .i64 a0_4] 33 (0, 0))) ∧ (w'.heap[gb214]? = some (.cells #[.slice none 0 0, .slice none 0 0, .slice none 0 0, .int .i64 0, .int .i64 0] 33 (0, 0))) ∧ (Below w.heap.size w w')) ?_ ?_
     rotate_left
     ·intro hJ2_7
      refine join_ (σ := Value × Value) 5 #[true, true, false, true, true, true, false, true, true, true, false, true, true, true, true, false, false] (fun s_ => [(6, s_.1), (10, s_.2)]) (fun s_ w' => (w'.cell? ⟨gb213, 0, none⟩ = some (.slice A0_0 l0_0.length c0_0) ∧ w'.cell? ⟨gb213, 1, none⟩ = some (.slice A0_1 l0_1.length c0_1) ∧ w'.cell? ⟨gb213, 2, none⟩ = some (.slice A0_2 l0_2.length c0_2) ∧ w'.cell? ⟨gb213, 3, none⟩ = some (.int .i64 a0_3) ∧ w'.cell? ⟨gb213, 4, none⟩ = some (.int .i64 a0_4)) ∧ (Kd.R (Kd.int .i64) 3 w' w.heap.size (fun k_ => some k_ ≠ (s_.2 : Value).ownBlock) s_.1 y218) ∧ (Kd.R (Kd.int .i64) 3 w' w.heap.size (fun k_ => some k_ ≠ (s_.1 : Value).ownBlock) s_.2 y224) ∧ (w'.heap[gb213]? = some (.cells #[.slice A0_0 l0_0.length c0_0, .slice A0_1 l0_1.length c0_1, .slice A0_2 l0_2.length c0_2, .int .i64 a0_3, .int .i64 a0_4] 33 (0, 0))) ∧ (w'.heap[gb214]? = some (.cells #[.slice none 0 0, .slice none 0 0, .slice none 0 0, .int .i64 0, .int .i64 0] 33 (0, 0))) ∧ (Below w.heap.size w w')) ?_ ?_
      rotate_left
      ·intro hJ3_7
       refine join_ (σ := Value) 6 #[true, true, true, false, true, true, false, false, true, true, false, true, true, true, true, false, false] (fun s_ => [(5, s_)]) (fun s_ w' => (w'.cell? ⟨gb213, 0, none⟩ = some (.slice A0_0 l0_0.length c0_0) ∧ w'.cell? ⟨gb213, 1, none⟩ = some (.slice A0_1 l0_1.length c0_1) ∧ w'.cell? ⟨gb213, 2, none⟩ = some (.slice A0_2 l0_2.length c0_2) ∧ w'.cell? ⟨gb213, 3, none⟩ = some (.int .i64 a0_3) ∧ w'.cell? ⟨gb213, 4, none⟩ = some (.int .i64 a0_4)) ∧ (Kd.S k38 38 w' w.heap.size (fun _ => True) s_ t215) ∧ (w'.heap[gb213]? = some (.cells #[.slice A0_0 l0_0.length c0_0, .slice A0_1 l0_1.length c0_1, .slice A0_2 l0_2.length c0_2, .int .i64 a0_3, .int .i64 a0_4] 33 (0, 0))) ∧ (w'.heap[gb214]? = some (.cells #[.slice none 0 0, .slice none 0 0, .slice none 0 0, .int .i64 0, .int .i64 0] 33 (0, 0))) ∧ (Below w.heap.size w w')) ?_ ?_
       rotate_left
       ·intro hJ2
        refine join_ (σ := Value) 6 #[true, true, false, true, true, true, false, false, true, true, false, true, true, true, true, false, false] (fun s_ => [(6, s_)]) (fun s_ w' => (w'.cell? ⟨gb213, 0, none⟩ = some (.slice A0_0 l0_0.length c0_0) ∧ w'.cell? ⟨gb213, 1, none⟩ = some (.slice A0_1 l0_1.length c0_1) ∧ w'.cell? ⟨gb213, 2, none⟩ = some (.slice A0_2 l0_2.length c0_2) ∧ w'.cell? ⟨gb213, 3, none⟩ = some (.int .i64 a0_3) ∧ w'.cell? ⟨gb213, 4, none⟩ = some (.int .i64 a0_4)) ∧ (Kd.R (Kd.int .i64) 3 w' w.heap.size (fun _ => True) s_ y218) ∧ (w'.heap[gb213]? = some (.cells #[.slice A0_0 l0_0.length c0_0, .slice A0_1 l0_1.length c0_1, .slice A0_2 l0_2.length c0_2, .int .i64 a0_3, .int .i64 a0_4] 33 (0, 0))) ∧ (w'.heap[gb214]? = some (.cells #[.slice none 0 0, .slice none 0 0, .slice none 0 0, .int .i64 0, .int .i64 0] 33 (0, 0))) ∧ (Below w.heap.size w w')) ?_ ?_
        rotate_left
        ·intro hJ3
         refine join_ (σ := Value) 6 #[true, true, false, false, true, true, false, true, true, true, false, true, true, true, true, false, false] (fun s_ => [(10, s_)]) (fun s_ w' => (w'.cell? ⟨gb213, 0, none⟩ = some (.slice A0_0 l0_0.length c0_0) ∧ w'.cell? ⟨gb213, 1, none⟩ = some (.slice A0_1 l0_1.length c0_1) ∧ w'.cell? ⟨gb213, 2, none⟩ = some (.slice A0_2 l0_2.length c0_2) ∧ w'.cell? ⟨gb213, 3, none⟩ = some (.int .i64 a0_3) ∧ w'.cell? ⟨gb213, 4, none⟩ = some (.int .i64 a0_4)) ∧ (Kd.R (Kd.int .i64) 3 w' w.heap.size (fun _ => True) s_ y224) ∧ (w'.heap[gb213]? = some (.cells #[.slice A0_0 l0_0.length c0_0, .slice A0_1 l0_1.length c0_1, .slice A0_2 l0_2.length c0_2, .int .i64 a0_3, .int .i64 a0_4] 33 (0, 0))) ∧ (w'.heap[gb214]? = some (.cells #[.slice none 0 0, .slice none 0 0, .slice none 0 0, .int .i64 0, .int .i64 0] 33 (0, 0))) ∧ (Below w.heap.size w w')) ?_ ?_
         rotate_left
         ·intro hJ7
          refine three_ (i := 2) (j := 3) (k := 7) (Ni := some 5) (Nj := some 6) (Nk := some 10) #[true, true, true, false, true, true, false, false, true, true, false, true, true, true, true, false, false] #[true, true, false, true, true, true, false, false, true, true, false, true, true, true, true, false, false] #[true, true, false, false, true, true, false, true, true, true, false, true, true, true, true, false, false] rfl rfl rfl rfl rfl rfl (three_of HT_.out (by kernel_rfl)) (by decide) (by decide) (by decide) (fun K hK => ?_) (fun K hK => ?_) (fun K hK => ?_)
          ·skip
           refine goes_ Try.func41 (by kernel_rfl) rfl #[.slice A0_0 l0_0.length c0_0] (by rfl) rfl rfl ab5 ?_
           with_reducible refine (spec_l6Copy.calls k _ _ l0_0 t215 _ ?side1 ?side2 A2.out).mono ?_
           (case side1 => repeat (first | exact (Kd.C_below HR0_0.out HB.out) | (with_reducible refine Kd.C_alloc ?_ _) | (with_reducible refine Kd.C_drewN ?_ _) | (with_reducible refine Kd.C_drew ?_)))
           (case side2 => exact HC0_0.out)
           rintro e w8 ⟨v216, rfl, ho0, hb⟩
           refine ⟨_, rfl, ?_⟩
           have HO217 := am (Kd.S_lower ho0 (below_size ba_))
           replace BK213 := bl_ BK213 hb
           replace BK214 := bl_ BK214 hb
           replace HB := am (below_step ba_ hb)
           (try clear hb)
           (try clear hb2)
           (try clear hk)
           (try clear hi)
           (try clear ho0)
           refine hK.out _ _ ⟨(blk_cell BK213.out 0).trans rfl, (blk_cell BK213.out 1).trans rfl, (blk_cell BK213.out 2).trans rfl, (blk_cell BK213.out 3).trans rfl, (blk_cell BK213.out 4).trans rfl⟩ (fun hHeld => ?_)
           clear hK K
           refine norm_ (a' := ?_) ?_ ?_
           rotate_left
           ·show Act.put _ (some 5) _ = _
            simp only [Act.put, List.setIfInBounds_toArray, List.set_cons_zero, List.set_cons_succ, i64_w, i32_w]
            rfl
           exact norm_ (by first | (simp only [putAll, Act.put, List.setIfInBounds_toArray, List.set_cons_zero, List.set_cons_succ]; done) | (simp only [putAll, Act.put, List.setIfInBounds_toArray, List.set_cons_zero, List.set_cons_succ]; rfl)) (hJ2 (v216) _ ⟨hHeld, (by (with_reducible repeat (first | apply Kd.S_alloc | apply Kd.S_drewN | apply Kd.S_drew)); exact HO217.out), (ab3 BK213), (ab3 BK214), ba_⟩)
          ·skip
           refine Kd.R_lit_step (Kd.int .i64) _ 3 ?hg (N := 6) ?hd (xs := ([] : List Int)) (inner := []) (ok := fun _ => True) (okp := fun _ => True) ?hr ?hp (fun _ hk => hk) trivial (Below.refl _ _) (Nat.le_refl _) (by simp) ?_; (case hd => rfl); (case hg => rfl); (case hr => first | (go_simp; done) | (go_simp; rfl)); (case hp => exact (Reps.none _ _))
           intro v219 w8 ho9 hb hg_ hnew_
           clear hg_ hnew_
           (first | rw [← Ny218.out] at ho9 | (simp only [Int.reduceToNat] at ho9; rw [← Ny218.out] at ho9))
           have HO220 := am (Kd.R_lower ho9 (below_size ba_))
           replace BK213 := bl_ BK213 hb
           replace BK214 := bl_ BK214 hb
           replace HB := am (below_step ba_ hb)
           clear hb ho9
           refine hK.out _ _ ⟨(blk_cell BK213.out 0).trans rfl, (blk_cell BK213.out 1).trans rfl, (blk_cell BK213.out 2).trans rfl, (blk_cell BK213.out 3).trans rfl, (blk_cell BK213.out 4).trans rfl⟩ (fun hHeld => ?_)
           clear hK K
           refine norm_ (a' := ?_) ?_ ?_
           rotate_left
           ·show Act.put _ (some 6) _ = _
            simp only [Act.put, List.setIfInBounds_toArray, List.set_cons_zero, List.set_cons_succ, i64_w, i32_w]
            rfl
           exact norm_ (by first | (simp only [putAll, Act.put, List.setIfInBounds_toArray, List.set_cons_zero, List.set_cons_succ]; done) | (simp only [putAll, Act.put, List.setIfInBounds_toArray, List.set_cons_zero, List.set_cons_succ]; rfl)) (hJ3 (v219) _ ⟨hHeld, (ab8 HO220), (ab3 BK213), (ab3 BK214), ba_⟩)
          ·skip
           refine Kd.R_lit_step (Kd.int .i64) _ 3 ?hg (N := 10) ?hd (xs := ([] : List Int)) (inner := []) (ok := fun _ => True) (okp := fun _ => True) ?hr ?hp (fun _ hk => hk) trivial (Below.refl _ _) (Nat.le_refl _) (by simp) ?_; (case hd => rfl); (case hg => rfl); (case hr => first | (go_simp; done) | (go_simp; rfl)); (case hp => exact (Reps.none _ _))
           intro v225 w8 ho9 hb hg_ hnew_
           clear hg_ hnew_
           (first | rw [← Ny224.out] at ho9 | (simp only [Int.reduceToNat] at ho9; rw [← Ny224.out] at ho9))
           have HO226 := am (Kd.R_lower ho9 (below_size ba_))
           replace BK213 := bl_ BK213 hb
           replace BK214 := bl_ BK214 hb
           replace HB := am (below_step ba_ hb)
           clear hb ho9
           refine hK.out _ _ ⟨(blk_cell BK213.out 0).trans rfl, (blk_cell BK213.out 1).trans rfl, (blk_cell BK213.out 2).trans rfl, (blk_cell BK213.out 3).trans rfl, (blk_cell BK213.out 4).trans rfl⟩ (fun hHeld => ?_)
           clear hK K
           refine norm_ (a' := ?_) ?_ ?_
           rotate_left
           ·show Act.put _ (some 10) _ = _
            simp only [Act.put, List.setIfInBounds_toArray, List.set_cons_zero, List.set_cons_succ, i64_w, i32_w]
            rfl
           exact norm_ (by first | (simp only [putAll, Act.put, List.setIfInBounds_toArray, List.set_cons_zero, List.set_cons_succ]; done) | (simp only [putAll, Act.put, List.setIfInBounds_toArray, List.set_cons_zero, List.set_cons_succ]; rfl)) (hJ7 (v225) _ ⟨hHeld, (ab8 HO226), (ab3 BK213), (ab3 BK214), ba_⟩)
         ·skip
          rintro v225 w10 ⟨hS_, h0_, h1_, h2_, h3_⟩
          have n0_ : Aside0 (Kd.R (Kd.int .i64) 3 w10 w.heap.size (fun _ => True) v225 y224) := ⟨h0_⟩
          have n1_ : Aside0 (w10.heap[gb213]? = some (.cells #[.slice A0_0 l0_0.length c0_0, .slice A0_1 l0_1.length c0_1, .slice A0_2 l0_2.length c0_2, .int .i64 a0_3, .int .i64 a0_4] 33 (0, 0))) := ⟨h1_⟩
          have n2_ : Aside0 (w10.heap[gb214]? = some (.cells #[.slice none 0 0, .slice none 0 0, .slice none 0 0, .int .i64 0, .int .i64 0] 33 (0, 0))) := ⟨h2_⟩
          have n3_ : Aside0 (Below w.heap.size w w10) := ⟨h3_⟩
          clear BK213
          clear BK214
          clear HB
          clear h0_ h1_ h2_ h3_
          have HO226 := n0_
          have BK213 := n1_
          have BK214 := n2_
          have HB := n3_
          clear n0_ n1_ n2_ n3_
          have hHeld : w10.cell? ⟨gb213, 0, none⟩ = some (.slice A0_0 l0_0.length c0_0) ∧ w10.cell? ⟨gb213, 1, none⟩ = some (.slice A0_1 l0_1.length c0_1) ∧ w10.cell? ⟨gb213, 2, none⟩ = some (.slice A0_2 l0_2.length c0_2) ∧ w10.cell? ⟨gb213, 3, none⟩ = some (.int .i64 a0_3) ∧ w10.cell? ⟨gb213, 4, none⟩ = some (.int .i64 a0_4) := hS_
          refine norm_ (a' := ?_) ?_ ?_
          rotate_left
          ·simp only [putAll, Act.put, List.setIfInBounds_toArray, List.set_cons_zero, List.set_cons_succ]
           rfl
          refine two_ (i := 2) (j := 3) (Ni := some 5) (Nj := some 6) #[true, true, true, false, true, true, false, true, true, true, false, true, true, true, true, false, false] #[true, true, false, true, true, true, false, true, true, true, false, true, true, true, true, false, false] rfl rfl rfl rfl (two_of HT_.out (by kernel_rfl)) (by decide) (by decide) (fun K hK => ?_) (fun K hK => ?_)
          ·skip
           refine goes_ Try.func41 (by kernel_rfl) rfl #[.slice A0_0 l0_0.length c0_0] (by rfl) rfl rfl ab5 ?_
           with_reducible refine (spec_l6Copy.calls k _ _ l0_0 t215 _ ?side1 ?side2 A2.out).mono ?_
           (case side1 => repeat (first | exact (Kd.C_below HR0_0.out HB.out) | (with_reducible refine Kd.C_alloc ?_ _) | (with_reducible refine Kd.C_drewN ?_ _) | (with_reducible refine Kd.C_drew ?_)))
           (case side2 => exact HC0_0.out)
           rintro e w11 ⟨v216, rfl, ho0, hb⟩
           refine ⟨_, rfl, ?_⟩
           have HO217 := am (Kd.S_lower (Kd.S_new' ho0 (Kd.R_lt (ab8 HO226))) (below_size ba_))
           replace HO226 := am (Kd.R_below (ab8 HO226) hb)
           replace BK213 := bl_ BK213 hb
           replace BK214 := bl_ BK214 hb
           replace HB := am (below_step ba_ hb)
           (try clear hb)
           (try clear hb2)
           (try clear hk)
           (try clear hi)
           (try clear ho0)
           refine hK.out _ _ ⟨(blk_cell BK213.out 0).trans rfl, (blk_cell BK213.out 1).trans rfl, (blk_cell BK213.out 2).trans rfl, (blk_cell BK213.out 3).trans rfl, (blk_cell BK213.out 4).trans rfl⟩ (fun hHeld => ?_)
           clear hK K
           refine norm_ (a' := ?_) ?_ ?_
           rotate_left
           ·show Act.put _ (some 5) _ = _
            simp only [Act.put, List.setIfInBounds_toArray, List.set_cons_zero, List.set_cons_succ, i64_w, i32_w]
            rfl
           exact norm_ (by first | (simp only [putAll, Act.put, List.setIfInBounds_toArray, List.set_cons_zero, List.set_cons_succ]; done) | (simp only [putAll, Act.put, List.setIfInBounds_toArray, List.set_cons_zero, List.set_cons_succ]; rfl)) (hJ2_7 (v216, v225) _ ⟨hHeld, (by (with_reducible repeat (first | apply Kd.S_alloc | apply Kd.S_drewN | apply Kd.S_drew)); exact Kd.S_mono HO217.out (fun _ hk => hk.2)), (ab8 HO226), (ab3 BK213), (ab3 BK214), ba_⟩)
          ·skip
           refine Kd.R_lit_step (Kd.int .i64) _ 3 ?hg (N := 6) ?hd (xs := ([] : List Int)) (inner := []) (ok := fun _ => True) (okp := fun _ => True) ?hr ?hp (fun _ hk => hk) trivial (Below.refl _ _) (Nat.le_refl _) (by simp) ?_; (case hd => rfl); (case hg => rfl); (case hr => first | (go_simp; done) | (go_simp; rfl)); (case hp => exact (Reps.none _ _))
           intro v219 w11 ho12 hb hg_ hnew_
           clear hg_ hnew_
           (first | rw [← Ny218.out] at ho12 | (simp only [Int.reduceToNat] at ho12; rw [← Ny218.out] at ho12))
           have HO220 := am (Kd.R_lower (Kd.R_new' ho12 (Kd.R_lt (ab8 HO226))) (below_size ba_))
           replace HO226 := am (Kd.R_elder' (ab8 HO226) (Kd.R_base ho12) hb)
           replace BK213 := bl_ BK213 hb
           replace BK214 := bl_ BK214 hb
           replace HB := am (below_step ba_ hb)
           clear hb ho12
           refine hK.out _ _ ⟨(blk_cell BK213.out 0).trans rfl, (blk_cell BK213.out 1).trans rfl, (blk_cell BK213.out 2).trans rfl, (blk_cell BK213.out 3).trans rfl, (blk_cell BK213.out 4).trans rfl⟩ (fun hHeld => ?_)
           clear hK K
           refine norm_ (a' := ?_) ?_ ?_
           rotate_left
           ·show Act.put _ (some 6) _ = _
            simp only [Act.put, List.setIfInBounds_toArray, List.set_cons_zero, List.set_cons_succ, i64_w, i32_w]
            rfl
           exact norm_ (by first | (simp only [putAll, Act.put, List.setIfInBounds_toArray, List.set_cons_zero, List.set_cons_succ]; done) | (simp only [putAll, Act.put, List.setIfInBounds_toArray, List.set_cons_zero, List.set_cons_succ]; rfl)) (hJ3_7 (v219, v225) _ ⟨hHeld, (by (with_reducible repeat (first | apply Kd.R_alloc | apply Kd.R_drewN | apply Kd.R_drew)); exact Kd.R_mono HO220.out (fun _ hk => hk.2)), (by (with_reducible repeat (first | apply Kd.R_alloc | apply Kd.R_drewN | apply Kd.R_drew)); exact Kd.R_mono HO226.out (fun _ hk => hk.2)), (ab3 BK213), (ab3 BK214), ba_⟩)
        ·skip
         rintro v219 w10 ⟨hS_, h0_, h1_, h2_, h3_⟩
         have n0_ : Aside0 (Kd.R (Kd.int .i64) 3 w10 w.heap.size (fun _ => True) v219 y218) := ⟨h0_⟩
         have n1_ : Aside0 (w10.heap[gb213]? = some (.cells #[.slice A0_0 l0_0.length c0_0, .slice A0_1 l0_1.length c0_1, .slice A0_2 l0_2.length c0_2, .int .i64 a0_3, .int .i64 a0_4] 33 (0, 0))) := ⟨h1_⟩
         have n2_ : Aside0 (w10.heap[gb214]? = some (.cells #[.slice none 0 0, .slice none 0 0, .slice none 0 0, .int .i64 0, .int .i64 0] 33 (0, 0))) := ⟨h2_⟩
         have n3_ : Aside0 (Below w.heap.size w w10) := ⟨h3_⟩
         clear BK213
         clear BK214
         clear HB
         clear h0_ h1_ h2_ h3_
         have HO220 := n0_
         have BK213 := n1_
         have BK214 := n2_
         have HB := n3_
         clear n0_ n1_ n2_ n3_
         have hHeld : w10.cell? ⟨gb213, 0, none⟩ = some (.slice A0_0 l0_0.length c0_0) ∧ w10.cell? ⟨gb213, 1, none⟩ = some (.slice A0_1 l0_1.length c0_1) ∧ w10.cell? ⟨gb213, 2, none⟩ = some (.slice A0_2 l0_2.length c0_2) ∧ w10.cell? ⟨gb213, 3, none⟩ = some (.int .i64 a0_3) ∧ w10.cell? ⟨gb213, 4, none⟩ = some (.int .i64 a0_4) := hS_
         refine norm_ (a' := ?_) ?_ ?_
         rotate_left
         ·simp only [putAll, Act.put, List.setIfInBounds_toArray, List.set_cons_zero, List.set_cons_succ]
          rfl
         refine two_ (i := 2) (j := 7) (Ni := some 5) (Nj := some 10) #[true, true, true, true, true, true, false, false, true, true, false, true, true, true, true, false, false] #[true, true, false, true, true, true, false, true, true, true, false, true, true, true, true, false, false] rfl rfl rfl rfl (two_of HT_.out (by kernel_rfl)) (by decide) (by decide) (fun K hK => ?_) (fun K hK => ?_)
         ·skip
          refine goes_ Try.func41 (by kernel_rfl) rfl #[.slice A0_0 l0_0.length c0_0] (by rfl) rfl rfl ab5 ?_
          with_reducible refine (spec_l6Copy.calls k _ _ l0_0 t215 _ ?side1 ?side2 A2.out).mono ?_
          (case side1 => repeat (first | exact (Kd.C_below HR0_0.out HB.out) | (with_reducible refine Kd.C_alloc ?_ _) | (with_reducible refine Kd.C_drewN ?_ _) | (with_reducible refine Kd.C_drew ?_)))
          (case side2 => exact HC0_0.out)
          rintro e w11 ⟨v216, rfl, ho0, hb⟩
          refine ⟨_, rfl, ?_⟩
          have HO217 := am (Kd.S_lower (Kd.S_new' ho0 (Kd.R_lt (ab8 HO220))) (below_size ba_))
          replace HO220 := am (Kd.R_below (ab8 HO220) hb)
          replace BK213 := bl_ BK213 hb
          replace BK214 := bl_ BK214 hb
          replace HB := am (below_step ba_ hb)
          (try clear hb)
          (try clear hb2)
          (try clear hk)
          (try clear hi)
          (try clear ho0)
          refine hK.out _ _ ⟨(blk_cell BK213.out 0).trans rfl, (blk_cell BK213.out 1).trans rfl, (blk_cell BK213.out 2).trans rfl, (blk_cell BK213.out 3).trans rfl, (blk_cell BK213.out 4).trans rfl⟩ (fun hHeld => ?_)
          clear hK K
          refine norm_ (a' := ?_) ?_ ?_
          rotate_left
          ·show Act.put _ (some 5) _ = _
           simp only [Act.put, List.setIfInBounds_toArray, List.set_cons_zero, List.set_cons_succ, i64_w, i32_w]
           rfl
          exact norm_ (by first | (simp only [putAll, Act.put, List.setIfInBounds_toArray, List.set_cons_zero, List.set_cons_succ]; done) | (simp only [putAll, Act.put, List.setIfInBounds_toArray, List.set_cons_zero, List.set_cons_succ]; rfl)) (hJ2_3 (v216, v219) _ ⟨hHeld, (by (with_reducible repeat (first | apply Kd.S_alloc | apply Kd.S_drewN | apply Kd.S_drew)); exact Kd.S_mono HO217.out (fun _ hk => hk.2)), (ab8 HO220), (ab3 BK213), (ab3 BK214), ba_⟩)
         ·skip
          refine Kd.R_lit_step (Kd.int .i64) _ 3 ?hg (N := 10) ?hd (xs := ([] : List Int)) (inner := []) (ok := fun _ => True) (okp := fun _ => True) ?hr ?hp (fun _ hk => hk) trivial (Below.refl _ _) (Nat.le_refl _) (by simp) ?_; (case hd => rfl); (case hg => rfl); (case hr => first | (go_simp; done) | (go_simp; rfl)); (case hp => exact (Reps.none _ _))
          intro v225 w11 ho12 hb hg_ hnew_
          clear hg_ hnew_
          (first | rw [← Ny224.out] at ho12 | (simp only [Int.reduceToNat] at ho12; rw [← Ny224.out] at ho12))
          have HO226 := am (Kd.R_lower (Kd.R_new' ho12 (Kd.R_lt (ab8 HO220))) (below_size ba_))
          replace HO220 := am (Kd.R_elder' (ab8 HO220) (Kd.R_base ho12) hb)
          replace BK213 := bl_ BK213 hb
          replace BK214 := bl_ BK214 hb
          replace HB := am (below_step ba_ hb)
          clear hb ho12
          refine hK.out _ _ ⟨(blk_cell BK213.out 0).trans rfl, (blk_cell BK213.out 1).trans rfl, (blk_cell BK213.out 2).trans rfl, (blk_cell BK213.out 3).trans rfl, (blk_cell BK213.out 4).trans rfl⟩ (fun hHeld => ?_)
          clear hK K
          refine norm_ (a' := ?_) ?_ ?_
          rotate_left
          ·show Act.put _ (some 10) _ = _
           simp only [Act.put, List.setIfInBounds_toArray, List.set_cons_zero, List.set_cons_succ, i64_w, i32_w]
           rfl
          exact norm_ (by first | (simp only [putAll, Act.put, List.setIfInBounds_toArray, List.set_cons_zero, List.set_cons_succ]; done) | (simp only [putAll, Act.put, List.setIfInBounds_toArray, List.set_cons_zero, List.set_cons_succ]; rfl)) (hJ3_7 (v219, v225) _ ⟨hHeld, (by (with_reducible repeat (first | apply Kd.R_alloc | apply Kd.R_drewN | apply Kd.R_drew)); exact Kd.R_mono HO220.out (fun _ hk => hk.2)), (by (with_reducible repeat (first | apply Kd.R_alloc | apply Kd.R_drewN | apply Kd.R_drew)); exact Kd.R_mono HO226.out (fun _ hk => hk.2)), (ab3 BK213), (ab3 BK214), ba_⟩)
       ·skip
        rintro v216 w9 ⟨hS_, h0_, h1_, h2_, h3_⟩
        have n0_ : Aside0 (Kd.S k38 38 w9 w.heap.size (fun _ => True) v216 t215) := ⟨h0_⟩
        have n1_ : Aside0 (w9.heap[gb213]? = some (.cells #[.slice A0_0 l0_0.length c0_0, .slice A0_1 l0_1.length c0_1, .slice A0_2 l0_2.length c0_2, .int .i64 a0_3, .int .i64 a0_4] 33 (0, 0))) := ⟨h1_⟩
        have n2_ : Aside0 (w9.heap[gb214]? = some (.cells #[.slice none 0 0, .slice none 0 0, .slice none 0 0, .int .i64 0, .int .i64 0] 33 (0, 0))) := ⟨h2_⟩
        have n3_ : Aside0 (Below w.heap.size w w9) := ⟨h3_⟩
        clear BK213
        clear BK214
        clear HB
        clear h0_ h1_ h2_ h3_
        have HO217 := n0_
        have BK213 := n1_
        have BK214 := n2_
        have HB := n3_
        clear n0_ n1_ n2_ n3_
        have hHeld : w9.cell? ⟨gb213, 0, none⟩ = some (.slice A0_0 l0_0.length c0_0) ∧ w9.cell? ⟨gb213, 1, none⟩ = some (.slice A0_1 l0_1.length c0_1) ∧ w9.cell? ⟨gb213, 2, none⟩ = some (.slice A0_2 l0_2.length c0_2) ∧ w9.cell? ⟨gb213, 3, none⟩ = some (.int .i64 a0_3) ∧ w9.cell? ⟨gb213, 4, none⟩ = some (.int .i64 a0_4) := hS_
        refine norm_ (a' := ?_) ?_ ?_
        rotate_left
        ·simp only [putAll, Act.put, List.setIfInBounds_toArray, List.set_cons_zero, List.set_cons_succ]
         rfl
        refine two_ (i := 3) (j := 7) (Ni := some 6) (Nj := some 10) #[true, true, true, true, true, true, false, false, true, true, false, true, true, true, true, false, false] #[true, true, true, false, true, true, false, true, true, true, false, true, true, true, true, false, false] rfl rfl rfl rfl (two_of HT_.out (by kernel_rfl)) (by decide) (by decide) (fun K hK => ?_) (fun K hK => ?_)
        ·skip
         refine Kd.R_lit_step (Kd.int .i64) _ 3 ?hg (N := 6) ?hd (xs := ([] : List Int)) (inner := []) (ok := fun _ => True) (okp := fun _ => True) ?hr ?hp (fun _ hk => hk) trivial (Below.refl _ _) (Nat.le_refl _) (by simp) ?_; (case hd => rfl); (case hg => rfl); (case hr => first | (go_simp; done) | (go_simp; rfl)); (case hp => exact (Reps.none _ _))
         intro v219 w10 ho11 hb hg_ hnew_
         clear hg_ hnew_
         (first | rw [← Ny218.out] at ho11 | (simp only [Int.reduceToNat] at ho11; rw [← Ny218.out] at ho11))
         replace HO217 := am (Kd.S_elder' (by (with_reducible repeat (first | apply Kd.S_alloc | apply Kd.S_drewN | apply Kd.S_drew)); exact HO217.out) (Kd.R_base ho11) hb)
         have HO220 := am (Kd.R_lower ho11 (below_size ba_))
         replace BK213 := bl_ BK213 hb
         replace BK214 := bl_ BK214 hb
         replace HB := am (below_step ba_ hb)
         clear hb ho11
         refine hK.out _ _ ⟨(blk_cell BK213.out 0).trans rfl, (blk_cell BK213.out 1).trans rfl, (blk_cell BK213.out 2).trans rfl, (blk_cell BK213.out 3).trans rfl, (blk_cell BK213.out 4).trans rfl⟩ (fun hHeld => ?_)
         clear hK K
         refine norm_ (a' := ?_) ?_ ?_
         rotate_left
         ·show Act.put _ (some 6) _ = _
          simp only [Act.put, List.setIfInBounds_toArray, List.set_cons_zero, List.set_cons_succ, i64_w, i32_w]
          rfl
         exact norm_ (by first | (simp only [putAll, Act.put, List.setIfInBounds_toArray, List.set_cons_zero, List.set_cons_succ]; done) | (simp only [putAll, Act.put, List.setIfInBounds_toArray, List.set_cons_zero, List.set_cons_succ]; rfl)) (hJ2_3 (v216, v219) _ ⟨hHeld, (by (with_reducible repeat (first | apply Kd.S_alloc | apply Kd.S_drewN | apply Kd.S_drew)); exact Kd.S_mono HO217.out (fun _ hk => hk.2)), (ab8 HO220), (ab3 BK213), (ab3 BK214), ba_⟩)
        ·skip
         refine Kd.R_lit_step (Kd.int .i64) _ 3 ?hg (N := 10) ?hd (xs := ([] : List Int)) (inner := []) (ok := fun _ => True) (okp := fun _ => True) ?hr ?hp (fun _ hk => hk) trivial (Below.refl _ _) (Nat.le_refl _) (by simp) ?_; (case hd => rfl); (case hg => rfl); (case hr => first | (go_simp; done) | (go_simp; rfl)); (case hp => exact (Reps.none _ _))
         intro v225 w10 ho11 hb hg_ hnew_
         clear hg_ hnew_
         (first | rw [← Ny224.out] at ho11 | (simp only [Int.reduceToNat] at ho11; rw [← Ny224.out] at ho11))
         replace HO217 := am (Kd.S_elder' (by (with_reducible repeat (first | apply Kd.S_alloc | apply Kd.S_drewN | apply Kd.S_drew)); exact HO217.out) (Kd.R_base ho11) hb)
         have HO226 := am (Kd.R_lower ho11 (below_size ba_))
         replace BK213 := bl_ BK213 hb
         replace BK214 := bl_ BK214 hb
         replace HB := am (below_step ba_ hb)
         clear hb ho11
         refine hK.out _ _ ⟨(blk_cell BK213.out 0).trans rfl, (blk_cell BK213.out 1).trans rfl, (blk_cell BK213.out 2).trans rfl, (blk_cell BK213.out 3).trans rfl, (blk_cell BK213.out 4).trans rfl⟩ (fun hHeld => ?_)
         clear hK K
         refine norm_ (a' := ?_) ?_ ?_
         rotate_left
         ·show Act.put _ (some 10) _ = _
          simp only [Act.put, List.setIfInBounds_toArray, List.set_cons_zero, List.set_cons_succ, i64_w, i32_w]
          rfl
         exact norm_ (by first | (simp only [putAll, Act.put, List.setIfInBounds_toArray, List.set_cons_zero, List.set_cons_succ]; done) | (simp only [putAll, Act.put, List.setIfInBounds_toArray, List.set_cons_zero, List.set_cons_succ]; rfl)) (hJ2_7 (v216, v225) _ ⟨hHeld, (by (with_reducible repeat (first | apply Kd.S_alloc | apply Kd.S_drewN | apply Kd.S_drew)); exact Kd.S_mono HO217.out (fun _ hk => hk.2)), (ab8 HO226), (ab3 BK213), (ab3 BK214), ba_⟩)
      ·skip
       rintro ⟨v219, v225⟩ w12 ⟨hS_, h0_, h1_, h2_, h3_, h4_⟩
       have n0_ : Aside0 (Kd.R (Kd.int .i64) 3 w12 w.heap.size (fun k_ => some k_ ≠ (v225 : Value).ownBlock) v219 y218) := ⟨h0_⟩
       have n1_ : Aside0 (Kd.R (Kd.int .i64) 3 w12 w.heap.size (fun k_ => some k_ ≠ (v219 : Value).ownBlock) v225 y224) := ⟨h1_⟩
       have n2_ : Aside0 (w12.heap[gb213]? = some (.cells #[.slice A0_0 l0_0.length c0_0, .slice A0_1 l0_1.length c0_1, .slice A0_2 l0_2.length c0_2, .int .i64 a0_3, .int .i64 a0_4] 33 (0, 0))) := ⟨h2_⟩
       have n3_ : Aside0 (w12.heap[gb214]? = some (.cells #[.slice none 0 0, .slice none 0 0, .slice none 0 0, .int .i64 0, .int .i64 0] 33 (0, 0))) := ⟨h3_⟩
       have n4_ : Aside0 (Below w.heap.size w w12) := ⟨h4_⟩
       clear BK213
       clear BK214
       clear HB
       clear h0_ h1_ h2_ h3_ h4_
       have HO220 := n0_
       have HO226 := n1_
       have BK213 := n2_
       have BK214 := n3_
       have HB := n4_
       clear n0_ n1_ n2_ n3_ n4_
       have hHeld : w12.cell? ⟨gb213, 0, none⟩ = some (.slice A0_0 l0_0.length c0_0) ∧ w12.cell? ⟨gb213, 1, none⟩ = some (.slice A0_1 l0_1.length c0_1) ∧ w12.cell? ⟨gb213, 2, none⟩ = some (.slice A0_2 l0_2.length c0_2) ∧ w12.cell? ⟨gb213, 3, none⟩ = some (.int .i64 a0_3) ∧ w12.cell? ⟨gb213, 4, none⟩ = some (.int .i64 a0_4) := hS_
       refine norm_ (a' := ?_) ?_ ?_
       rotate_left
       ·simp only [putAll, Act.put, List.setIfInBounds_toArray, List.set_cons_zero, List.set_cons_succ]
        rfl
       refine on_ 2 5 HT_ fun K hK => ?_
       refine goes_ Try.func41 (by kernel_rfl) rfl #[.slice A0_0 l0_0.length c0_0] (by rfl) rfl rfl ab5 ?_
       with_reducible refine (spec_l6Copy.calls k _ _ l0_0 t215 _ ?side1 ?side2 A2.out).mono ?_
       (case side1 => repeat (first | exact (Kd.C_below HR0_0.out HB.out) | (with_reducible refine Kd.C_alloc ?_ _) | (with_reducible refine Kd.C_drewN ?_ _) | (with_reducible refine Kd.C_drew ?_)))
       (case side2 => exact HC0_0.out)
       rintro e w13 ⟨v216, rfl, ho0, hb⟩
       refine ⟨_, rfl, ?_⟩
       have HO217 := am (Kd.S_lower (Kd.S_new' (Kd.S_new' ho0 (Kd.R_lt (ab8 HO220))) (Kd.R_lt (ab8 HO226))) (below_size ba_))
       replace HO220 := am (Kd.R_below (ab8 HO220) hb)
       replace HO226 := am (Kd.R_below (ab8 HO226) hb)
       replace BK213 := bl_ BK213 hb
       replace BK214 := bl_ BK214 hb
       replace HB := am (below_step ba_ hb)
       (try clear hb)
       (try clear hb2)
       (try clear hk)
       (try clear hi)
       (try clear ho0)
       refine hK.out _ _ ⟨(blk_cell BK213.out 0).trans rfl, (blk_cell BK213.out 1).trans rfl, (blk_cell BK213.out 2).trans rfl, (blk_cell BK213.out 3).trans rfl, (blk_cell BK213.out 4).trans rfl⟩ (fun hHeld => ?_)
       clear hK K
       refine norm_ (a' := ?_) ?_ ?_
       rotate_left
       ·show Act.put _ (some 5) _ = _
        simp only [Act.put, List.setIfInBounds_toArray, List.set_cons_zero, List.set_cons_succ, i64_w, i32_w]
        rfl
       exact norm_ (by first | (simp only [putAll, Act.put, List.setIfInBounds_toArray, List.set_cons_zero, List.set_cons_succ]; done) | (simp only [putAll, Act.put, List.setIfInBounds_toArray, List.set_cons_zero, List.set_cons_succ]; rfl)) (hJ2_3_7 (v216, v219, v225) _ ⟨hHeld, (by (with_reducible repeat (first | apply Kd.S_alloc | apply Kd.S_drewN | apply Kd.S_drew)); exact Kd.S_mono HO217.out (fun _ hk => ⟨hk.1.2, hk.2⟩)), (ab8 HO220), (ab8 HO226), (ab3 BK213), (ab3 BK214), ba_⟩)
     ·skip
      rintro ⟨v216, v225⟩ w11 ⟨hS_, h0_, h1_, h2_, h3_, h4_⟩
      have n0_ : Aside0 (Kd.S k38 38 w11 w.heap.size (fun k_ => some k_ ≠ (v225 : Value).ownBlock) v216 t215) := ⟨h0_⟩
      have n1_ : Aside0 (Kd.R (Kd.int .i64) 3 w11 w.heap.size (fun _ => True) v225 y224) := ⟨h1_⟩
      have n2_ : Aside0 (w11.heap[gb213]? = some (.cells #[.slice A0_0 l0_0.length c0_0, .slice A0_1 l0_1.length c0_1, .slice A0_2 l0_2.length c0_2, .int .i64 a0_3, .int .i64 a0_4] 33 (0, 0))) := ⟨h2_⟩
      have n3_ : Aside0 (w11.heap[gb214]? = some (.cells #[.slice none 0 0, .slice none 0 0, .slice none 0 0, .int .i64 0, .int .i64 0] 33 (0, 0))) := ⟨h3_⟩
      have n4_ : Aside0 (Below w.heap.size w w11) := ⟨h4_⟩
      clear BK213
      clear BK214
      clear HB
      clear h0_ h1_ h2_ h3_ h4_
      have HO217 := n0_
      have HO226 := n1_
      have BK213 := n2_
      have BK214 := n3_
      have HB := n4_
      clear n0_ n1_ n2_ n3_ n4_
      have hHeld : w11.cell? ⟨gb213, 0, none⟩ = some (.slice A0_0 l0_0.length c0_0) ∧ w11.cell? ⟨gb213, 1, none⟩ = some (.slice A0_1 l0_1.length c0_1) ∧ w11.cell? ⟨gb213, 2, none⟩ = some (.slice A0_2 l0_2.length c0_2) ∧ w11.cell? ⟨gb213, 3, none⟩ = some (.int .i64 a0_3) ∧ w11.cell? ⟨gb213, 4, none⟩ = some (.int .i64 a0_4) := hS_
      refine norm_ (a' := ?_) ?_ ?_
      rotate_left
      ·simp only [putAll, Act.put, List.setIfInBounds_toArray, List.set_cons_zero, List.set_cons_succ]
       rfl
      refine on_ 3 6 HT_ fun K hK => ?_
      refine Kd.R_lit_step (Kd.int .i64) _ 3 ?hg (N := 6) ?hd (xs := ([] : List Int)) (inner := []) (ok := fun _ => True) (okp := fun _ => True) ?hr ?hp (fun _ hk => hk) trivial (Below.refl _ _) (Nat.le_refl _) (by simp) ?_; (case hd => rfl); (case hg => rfl); (case hr => first | (go_simp; done) | (go_simp; rfl)); (case hp => exact (Reps.none _ _))
      intro v219 w12 ho13 hb hg_ hnew_
      clear hg_ hnew_
      (first | rw [← Ny218.out] at ho13 | (simp only [Int.reduceToNat] at ho13; rw [← Ny218.out] at ho13))
      replace HO217 := am (Kd.S_elder' (by (with_reducible repeat (first | apply Kd.S_alloc | apply Kd.S_drewN | apply Kd.S_drew)); exact HO217.out) (Kd.R_base ho13) hb)
      have HO220 := am (Kd.R_lower (Kd.R_new' ho13 (Kd.R_lt (ab8 HO226))) (below_size ba_))
      replace HO226 := am (Kd.R_elder' (ab8 HO226) (Kd.R_base ho13) hb)
      replace BK213 := bl_ BK213 hb
      replace BK214 := bl_ BK214 hb
      replace HB := am (below_step ba_ hb)
      clear hb ho13
      refine hK.out _ _ ⟨(blk_cell BK213.out 0).trans rfl, (blk_cell BK213.out 1).trans rfl, (blk_cell BK213.out 2).trans rfl, (blk_cell BK213.out 3).trans rfl, (blk_cell BK213.out 4).trans rfl⟩ (fun hHeld => ?_)
      clear hK K
      refine norm_ (a' := ?_) ?_ ?_
      rotate_left
      ·show Act.put _ (some 6) _ = _
       simp only [Act.put, List.setIfInBounds_toArray, List.set_cons_zero, List.set_cons_succ, i64_w, i32_w]
       rfl
      exact norm_ (by first | (simp only [putAll, Act.put, List.setIfInBounds_toArray, List.set_cons_zero, List.set_cons_succ]; done) | (simp only [putAll, Act.put, List.setIfInBounds_toArray, List.set_cons_zero, List.set_cons_succ]; rfl)) (hJ2_3_7 (v216, v219, v225) _ ⟨hHeld, (by (with_reducible repeat (first | apply Kd.S_alloc | apply Kd.S_drewN | apply Kd.S_drew)); exact Kd.S_mono HO217.out (fun _ hk => ⟨hk.2, hk.1⟩)), (by (with_reducible repeat (first | apply Kd.R_alloc | apply Kd.R_drewN | apply Kd.R_drew)); exact Kd.R_mono HO220.out (fun _ hk => hk.2)), (by (with_reducible repeat (first | apply Kd.R_alloc | apply Kd.R_drewN | apply Kd.R_drew)); exact Kd.R_mono HO226.out (fun _ hk => hk.2)), (ab3 BK213), (ab3 BK214), ba_⟩)
    ·skip
     rintro ⟨v216, v219⟩ w11 ⟨hS_, h0_, h1_, h2_, h3_, h4_⟩
     have n0_ : Aside0 (Kd.S k38 38 w11 w.heap.size (fun k_ => some k_ ≠ (v219 : Value).ownBlock) v216 t215) := ⟨h0_⟩
     have n1_ : Aside0 (Kd.R (Kd.int .i64) 3 w11 w.heap.size (fun _ => True) v219 y218) := ⟨h1_⟩
     have n2_ : Aside0 (w11.heap[gb213]? = some (.cells #[.slice A0_0 l0_0.length c0_0, .slice A0_1 l0_1.length c0_1, .slice A0_2 l0_2.length c0_2, .int .i64 a0_3, .int .i64 a0_4] 33 (0, 0))) := ⟨h2_⟩
     have n3_ : Aside0 (w11.heap[gb214]? = some (.cells #[.slice none 0 0, .slice none 0 0, .slice none 0 0, .int .i64 0, .int .i64 0] 33 (0, 0))) := ⟨h3_⟩
     have n4_ : Aside0 (Below w.heap.size w w11) := ⟨h4_⟩
     clear BK213
     clear BK214
     clear HB
     clear h0_ h1_ h2_ h3_ h4_
     have HO217 := n0_
     have HO220 := n1_
     have BK213 := n2_
     have BK214 := n3_
     have HB := n4_
     clear n0_ n1_ n2_ n3_ n4_
     have hHeld : w11.cell? ⟨gb213, 0, none⟩ = some (.slice A0_0 l0_0.length c0_0) ∧ w11.cell? ⟨gb213, 1, none⟩ = some (.slice A0_1 l0_1.length c0_1) ∧ w11.cell? ⟨gb213, 2, none⟩ = some (.slice A0_2 l0_2.length c0_2) ∧ w11.cell? ⟨gb213, 3, none⟩ = some (.int .i64 a0_3) ∧ w11.cell? ⟨gb213, 4, none⟩ = some (.int .i64 a0_4) := hS_
     refine norm_ (a' := ?_) ?_ ?_
     rotate_left
     ·simp only [putAll, Act.put, List.setIfInBounds_toArray, List.set_cons_zero, List.set_cons_succ]
      rfl
     refine two_ (i := 6) (j := 7) (Ni := some 9) (Nj := some 10) #[true, true, true, true, true, true, true, false, true, true, false, true, true, true, true, false, false] #[true, true, true, true, true, true, false, true, true, true, false, true, true, true, true, false, false] rfl rfl rfl rfl (two_of HT_.out (by kernel_rfl)) (by decide) (by decide) (fun K hK => ?_) (fun K hK => ?_)
     ·skip
      refine Kd.R_append_rows_step (Kd.int .i64) (w0 := w) w.heap.size (by rfl) (.tmp 6) (.tmp 8) 23 3 (.int .i64 0) 8 rfl Try.underlying23 info3 rfl (by decide) (by omega) v219 y218 l0_1 _ _ _ (fun _ => True) (fun _ => False) rfl rfl ?aO ?aR (fun _ _ h => h) (fun _ h => h.elim) ?aF ?aB ?aS ?aL ?_
      (case aR => repeat (first | exact (Kd.C_below HR0_1.out HB.out) | (with_reducible refine Kd.C_alloc ?_ _) | (with_reducible refine Kd.C_drewN ?_ _) | (with_reducible refine Kd.C_drew ?_)))
      (case aB => exact ba_)
      (case aF => exact (fun _ _ => trivial))
      (case aO => exact (ab8 HO220))
      (case aS => exact (below_size ba_))
      (case aL => have := LMc3.out; omega)
      intro v222 w12 ho hb hg hat
      rw [← Ny221.out] at ho
      replace BK213 := bg_ BK213 hg (Kd.R_ne HO220.out BK213.out (by decide))
      replace BK214 := bg_ BK214 hg (Kd.R_ne HO220.out BK214.out (by decide))
      replace HO217 := am (Kd.S_after (ok := (fun _ => True)) (by (with_reducible repeat (first | apply Kd.S_alloc | apply Kd.S_drewN | apply Kd.S_drew)); exact Kd.S_mono HO217.out (fun _ hk => ⟨trivial, hk⟩)) hg hat)
      replace HB := am hb
      have HO223 := am ho
      clear HO220
      clear ho hb hg hat
      refine hK.out _ _ ⟨(blk_cell BK213.out 0).trans rfl, (blk_cell BK213.out 1).trans rfl, (blk_cell BK213.out 2).trans rfl, (blk_cell BK213.out 3).trans rfl, (blk_cell BK213.out 4).trans rfl⟩ (fun hHeld => ?_)
      clear hK K
      refine norm_ (a' := ?_) ?_ ?_
      rotate_left
      ·show Act.put _ (some 9) _ = _
       simp only [Act.put, List.setIfInBounds_toArray, List.set_cons_zero, List.set_cons_succ, i64_w, i32_w]
       rfl
      exact norm_ (by first | (simp only [putAll, Act.put, List.setIfInBounds_toArray, List.set_cons_zero, List.set_cons_succ]; done) | (simp only [putAll, Act.put, List.setIfInBounds_toArray, List.set_cons_zero, List.set_cons_succ]; rfl)) (hJ2_3_6 (v216, v219, v222) _ ⟨hHeld, (by (with_reducible repeat (first | apply Kd.S_alloc | apply Kd.S_drewN | apply Kd.S_drew)); exact Kd.S_mono HO217.out (fun _ hk => hk.2)), (ab8 HO223), (ab3 BK213), (ab3 BK214), ba_⟩)
     ·skip
      refine Kd.R_lit_step (Kd.int .i64) _ 3 ?hg (N := 10) ?hd (xs := ([] : List Int)) (inner := []) (ok := fun _ => True) (okp := fun _ => True) ?hr ?hp (fun _ hk => hk) trivial (Below.refl _ _) (Nat.le_refl _) (by simp) ?_; (case hd => rfl); (case hg => rfl); (case hr => first | (go_simp; done) | (go_simp; rfl)); (case hp => exact (Reps.none _ _))
      intro v225 w12 ho13 hb hg_ hnew_
      clear hg_ hnew_
      (first | rw [← Ny224.out] at ho13 | (simp only [Int.reduceToNat] at ho13; rw [← Ny224.out] at ho13))
      replace HO217 := am (Kd.S_elder' (by (with_reducible repeat (first | apply Kd.S_alloc | apply Kd.S_drewN | apply Kd.S_drew)); exact HO217.out) (Kd.R_base ho13) hb)
      have HO226 := am (Kd.R_lower (Kd.R_new' ho13 (Kd.R_lt (ab8 HO220))) (below_size ba_))
      replace HO220 := am (Kd.R_elder' (ab8 HO220) (Kd.R_base ho13) hb)
      replace BK213 := bl_ BK213 hb
      replace BK214 := bl_ BK214 hb
      replace HB := am (below_step ba_ hb)
      clear hb ho13
      refine hK.out _ _ ⟨(blk_cell BK213.out 0).trans rfl, (blk_cell BK213.out 1).trans rfl, (blk_cell BK213.out 2).trans rfl, (blk_cell BK213.out 3).trans rfl, (blk_cell BK213.out 4).trans rfl⟩ (fun hHeld => ?_)
      clear hK K
      refine norm_ (a' := ?_) ?_ ?_
      rotate_left
      ·show Act.put _ (some 10) _ = _
       simp only [Act.put, List.setIfInBounds_toArray, List.set_cons_zero, List.set_cons_succ, i64_w, i32_w]
       rfl
      exact norm_ (by first | (simp only [putAll, Act.put, List.setIfInBounds_toArray, List.set_cons_zero, List.set_cons_succ]; done) | (simp only [putAll, Act.put, List.setIfInBounds_toArray, List.set_cons_zero, List.set_cons_succ]; rfl)) (hJ2_3_7 (v216, v219, v225) _ ⟨hHeld, (by (with_reducible repeat (first | apply Kd.S_alloc | apply Kd.S_drewN | apply Kd.S_drew)); exact HO217.out), (by (with_reducible repeat (first | apply Kd.R_alloc | apply Kd.R_drewN | apply Kd.R_drew)); exact Kd.R_mono HO220.out (fun _ hk => hk.2)), (by (with_reducible repeat (first | apply Kd.R_alloc | apply Kd.R_drewN | apply Kd.R_drew)); exact Kd.R_mono HO226.out (fun _ hk => hk.2)), (ab3 BK213), (ab3 BK214), ba_⟩)
   ·skip
    rintro ⟨v216, v219, v225⟩ w13 ⟨hS_, h0_, h1_, h2_, h3_, h4_, h5_⟩
    have n0_ : Aside0 (Kd.S k38 38 w13 w.heap.size (fun k_ => some k_ ≠ (v219 : Value).ownBlock ∧ some k_ ≠ (v225 : Value).ownBlock) v216 t215) := ⟨h0_⟩
    have n1_ : Aside0 (Kd.R (Kd.int .i64) 3 w13 w.heap.size (fun k_ => some k_ ≠ (v225 : Value).ownBlock) v219 y218) := ⟨h1_⟩
    have n2_ : Aside0 (Kd.R (Kd.int .i64) 3 w13 w.heap.size (fun k_ => some k_ ≠ (v219 : Value).ownBlock) v225 y224) := ⟨h2_⟩
    have n3_ : Aside0 (w13.heap[gb213]? = some (.cells #[.slice A0_0 l0_0.length c0_0, .slice A0_1 l0_1.length c0_1, .slice A0_2 l0_2.length c0_2, .int .i64 a0_3, .int .i64 a0_4] 33 (0, 0))) := ⟨h3_⟩
    have n4_ : Aside0 (w13.heap[gb214]? = some (.cells #[.slice none 0 0, .slice none 0 0, .slice none 0 0, .int .i64 0, .int .i64 0] 33 (0, 0))) := ⟨h4_⟩
    have n5_ : Aside0 (Below w.heap.size w w13) := ⟨h5_⟩
    clear BK213
    clear BK214
    clear HB
    clear h0_ h1_ h2_ h3_ h4_ h5_
    have HO217 := n0_
    have HO220 := n1_
    have HO226 := n2_
    have BK213 := n3_
    have BK214 := n4_
    have HB := n5_
    clear n0_ n1_ n2_ n3_ n4_ n5_
    have hHeld : w13.cell? ⟨gb213, 0, none⟩ = some (.slice A0_0 l0_0.length c0_0) ∧ w13.cell? ⟨gb213, 1, none⟩ = some (.slice A0_1 l0_1.length c0_1) ∧ w13.cell? ⟨gb213, 2, none⟩ = some (.slice A0_2 l0_2.length c0_2) ∧ w13.cell? ⟨gb213, 3, none⟩ = some (.int .i64 a0_3) ∧ w13.cell? ⟨gb213, 4, none⟩ = some (.int .i64 a0_4) := hS_
    refine norm_ (a' := ?_) ?_ ?_
    rotate_left
    ·simp only [putAll, Act.put, List.setIfInBounds_toArray, List.set_cons_zero, List.set_cons_succ]
     rfl
    refine on_ 6 9 HT_ fun K hK => ?_
    refine Kd.R_append_rows_step (Kd.int .i64) (w0 := w) w.heap.size (by rfl) (.tmp 6) (.tmp 8) 23 3 (.int .i64 0) 8 rfl Try.underlying23 info3 rfl (by decide) (by omega) v219 y218 l0_1 _ _ _ (fun k_ => some k_ ≠ (v225 : Value).ownBlock) (fun _ => False) rfl rfl ?aO ?aR (fun _ _ h => h) (fun _ h => h.elim) ?aF ?aB ?aS ?aL ?_
    (case aR => repeat (first | exact (Kd.C_below HR0_1.out HB.out) | (with_reducible refine Kd.C_alloc ?_ _) | (with_reducible refine Kd.C_drewN ?_ _) | (with_reducible refine Kd.C_drew ?_)))
    (case aB => exact ba_)
    (case aF => exact (fun k_ hk => Kd.fresh' (Kd.R_lt (ab8 HO226)) k_ hk))
    (case aO => exact (ab8 HO220))
    (case aS => exact (below_size ba_))
    (case aL => have := LMc3.out; omega)
    intro v222 w14 ho hb hg hat
    rw [← Ny221.out] at ho
    replace BK213 := bg_ BK213 hg (Kd.R_ne HO220.out BK213.out (by decide))
    replace BK214 := bg_ BK214 hg (Kd.R_ne HO220.out BK214.out (by decide))
    replace HO217 := am (Kd.S_after (ok := (fun k_ => some k_ ≠ (v225 : Value).ownBlock)) (by (with_reducible repeat (first | apply Kd.S_alloc | apply Kd.S_drewN | apply Kd.S_drew)); exact Kd.S_mono HO217.out (fun _ hk => ⟨hk.2, hk.1⟩)) hg hat)
    replace HO226 := am (Kd.R_after (ok := (fun _ => True)) (by (with_reducible repeat (first | apply Kd.R_alloc | apply Kd.R_drewN | apply Kd.R_drew)); exact Kd.R_mono HO226.out (fun _ hk => ⟨trivial, hk⟩)) hg hat)
    replace HB := am hb
    have HO223 := am ho
    clear HO220
    clear ho hb hg hat
    refine hK.out _ _ ⟨(blk_cell BK213.out 0).trans rfl, (blk_cell BK213.out 1).trans rfl, (blk_cell BK213.out 2).trans rfl, (blk_cell BK213.out 3).trans rfl, (blk_cell BK213.out 4).trans rfl⟩ (fun hHeld => ?_)
    clear hK K
    refine norm_ (a' := ?_) ?_ ?_
    rotate_left
    ·show Act.put _ (some 9) _ = _
     simp only [Act.put, List.setIfInBounds_toArray, List.set_cons_zero, List.set_cons_succ, i64_w, i32_w]
     rfl
    exact norm_ (by first | (simp only [putAll, Act.put, List.setIfInBounds_toArray, List.set_cons_zero, List.set_cons_succ]; done) | (simp only [putAll, Act.put, List.setIfInBounds_toArray, List.set_cons_zero, List.set_cons_succ]; rfl)) (hJ2_3_6_7 (v216, v219, v222, v225) _ ⟨hHeld, (by (with_reducible repeat (first | apply Kd.S_alloc | apply Kd.S_drewN | apply Kd.S_drew)); exact Kd.S_mono HO217.out (fun _ hk => ⟨hk.2, hk.1⟩)), (ab8 HO223), (by (with_reducible repeat (first | apply Kd.R_alloc | apply Kd.R_drewN | apply Kd.R_drew)); exact Kd.R_mono HO226.out (fun _ hk => hk.2)), (ab3 BK213), (ab3 BK214), ba_⟩)
  ·skip
   rintro ⟨v216, v219, v222⟩ w12 ⟨hS_, h0_, h1_, h2_, h3_, h4_⟩
   have n0_ : Aside0 (Kd.S k38 38 w12 w.heap.size (fun k_ => some k_ ≠ (v222 : Value).ownBlock) v216 t215) := ⟨h0_⟩
   have n1_ : Aside0 (Kd.R (Kd.int .i64) 3 w12 w.heap.size (fun _ => True) v222 y221) := ⟨h1_⟩
   have n2_ : Aside0 (w12.heap[gb213]? = some (.cells #[.slice A0_0 l0_0.length c0_0, .slice A0_1 l0_1.length c0_1, .slice A0_2 l0_2.length c0_2, .int .i64 a0_3, .int .i64 a0_4] 33 (0, 0))) := ⟨h2_⟩
   have n3_ : Aside0 (w12.heap[gb214]? = some (.cells #[.slice none 0 0, .slice none 0 0, .slice none 0 0, .int .i64 0, .int .i64 0] 33 (0, 0))) := ⟨h3_⟩
   have n4_ : Aside0 (Below w.heap.size w w12) := ⟨h4_⟩
   clear BK213
   clear BK214
   clear HB
   clear h0_ h1_ h2_ h3_ h4_
   have HO217 := n0_
   have HO223 := n1_
   have BK213 := n2_
   have BK214 := n3_
   have HB := n4_
   clear n0_ n1_ n2_ n3_ n4_
   have hHeld : w12.cell? ⟨gb213, 0, none⟩ = some (.slice A0_0 l0_0.length c0_0) ∧ w12.cell? ⟨gb213, 1, none⟩ = some (.slice A0_1 l0_1.length c0_1) ∧ w12.cell? ⟨gb213, 2, none⟩ = some (.slice A0_2 l0_2.length c0_2) ∧ w12.cell? ⟨gb213, 3, none⟩ = some (.int .i64 a0_3) ∧ w12.cell? ⟨gb213, 4, none⟩ = some (.int .i64 a0_4) := hS_
   refine norm_ (a' := ?_) ?_ ?_
   rotate_left
   ·simp only [putAll, Act.put, List.setIfInBounds_toArray, List.set_cons_zero, List.set_cons_succ]
    rfl
   refine on_ 7 10 HT_ fun K hK => ?_
   refine Kd.R_lit_step (Kd.int .i64) _ 3 ?hg (N := 10) ?hd (xs := ([] : List Int)) (inner := []) (ok := fun _ => True) (okp := fun _ => True) ?hr ?hp (fun _ hk => hk) trivial (Below.refl _ _) (Nat.le_refl _) (by simp) ?_; (case hd => rfl); (case hg => rfl); (case hr => first | (go_simp; done) | (go_simp; rfl)); (case hp => exact (Reps.none _ _))
   intro v225 w13 ho14 hb hg_ hnew_
   clear hg_ hnew_
   (first | rw [← Ny224.out] at ho14 | (simp only [Int.reduceToNat] at ho14; rw [← Ny224.out] at ho14))
   replace HO217 := am (Kd.S_elder' (by (with_reducible repeat (first | apply Kd.S_alloc | apply Kd.S_drewN | apply Kd.S_drew)); exact HO217.out) (Kd.R_base ho14) hb)
   have HO226 := am (Kd.R_lower (Kd.R_new' ho14 (Kd.R_lt (ab8 HO223))) (below_size ba_))
   replace HO223 := am (Kd.R_elder' (ab8 HO223) (Kd.R_base ho14) hb)
   replace BK213 := bl_ BK213 hb
   replace BK214 := bl_ BK214 hb
   replace HB := am (below_step ba_ hb)
   clear hb ho14
   refine hK.out _ _ ⟨(blk_cell BK213.out 0).trans rfl, (blk_cell BK213.out 1).trans rfl, (blk_cell BK213.out 2).trans rfl, (blk_cell BK213.out 3).trans rfl, (blk_cell BK213.out 4).trans rfl⟩ (fun hHeld => ?_)
   clear hK K
   refine norm_ (a' := ?_) ?_ ?_
   rotate_left
   ·show Act.put _ (some 10) _ = _
    simp only [Act.put, List.setIfInBounds_toArray, List.set_cons_zero, List.set_cons_succ, i64_w, i32_w]
    rfl
   exact norm_ (by first | (simp only [putAll, Act.put, List.setIfInBounds_toArray, List.set_cons_zero, List.set_cons_succ]; done) | (simp only [putAll, Act.put, List.setIfInBounds_toArray, List.set_cons_zero, List.set_cons_succ]; rfl)) (hJ2_3_6_7 (v216, v219, v222, v225) _ ⟨hHeld, (by (with_reducible repeat (first | apply Kd.S_alloc | apply Kd.S_drewN | apply Kd.S_drew)); exact HO217.out), (by (with_reducible repeat (first | apply Kd.R_alloc | apply Kd.R_drewN | apply Kd.R_drew)); exact Kd.R_mono HO223.out (fun _ hk => hk.2)), (by (with_reducible repeat (first | apply Kd.R_alloc | apply Kd.R_drewN | apply Kd.R_drew)); exact Kd.R_mono HO226.out (fun _ hk => hk.2)), (ab3 BK213), (ab3 BK214), ba_⟩)
 rintro ⟨v216, v219, v222, v225⟩ w14 ⟨hS_, h0_, h1_, h2_, h3_, h4_, h5_⟩
 have n0_ : Aside0 (Kd.S k38 38 w14 w.heap.size (fun k_ => some k_ ≠ (v222 : Value).ownBlock ∧ some k_ ≠ (v225 : Value).ownBlock) v216 t215) := ⟨h0_⟩
 have n1_ : Aside0 (Kd.R (Kd.int .i64) 3 w14 w.heap.size (fun k_ => some k_ ≠ (v225 : Value).ownBlock) v222 y221) := ⟨h1_⟩
 have n2_ : Aside0 (Kd.R (Kd.int .i64) 3 w14 w.heap.size (fun k_ => some k_ ≠ (v222 : Value).ownBlock) v225 y224) := ⟨h2_⟩
 have n3_ : Aside0 (w14.heap[gb213]? = some (.cells #[.slice A0_0 l0_0.length c0_0, .slice A0_1 l0_1.length c0_1, .slice A0_2 l0_2.length c0_2, .int .i64 a0_3, .int .i64 a0_4] 33 (0, 0))) := ⟨h3_⟩
 have n4_ : Aside0 (w14.heap[gb214]? = some (.cells #[.slice none 0 0, .slice none 0 0, .slice none 0 0, .int .i64 0, .int .i64 0] 33 (0, 0))) := ⟨h4_⟩
 have n5_ : Aside0 (Below w.heap.size w w14) := ⟨h5_⟩
 clear BK213
 clear BK214
 clear HB
 clear h0_ h1_ h2_ h3_ h4_ h5_
 have HO217 := n0_
 have HO223 := n1_
 have HO226 := n2_
 have BK213 := n3_
 have BK214 := n4_
 have HB := n5_
 clear n0_ n1_ n2_ n3_ n4_ n5_
 have hHeld : w14.cell? ⟨gb213, 0, none⟩ = some (.slice A0_0 l0_0.length c0_0) ∧ w14.cell? ⟨gb213, 1, none⟩ = some (.slice A0_1 l0_1.length c0_1) ∧ w14.cell? ⟨gb213, 2, none⟩ = some (.slice A0_2 l0_2.length c0_2) ∧ w14.cell? ⟨gb213, 3, none⟩ = some (.int .i64 a0_3) ∧ w14.cell? ⟨gb213, 4, none⟩ = some (.int .i64 a0_4) := hS_
 refine norm_ (a' := ?_) ?_ ?_
 rotate_left
 ·simp only [putAll, Act.put, List.setIfInBounds_toArray, List.set_cons_zero, List.set_cons_succ]
  rfl
 refine on_ 10 13 HT_ fun K hK => ?_
 refine Kd.R_append_rows_step (Kd.int .i64) (w0 := w) w.heap.size (by rfl) (.tmp 10) (.tmp 12) 23 3 (.int .i64 0) 8 rfl Try.underlying23 info3 rfl (by decide) (by omega) v225 y224 l0_2 _ _ _ (fun k_ => some k_ ≠ (v222 : Value).ownBlock) (fun _ => False) rfl rfl ?aO ?aR (fun _ _ h => h) (fun _ h => h.elim) ?aF ?aB ?aS ?aL ?_
 (case aR => repeat (first | exact (Kd.C_below HR0_2.out HB.out) | (with_reducible refine Kd.C_alloc ?_ _) | (with_reducible refine Kd.C_drewN ?_ _) | (with_reducible refine Kd.C_drew ?_)))
 (case aB => exact ba_)
 (case aF => exact (fun k_ hk => Kd.fresh' (Kd.R_lt (ab8 HO223)) k_ hk))
 (case aO => exact (ab8 HO226))
 (case aS => exact (below_size ba_))
 (case aL => have := LMc4.out; omega)
 intro v228 w15 ho hb hg hat
 rw [← Ny227.out] at ho
 replace BK213 := bg_ BK213 hg (Kd.R_ne HO226.out BK213.out (by decide))
 replace BK214 := bg_ BK214 hg (Kd.R_ne HO226.out BK214.out (by decide))
 replace HO217 := am (Kd.S_after (ok := (fun k_ => some k_ ≠ (v222 : Value).ownBlock)) (by (with_reducible repeat (first | apply Kd.S_alloc | apply Kd.S_drewN | apply Kd.S_drew)); exact HO217.out) hg hat)
 replace HO223 := am (Kd.R_after (ok := (fun _ => True)) (by (with_reducible repeat (first | apply Kd.R_alloc | apply Kd.R_drewN | apply Kd.R_drew)); exact Kd.R_mono HO223.out (fun _ hk => ⟨trivial, hk⟩)) hg hat)
 replace HB := am hb
 have HO229 := am ho
 clear HO226
 clear ho hb hg hat
 obtain ⟨Ao16, co16, eo16⟩ := Kd.R_slice HO229.out
 (first | subst eo16 | (injection eo16 with f1_ f2_ f3_; have f4_ := f1_.symm; have f5_ := f3_.symm; clear f1_ f2_ f3_; subst f4_; subst f5_))
 obtain ⟨Ao17, co17, eo17⟩ := Kd.R_slice HO223.out
 (first | subst eo17 | (injection eo17 with f1_ f2_ f3_; have f4_ := f1_.symm; have f5_ := f3_.symm; clear f1_ f2_ f3_; subst f4_; subst f5_))
 obtain ⟨Ao18, co18, eo18⟩ := Kd.S_slice HO217.out
 (first | subst eo18 | (injection eo18 with f1_ f2_ f3_; have f4_ := f1_.symm; have f5_ := f3_.symm; clear f1_ f2_ f3_; subst f4_; subst f5_))
 refine hK.out _ _ ⟨(blk_cell BK213.out 0).trans rfl, (blk_cell BK213.out 1).trans rfl, (blk_cell BK213.out 2).trans rfl, (blk_cell BK213.out 3).trans rfl, (blk_cell BK213.out 4).trans rfl⟩ (fun hHeld => ?_)
 clear hK K
 refine norm_ (a' := ?_) ?_ ?_
 rotate_left
 ·show Act.put _ (some 13) _ = _
  simp only [Act.put, List.setIfInBounds_toArray, List.set_cons_zero, List.set_cons_succ, i64_w, i32_w]
  rfl
 refine pa_ 15 18 HT_ ?_
 refine one_ (i := 16) (N := none) #[true, true, true, true, true, true, true, true, true, true, true, true, true, true, true, true, true] rfl rfl (one_of HT_.out (by kernel_rfl)) (by decide) (fun K hK => ?_)
 have hs19 : w15.cell? ⟨gb214, 0, none⟩ = some (.slice none 0 0) := (blk_cell BK214.out 0).trans rfl
 have hfs19 := blk_frozen BK214.out 0
 have hns19_0 := NB213_214.out
 have hms19_0 := NB214_213.out
 have hs20 : w15.cell? ⟨gb214, 1, none⟩ = some (.slice none 0 0) := (blk_cell BK214.out 1).trans rfl
 have hfs20 := blk_frozen BK214.out 1
 have hns20_0 := NB213_214.out
 have hms20_0 := NB214_213.out
 have hs21 : w15.cell? ⟨gb214, 2, none⟩ = some (.slice none 0 0) := (blk_cell BK214.out 2).trans rfl
 have hfs21 := blk_frozen BK214.out 2
 have hns21_0 := NB213_214.out
 have hms21_0 := NB214_213.out
 have hs22 : w15.cell? ⟨gb214, 3, none⟩ = some (.int .i64 0) := (blk_cell BK214.out 3).trans rfl
 have hfs22 := blk_frozen BK214.out 3
 have hns22_0 := NB213_214.out
 have hms22_0 := NB214_213.out
 have hs23 : w15.cell? ⟨gb214, 4, none⟩ = some (.int .i64 0) := (blk_cell BK214.out 4).trans rfl
 have hfs23 := blk_frozen BK214.out 4
 have hns23_0 := NB213_214.out
 have hms23_0 := NB214_213.out
 refine skip_ (w1 := ?_) (by rfl) rfl ?_ ?_
 rotate_left
 ·go_simp
  rfl
 refine hK.out _ _ ⟨((cell_far (p := ⟨gb214, _, none⟩) NB213_214.out _).trans (((cell_far (p := ⟨gb214, _, none⟩) NB213_214.out _).trans (((cell_far (p := ⟨gb214, _, none⟩) NB213_214.out _).trans (((cell_far (p := ⟨gb214, _, none⟩) NB213_214.out _).trans (((cell_far (p := ⟨gb214, _, none⟩) NB213_214.out _).trans (hHeld.1)))))))))), ((cell_far (p := ⟨gb214, _, none⟩) NB213_214.out _).trans (((cell_far (p := ⟨gb214, _, none⟩) NB213_214.out _).trans (((cell_far (p := ⟨gb214, _, none⟩) NB213_214.out _).trans (((cell_far (p := ⟨gb214, _, none⟩) NB213_214.out _).trans (((cell_far (p := ⟨gb214, _, none⟩) NB213_214.out _).trans (hHeld.2.1)))))))))), ((cell_far (p := ⟨gb214, _, none⟩) NB213_214.out _).trans (((cell_far (p := ⟨gb214, _, none⟩) NB213_214.out _).trans (((cell_far (p := ⟨gb214, _, none⟩) NB213_214.out _).trans (((cell_far (p := ⟨gb214, _, none⟩) NB213_214.out _).trans (((cell_far (p := ⟨gb214, _, none⟩) NB213_214.out _).trans (hHeld.2.2.1)))))))))), ((cell_far (p := ⟨gb214, _, none⟩) NB213_214.out _).trans (((cell_far (p := ⟨gb214, _, none⟩) NB213_214.out _).trans (((cell_far (p := ⟨gb214, _, none⟩) NB213_214.out _).trans (((cell_far (p := ⟨gb214, _, none⟩) NB213_214.out _).trans (((cell_far (p := ⟨gb214, _, none⟩) NB213_214.out _).trans (hHeld.2.2.2.1)))))))))), ((cell_far (p := ⟨gb214, _, none⟩) NB213_214.out _).trans (((cell_far (p := ⟨gb214, _, none⟩) NB213_214.out _).trans (((cell_far (p := ⟨gb214, _, none⟩) NB213_214.out _).trans (((cell_far (p := ⟨gb214, _, none⟩) NB213_214.out _).trans (((cell_far (p := ⟨gb214, _, none⟩) NB213_214.out _).trans (hHeld.2.2.2.2))))))))))⟩ (fun hHeld => ?_)
 clear hK K
 refine dn_ HT_ ?_
 try go_wp2
 refine bodyPost_ret (results_cell_row rfl _ _ gb214 33 #[.slice Ao18 t215.length co18, .slice Ao17 y221.length co17, .slice Ao16 y227.length co16, .int .i64 a0_3, .int .i64 a0_4] (0, 0) _ rfl (bq_ BK214) Try.underlying33 rfl (by kernel_rfl)) rfl ?_
 exact ⟨_, _, _, ab7, by (with_reducible repeat (first | apply Kd.S_alloc | apply Kd.S_drewN | apply Kd.S_drew)); exact Kd.S_mono (Kd.S_far (p := ⟨gb214, 4, none⟩) (Kd.S_far (p := ⟨gb214, 3, none⟩) (Kd.S_far (p := ⟨gb214, 2, none⟩) (Kd.S_far (p := ⟨gb214, 1, none⟩) (Kd.S_far (p := ⟨gb214, 0, none⟩) (Kd.S_types HO217.out BK214.out (by decide)) (fun _ hk => hk.2) (.slice Ao18 t215.length co18)) (fun _ hk => hk.2) (.slice Ao17 y221.length co17)) (fun _ hk => hk.2) (.slice Ao16 y227.length co16)) (fun _ hk => hk.2) (.int .i64 a0_3)) (fun _ hk => hk.2) (.int .i64 a0_4)) (fun _ hk => ⟨hk.1.1, hk.1.2⟩), by (with_reducible repeat (first | apply Kd.R_alloc | apply Kd.R_drewN | apply Kd.R_drew)); exact Kd.R_mono (Kd.R_far (p := ⟨gb214, 4, none⟩) (Kd.R_far (p := ⟨gb214, 3, none⟩) (Kd.R_far (p := ⟨gb214, 2, none⟩) (Kd.R_far (p := ⟨gb214, 1, none⟩) (Kd.R_far (p := ⟨gb214, 0, none⟩) (Kd.R_types HO223.out BK214.out (by decide)) (fun _ hk => hk.2) (.slice Ao18 t215.length co18)) (fun _ hk => hk.2) (.slice Ao17 y221.length co17)) (fun _ hk => hk.2) (.slice Ao16 y227.length co16)) (fun _ hk => hk.2) (.int .i64 a0_3)) (fun _ hk => hk.2) (.int .i64 a0_4)) (fun _ hk => hk.1.2), by (with_reducible repeat (first | apply Kd.R_alloc | apply Kd.R_drewN | apply Kd.R_drew)); exact Kd.R_mono (Kd.R_far (p := ⟨gb214, 4, none⟩) (Kd.R_far (p := ⟨gb214, 3, none⟩) (Kd.R_far (p := ⟨gb214, 2, none⟩) (Kd.R_far (p := ⟨gb214, 1, none⟩) (Kd.R_far (p := ⟨gb214, 0, none⟩) (Kd.R_types HO229.out BK214.out (by decide)) (fun _ hk => hk.2) (.slice Ao18 t215.length co18)) (fun _ hk => hk.2) (.slice Ao17 y221.length co17)) (fun _ hk => hk.2) (.slice Ao16 y227.length co16)) (fun _ hk => hk.2) (.int .i64 a0_3)) (fun _ hk => hk.2) (.int .i64 a0_4)) (fun _ hk => hk.1), ba_⟩
/-- The innermost open one, 0 where none is. -/
def putUp (s1 : List Int) : Int := if (s1.length : Int) > 0 then rd s1 ((s1.length : Int) - 1) else 0
def spec_PutIn.f (k : Nat) (s0 : List S38) (s1 s2 : List Int) (h b : Int) (a0 a1 : Int) (a2 : ByteArray) (l3 : List S69) (a4 : ByteArray) (a5 : Int) (l6 : List Int) : Option (List S38 × List Int × List Int × Int × Int) :=
 (spec_PageOk.f k s0 s1 s2 h b).bind fun t => if t = true then (spec_l9Room.f s0 s1 s2 h b).bind fun u => if u = true then
  (spec_l8Copy.f k s0 s1 s2 h b).bind fun z => (spec_l6Add.f z.1 (putUp s1) (-1) a0 a1 a2 l3 a4 a5 l6).bind fun q => (spec_PageOk.f k q.1 z.2.1 z.2.2.1 z.2.2.2.1 z.2.2.2.2).bind fun v => if v = true then some (q.1, z.2.1, z.2.2.1, z.2.2.2.1, z.2.2.2.2) else spec_l8Copy.f k s0 s1 s2 h b
  else spec_l8Copy.f k s0 s1 s2 h b else spec_l8Copy.f k s0 s1 s2 h b
theorem spec_PutIn.calls (k : Nat) (A0 : Option Addr) (c0 : Nat) (s0 : List S38) (A1 : Option Addr) (c1 : Nat) (s1 : List Int) (A2 : Option Addr) (c2 : Nat) (s2 : List Int) (h b : Int) (a0 a1 : Int) (a2 : ByteArray) (A3 : Option Addr) (c3 : Nat) (l3 : List S69) (a4 : ByteArray) (a5 : Int) (A6 : Option Addr) (c6 : Nat) (l6 : List Int) (r1 : List S38) (r2 r3 : List Int) (r4 r5 : Int) (w : World) (hp0 : Kd.C k38 w A0 s0.length s0) (hd0 : s0.length ≤ c0) (hp1 : Kd.C (Kd.int .i64) w A1 s1.length s1) (hd1 : s1.length ≤ c1) (hp2 : Kd.C (Kd.int .i64) w A2 s2.length s2) (hd2 : s2.length ≤ c2) (hr3 : Kd.C k69 w A3 l3.length l3) (hc3 : l3.length ≤ c3) (hr6 : Kd.C (Kd.int .i64) w A6 l6.length l6) (hc6 : l6.length ≤ c6) (H : spec_PutIn.f k s0 s1 s2 h b a0 a1 a2 l3 a4 a5 l6 = some (r1, r2, r3, r4, r5)) :
  Calls Try.prog 6 #[.agg #[.slice A0 s0.length c0, .slice A1 s1.length c1, .slice A2 s2.length c2, .int .i64 h, .int .i64 b], .agg #[.int .i64 a0, .int .i64 a1, .string a2, .slice A3 l3.length c3, .string a4, .int .i64 a5, .slice A6 l6.length c6]] w fun e w' => ∃ v0_ v1_ v2_ : Value, e = .returned (.agg #[v0_, v1_, v2_, .int .i64 r4, .int .i64 r5]) ∧ Kd.S k38 38 w' w.heap.size (fun k_ => some k_ ≠ (v1_ : Value).ownBlock ∧ some k_ ≠ (v2_ : Value).ownBlock) v0_ r1 ∧ Kd.R (Kd.int .i64) 3 w' w.heap.size (fun k_ => some k_ ≠ (v2_ : Value).ownBlock) v1_ r2 ∧ Kd.R (Kd.int .i64) 3 w' w.heap.size (fun k_ => some k_ ≠ (v1_ : Value).ownBlock) v2_ r3 ∧ Below w.heap.size w w' := by
 unfold spec_PutIn.f at H
 obtain ⟨t, ht, H⟩ := Option.bind_eq_some_iff.mp H
 have hu33 := Try.underlying33
 have Hhp0 := am hp0
 have Hhd0 := am hd0
 have Hhp1 := am hp1
 have Hhd1 := am hd1
 have Hhp2 := am hp2
 have Hhd2 := am hd2
 have HR3 := am hr3
 have HC3 := am hc3
 have HR6 := am hr6
 have HC6 := am hc6
 have HX := am (Below.refl w.heap.size w)
 have AT := am ht
 clear ht hp0 hd0 hp1 hd1 hp2 hd2 hr3 hc3 hr6 hc6
 cases t with
 | false =>
  simp only [Bool.false_eq_true, if_false] at H
  have AC := am H
  clear H
  go_enter Try.func6, Try.ntmps6
  go_wp2_with (first | ((with_reducible refine gd_ 2 ?_); refine bx_ 2 (cs := #[.slice A0 s0.length c0, .slice A1 s1.length c1, .slice A2 s2.length c2, .int .i64 h, .int .i64 b]) 33 ?_; intro gbp hg wp hbox hb; have GEp := gE HX hg; replace HX := xb HX hb; have BKp := am hbox; clear hb hbox hg) | ((with_reducible refine gd_ 3 ?_); refine bx_ 3 (cs := #[.int .i64 a0, .int .i64 a1, .string a2, .slice A3 l3.length c3, .string a4, .int .i64 a5, .slice A6 l6.length c6]) 38 ?_; intro gbi hg wi hbox hb; have GEi := gE HX hg; have NEp_i := nE BKp hg; replace BKp := bb BKp hb; replace HX := xb HX hb; have BKi := am hbox; clear hb hbox hg) | ((with_reducible refine gd_ 4 ?_); refine bx_ 4 (cs := #[.slice none 0 0, .slice none 0 0, .slice none 0 0, .int .i64 0, .int .i64 0]) 33 ?_; intro gbr hg wr hbox hb; have GEr := gE HX hg; have NEp_r := nE BKp hg; have NEi_r := nE BKi hg; replace BKp := bb BKp hb; replace BKi := bb BKi hb; replace HX := xb HX hb; have BKr := am hbox; clear hb hbox hg; obtain ⟨h3p0, h3p1, h3p2, h3p3, h3p4⟩ := cl5 BKp) | (go_at_call 18; (with_reducible refine (spec_PageOk.calls k A0 c0 s0 A1 c1 s1 A2 c2 s2 h b false _ ?sa Hhd0.out ?sb Hhd1.out ?sc Hhd2.out AT.out).mono ?_); (case sa => exact Kd.C_below Hhp0.out HX.out); (case sb => exact Kd.C_below Hhp1.out HX.out); (case sc => exact Kd.C_below Hhp2.out HX.out); rintro e wk ⟨rfl, hb⟩; replace BKp := bb BKp hb; replace BKi := bb BKi hb; replace BKr := bb BKr hb; replace HX := xb HX hb; clear hb; (try clear h3p0 h3p1 h3p2 h3p3 h3p4); obtain ⟨h4p0, h4p1, h4p2, h4p3, h4p4⟩ := cl5 BKp) | ((with_reducible refine gate_callee (f := 20) rfl ?_); refine goesL_ (some 16) rfl rfl Try.func20 (by kernel_rfl) rfl #[.agg #[.slice A0 s0.length c0, .slice A1 s1.length c1, .slice A2 s2.length c2, .int .i64 h, .int .i64 b]] rfl ab5 ?_; (with_reducible refine (spec_l8Copy.calls k A0 c0 s0 A1 c1 s1 A2 c2 s2 h b r1 r2 r3 r4 r5 _ ?sa Hhd0.out ?sb Hhd1.out ?sc Hhd2.out AC.out).mono ?_); (case sa => exact Kd.C_below Hhp0.out HX.out); (case sb => exact Kd.C_below Hhp1.out HX.out); (case sc => exact Kd.C_below Hhp2.out HX.out); rintro e wc ⟨v0, v1, v2, rfl, ho0, ho1, ho2, hb⟩; refine ⟨_, rfl, ?_⟩; have HO := am ((OwnP.of_copy ho0 ho1 ho2).lower (below_size HX.out)); have LTp := am (blk_lt BKp.out); have LTi := am (blk_lt BKi.out); have LTr := am (blk_lt BKr.out); replace BKp := bb BKp hb; replace BKi := bb BKi hb; replace BKr := bb BKr hb; replace HX := xb HX hb; obtain ⟨Z0, d0, Z1, d1, Z2, d2, rfl, rfl, rfl, _, _, _⟩ := HO.out.slices; clear ho0 ho1 ho2; clear hb; (try clear h4p0 h4p1 h4p2 h4p3 h4p4); obtain ⟨h5r0, h5r1, h5r2, h5r3, h5r4⟩ := cl5 BKr; obtain ⟨f5r0, f5r1, f5r2, f5r3, f5r4⟩ := fz5 BKr) | ((with_reducible refine gate_store (t := 33) (p := 4) rfl ?_); refine store_event (t := 33) (p := 4) (v := ?vorwc) (w1 := (st5 wc gbr (.slice Z0 r1.length d0) (.slice Z1 r2.length d1) (.slice Z2 r3.length d2) (.int .i64 r4) (.int .i64 r5))) ?hg ?ho ?hn ?hr ?_; (case ho => rfl); (case hg => rfl); (case hn => rfl); (case hr => first | (go_simp; done) | (go_simp; rfl)); intro wf hw; replace BKp := kS5 hw BKp NEp_r.out; replace BKi := kS5 hw BKi NEi_r.out; replace BKr := sS5 hw BKr; replace HX := bS5 hw HX GEr.out; have HF := pS5 hw HO (fun k hk e_ => by have := LTr.out; have := hk.1; omega); clear hw; (try clear h5r0 h5r1 h5r2 h5r3 h5r4 f5r0 f5r1 f5r2 f5r3 f5r4)))
  refine bodyPost_ret (results_cell_row rfl _ _ gbr 33 #[.slice Z0 r1.length d0, .slice Z1 r2.length d1, .slice Z2 r3.length d2, .int .i64 r4, .int .i64 r5] (0, 0) _ rfl BKr.out Try.underlying33 rfl (by kernel_rfl)) rfl ?_
  exact ⟨_, _, _, rfl, HF.out.to_copy.1, HF.out.to_copy.2.1, HF.out.to_copy.2.2, HX.out⟩
 | true =>
  simp only [if_true] at H
  obtain ⟨u, hu, H⟩ := Option.bind_eq_some_iff.mp H
  have AU := am hu
  clear hu
  cases u with
  | false =>
   simp only [Bool.false_eq_true, if_false] at H
   have AC := am H
   clear H
   go_enter Try.func6, Try.ntmps6
   go_wp2_with (first | ((with_reducible refine gd_ 2 ?_); refine bx_ 2 (cs := #[.slice A0 s0.length c0, .slice A1 s1.length c1, .slice A2 s2.length c2, .int .i64 h, .int .i64 b]) 33 ?_; intro gbp hg wp hbox hb; have GEp := gE HX hg; replace HX := xb HX hb; have BKp := am hbox; clear hb hbox hg) | ((with_reducible refine gd_ 3 ?_); refine bx_ 3 (cs := #[.int .i64 a0, .int .i64 a1, .string a2, .slice A3 l3.length c3, .string a4, .int .i64 a5, .slice A6 l6.length c6]) 38 ?_; intro gbi hg wi hbox hb; have GEi := gE HX hg; have NEp_i := nE BKp hg; replace BKp := bb BKp hb; replace HX := xb HX hb; have BKi := am hbox; clear hb hbox hg) | ((with_reducible refine gd_ 4 ?_); refine bx_ 4 (cs := #[.slice none 0 0, .slice none 0 0, .slice none 0 0, .int .i64 0, .int .i64 0]) 33 ?_; intro gbr hg wr hbox hb; have GEr := gE HX hg; have NEp_r := nE BKp hg; have NEi_r := nE BKi hg; replace BKp := bb BKp hb; replace BKi := bb BKi hb; replace HX := xb HX hb; have BKr := am hbox; clear hb hbox hg; obtain ⟨h3p0, h3p1, h3p2, h3p3, h3p4⟩ := cl5 BKp) | (go_at_call 18; (with_reducible refine (spec_PageOk.calls k A0 c0 s0 A1 c1 s1 A2 c2 s2 h b true _ ?sa Hhd0.out ?sb Hhd1.out ?sc Hhd2.out AT.out).mono ?_); (case sa => exact Kd.C_below Hhp0.out HX.out); (case sb => exact Kd.C_below Hhp1.out HX.out); (case sc => exact Kd.C_below Hhp2.out HX.out); rintro e wk ⟨rfl, hb⟩; replace BKp := bb BKp hb; replace BKi := bb BKi hb; replace BKr := bb BKr hb; replace HX := xb HX hb; clear hb; (try clear h3p0 h3p1 h3p2 h3p3 h3p4); obtain ⟨h4p0, h4p1, h4p2, h4p3, h4p4⟩ := cl5 BKp) | (go_at_call 19; (with_reducible refine (spec_l9Room.calls A0 c0 s0 A1 c1 s1 A2 c2 s2 h b false _ ?sa Hhd0.out ?sb Hhd1.out ?sc Hhd2.out AU.out).mono ?_); (case sa => exact Kd.C_below Hhp0.out HX.out); (case sb => exact Kd.C_below Hhp1.out HX.out); (case sc => exact Kd.C_below Hhp2.out HX.out); rintro e wu ⟨rfl, hb⟩; replace BKp := bb BKp hb; replace BKi := bb BKi hb; replace BKr := bb BKr hb; replace HX := xb HX hb; clear hb; (try clear h4p0 h4p1 h4p2 h4p3 h4p4); obtain ⟨h5p0, h5p1, h5p2, h5p3, h5p4⟩ := cl5 BKp) | ((with_reducible refine gate_callee (f := 20) rfl ?_); refine goesL_ (some 16) rfl rfl Try.func20 (by kernel_rfl) rfl #[.agg #[.slice A0 s0.length c0, .slice A1 s1.length c1, .slice A2 s2.length c2, .int .i64 h, .int .i64 b]] rfl ab5 ?_; (with_reducible refine (spec_l8Copy.calls k A0 c0 s0 A1 c1 s1 A2 c2 s2 h b r1 r2 r3 r4 r5 _ ?sa Hhd0.out ?sb Hhd1.out ?sc Hhd2.out AC.out).mono ?_); (case sa => exact Kd.C_below Hhp0.out HX.out); (case sb => exact Kd.C_below Hhp1.out HX.out); (case sc => exact Kd.C_below Hhp2.out HX.out); rintro e wc ⟨v0, v1, v2, rfl, ho0, ho1, ho2, hb⟩; refine ⟨_, rfl, ?_⟩; have HO := am ((OwnP.of_copy ho0 ho1 ho2).lower (below_size HX.out)); have LTp := am (blk_lt BKp.out); have LTi := am (blk_lt BKi.out); have LTr := am (blk_lt BKr.out); replace BKp := bb BKp hb; replace BKi := bb BKi hb; replace BKr := bb BKr hb; replace HX := xb HX hb; obtain ⟨Z0, d0, Z1, d1, Z2, d2, rfl, rfl, rfl, _, _, _⟩ := HO.out.slices; clear ho0 ho1 ho2; clear hb; (try clear h5p0 h5p1 h5p2 h5p3 h5p4); obtain ⟨h6r0, h6r1, h6r2, h6r3, h6r4⟩ := cl5 BKr; obtain ⟨f6r0, f6r1, f6r2, f6r3, f6r4⟩ := fz5 BKr) | ((with_reducible refine gate_store (t := 33) (p := 4) rfl ?_); refine store_event (t := 33) (p := 4) (v := ?vorwc) (w1 := (st5 wc gbr (.slice Z0 r1.length d0) (.slice Z1 r2.length d1) (.slice Z2 r3.length d2) (.int .i64 r4) (.int .i64 r5))) ?hg ?ho ?hn ?hr ?_; (case ho => rfl); (case hg => rfl); (case hn => rfl); (case hr => first | (go_simp; done) | (go_simp; rfl)); intro wf hw; replace BKp := kS5 hw BKp NEp_r.out; replace BKi := kS5 hw BKi NEi_r.out; replace BKr := sS5 hw BKr; replace HX := bS5 hw HX GEr.out; have HF := pS5 hw HO (fun k hk e_ => by have := LTr.out; have := hk.1; omega); clear hw; (try clear h6r0 h6r1 h6r2 h6r3 h6r4 f6r0 f6r1 f6r2 f6r3 f6r4)))
   refine bodyPost_ret (results_cell_row rfl _ _ gbr 33 #[.slice Z0 r1.length d0, .slice Z1 r2.length d1, .slice Z2 r3.length d2, .int .i64 r4, .int .i64 r5] (0, 0) _ rfl BKr.out Try.underlying33 rfl (by kernel_rfl)) rfl ?_
   exact ⟨_, _, _, rfl, HF.out.to_copy.1, HF.out.to_copy.2.1, HF.out.to_copy.2.2, HX.out⟩
  | true =>
   simp only [if_true] at H
   obtain ⟨⟨z0, z1, z2, z3, z4⟩, hz, H⟩ := Option.bind_eq_some_iff.mp H
   obtain ⟨⟨q, qn⟩, hq, H⟩ := Option.bind_eq_some_iff.mp H
   obtain ⟨v, hv, H⟩ := Option.bind_eq_some_iff.mp H
   dsimp only at hq hv H
   have AZ := am hz
   have AQ := am hq
   have AV := am hv
   clear hz hq hv
   generalize hup : putUp s1 = up at AQ
   unfold putUp at hup
   by_cases cu : (s1.length : Int) > 0
   ·rw [if_pos cu] at hup
    have hl : s1.length ≤ 9223372036854775807 := Hhp1.out.2.1
    have hji : IntKind.i64.wrap ((s1.length : Int) - 1) = (s1.length : Int) - 1 := by rw [i64_w]; unfold wrap64; omega
    obtain ⟨ad, rfl, hxa⟩ := Kd.at_int Hhp1.out ((s1.length : Int) - 1) (by omega) (by omega)
    rw [hup] at hxa
    have cub0 : decide (0 < (s1.length : Int)) = true := decide_eq_true cu
    have cub1 : decide (0 < s1.length) = true := decide_eq_true (by omega)
    have cub2 : s1.length > 0 := by omega
    obtain ⟨ji, hj⟩ : ∃ j_ : Int, (s1.length : Int) - 1 = j_ := ⟨_, rfl⟩
    have HXO : Aside0 (w.cell? (ad.add ji.toNat) = some (.int .i64 up)) := ⟨by rw [← hj]; exact hxa⟩
    have hjw : IntKind.i64.wrap ((s1.length : Int) - 1) = ji := by rw [hji]; exact hj
    have p0 : 0 ≤ ji := by omega
    have q0 : ji < (s1.length : Int) := by omega
    have p0d : decide (0 ≤ ji) = true := decide_eq_true p0
    have q0d : decide (ji < (s1.length : Int)) = true := decide_eq_true q0
    replace p0 := eq_true p0
    replace q0 := eq_true q0
    clear hji hj hxa hl cu hup
    cases v with
    | false =>
     simp only [Bool.false_eq_true, if_false] at H
     have AC := am H
     clear H
     go_enter Try.func6, Try.ntmps6
     go_wp2_with (first | ((with_reducible refine gd_ 2 ?_); refine bx_ 2 (cs := #[.slice A0 s0.length c0, .slice (some ad) s1.length c1, .slice A2 s2.length c2, .int .i64 h, .int .i64 b]) 33 ?_; intro gbp hg wp hbox hb; have GEp := gE HX hg; replace HX := xb HX hb; have BKp := am hbox; clear hb hbox hg) | ((with_reducible refine gd_ 3 ?_); refine bx_ 3 (cs := #[.int .i64 a0, .int .i64 a1, .string a2, .slice A3 l3.length c3, .string a4, .int .i64 a5, .slice A6 l6.length c6]) 38 ?_; intro gbi hg wi hbox hb; have GEi := gE HX hg; have NEp_i := nE BKp hg; replace BKp := bb BKp hb; replace HX := xb HX hb; have BKi := am hbox; clear hb hbox hg) | ((with_reducible refine gd_ 4 ?_); refine bx_ 4 (cs := #[.slice none 0 0, .slice none 0 0, .slice none 0 0, .int .i64 0, .int .i64 0]) 33 ?_; intro gbr hg wr hbox hb; have GEr := gE HX hg; have NEp_r := nE BKp hg; have NEi_r := nE BKi hg; replace BKp := bb BKp hb; replace BKi := bb BKi hb; replace HX := xb HX hb; have BKr := am hbox; clear hb hbox hg; obtain ⟨h3p0, h3p1, h3p2, h3p3, h3p4⟩ := cl5 BKp) | (go_at_call 18; (with_reducible refine (spec_PageOk.calls k A0 c0 s0 (some ad) c1 s1 A2 c2 s2 h b true _ ?sa Hhd0.out ?sb Hhd1.out ?sc Hhd2.out AT.out).mono ?_); (case sa => exact Kd.C_below Hhp0.out HX.out); (case sb => exact Kd.C_below Hhp1.out HX.out); (case sc => exact Kd.C_below Hhp2.out HX.out); rintro e wk ⟨rfl, hb⟩; replace BKp := bb BKp hb; replace BKi := bb BKi hb; replace BKr := bb BKr hb; replace HX := xb HX hb; clear hb; (try clear h3p0 h3p1 h3p2 h3p3 h3p4); obtain ⟨h4p0, h4p1, h4p2, h4p3, h4p4⟩ := cl5 BKp) | (go_at_call 19; (with_reducible refine (spec_l9Room.calls A0 c0 s0 (some ad) c1 s1 A2 c2 s2 h b true _ ?sa Hhd0.out ?sb Hhd1.out ?sc Hhd2.out AU.out).mono ?_); (case sa => exact Kd.C_below Hhp0.out HX.out); (case sb => exact Kd.C_below Hhp1.out HX.out); (case sc => exact Kd.C_below Hhp2.out HX.out); rintro e wu ⟨rfl, hb⟩; replace BKp := bb BKp hb; replace BKi := bb BKi hb; replace BKr := bb BKr hb; replace HX := xb HX hb; clear hb; (try clear h4p0 h4p1 h4p2 h4p3 h4p4); obtain ⟨h5p0, h5p1, h5p2, h5p3, h5p4⟩ := cl5 BKp) | ((with_reducible refine gate_callee (f := 20) rfl ?_); refine goesL_ (some 18) rfl rfl Try.func20 (by kernel_rfl) rfl #[.agg #[.slice A0 s0.length c0, .slice (some ad) s1.length c1, .slice A2 s2.length c2, .int .i64 h, .int .i64 b]] rfl ab5 ?_; (with_reducible refine (spec_l8Copy.calls k A0 c0 s0 (some ad) c1 s1 A2 c2 s2 h b z0 z1 z2 z3 z4 _ ?sa Hhd0.out ?sb Hhd1.out ?sc Hhd2.out AZ.out).mono ?_); (case sa => exact Kd.C_below Hhp0.out HX.out); (case sb => exact Kd.C_below Hhp1.out HX.out); (case sc => exact Kd.C_below Hhp2.out HX.out); rintro e wc ⟨v0, v1, v2, rfl, ho0, ho1, ho2, hb⟩; refine ⟨_, rfl, ?_⟩; have HO := am ((OwnP.of_copy ho0 ho1 ho2).lower (below_size HX.out)); have LTp := am (blk_lt BKp.out); have LTi := am (blk_lt BKi.out); have LTr := am (blk_lt BKr.out); replace BKp := bb BKp hb; replace BKi := bb BKi hb; replace BKr := bb BKr hb; replace HX := xb HX hb; obtain ⟨Z0, d0, Z1, d1, Z2, d2, rfl, rfl, rfl, _, _, _⟩ := HO.out.slices; clear ho0 ho1 ho2; clear hb; (try clear h5p0 h5p1 h5p2 h5p3 h5p4)) | ((with_reducible refine gd_ 5 ?_); refine bx_ 5 (cs := #[.slice none 0 0, .slice none 0 0, .slice none 0 0, .int .i64 0, .int .i64 0]) 33 ?_; intro gbo hg wo hbox hb; have GEo := gE HX hg; have NEp_o := nE BKp hg; have NEi_o := nE BKi hg; have NEr_o := nE BKr hg; have GO := am (show wc.heap.size ≤ gbo by rw [hg]; exact Nat.le_refl _); replace HO := ob HO hb; replace BKp := bb BKp hb; replace BKi := bb BKi hb; replace BKr := bb BKr hb; replace HX := xb HX hb; have BKo := am hbox; clear hb hbox hg; obtain ⟨h7o0, h7o1, h7o2, h7o3, h7o4⟩ := cl5 BKo; obtain ⟨f7o0, f7o1, f7o2, f7o3, f7o4⟩ := fz5 BKo) | ((with_reducible refine gate_store (t := 33) (p := 5) rfl ?_); refine store_event (t := 33) (p := 5) (v := ?voo) (w1 := (st5 wo gbo (.slice Z0 z0.length d0) (.slice Z1 z1.length d1) (.slice Z2 z2.length d2) (.int .i64 z3) (.int .i64 z4))) ?hg ?ho ?hn ?hr ?_; (case ho => rfl); (case hg => rfl); (case hn => rfl); (case hr => first | (go_simp; done) | (go_simp; rfl)); intro ws hw; replace BKp := kS5 hw BKp NEp_o.out; replace BKi := kS5 hw BKi NEi_o.out; replace BKr := kS5 hw BKr NEr_o.out; replace BKo := sS5 hw BKo; replace HX := bS5 hw HX GEo.out; replace HO := pS5 hw HO (fun k hk e_ => by have := GO.out; have := hk.2; omega); have hxo := pw_cell_below HX.out HXO.out; clear hw; (try clear h7o0 h7o1 h7o2 h7o3 h7o4 f7o0 f7o1 f7o2 f7o3 f7o4); obtain ⟨h8p0, h8p1, h8p2, h8p3, h8p4⟩ := cl5 BKp; obtain ⟨h8i0, h8i1, h8i2, h8i3, h8i4, h8i5, h8i6⟩ := cl7 BKi; obtain ⟨h8o0, h8o1, h8o2, h8o3, h8o4⟩ := cl5 BKo) | (go_at_call 21; obtain ⟨P0, hP0, hs0, hback⟩ := OwnP.items HO.out; have HP0 := am hP0; have HBK := am hback; clear hP0 hback; (refine (spec_l6Add.calls P0 _ z0 up (-1) a0 a1 a2 A3 c3 l3 a4 a5 A6 c6 l6 q qn w _ HX.out hs0 (Kd.C_below HR3.out HX.out) HC3.out (Kd.C_below HR6.out HX.out) HC6.out AQ.out).mono ?_); rintro e wm ⟨vm, rfl, hs, hb, hk⟩; obtain ⟨Y0, e0, rfl⟩ := Kd.S_slice hs; have HO2 := am (HBK.out _ _ _ hs hk); have LS := am (blk_lt BKo.out); have LSr := am (blk_lt BKr.out); replace BKp := am (blk_kept BKp.out hk (fun q_ => by have h1_ := HP0.out _ q_; have h2_ := LTp.out; omega)); replace BKi := am (blk_kept BKi.out hk (fun q_ => by have h1_ := HP0.out _ q_; have h2_ := LTi.out; omega)); replace BKr := am (blk_kept BKr.out hk (fun q_ => by have h1_ := HP0.out _ q_; have h2_ := LTr.out; omega)); replace BKo := am (blk_kept BKo.out hk (fun q_ => by have h1_ := HP0.out _ q_; have h2_ := GO.out; omega)); replace HX := am hb; clear hs hb hk HBK hs0 HO; have HO := HO2; clear HO2; (try clear hxo); (try clear h8p0 h8p1 h8p2 h8p3 h8p4 h8i0 h8i1 h8i2 h8i3 h8i4 h8i5 h8i6 h8o0 h8o1 h8o2 h8o3 h8o4); obtain ⟨h9o0, h9o1, h9o2, h9o3, h9o4⟩ := cl5 BKo; obtain ⟨f9o0, f9o1, f9o2, f9o3, f9o4⟩ := fz5 BKo) | ((with_reducible refine gate_store (t := 31) (p := 39) rfl ?_); refine store_event (t := 31) (p := 39) (v := ?vot1) (w1 := (wm.setCell ⟨gbo, 0, none⟩ (.slice Y0 q.length e0))) ?hg ?ho ?hn ?hr ?_; (case ho => rfl); (case hg => rfl); (case hn => rfl); (case hr => first | (go_simp; done) | (go_simp; rfl)); intro wt hw; replace BKp := kS1 hw BKp NEp_o.out; replace BKi := kS1 hw BKi NEi_o.out; replace BKr := kS1 hw BKr NEr_o.out; replace BKo : Aside0 (wt.heap[gbo]? = some (.cells #[.slice Y0 q.length e0, .slice Z1 z1.length d1, .slice Z2 z2.length d2, .int .i64 z3, .int .i64 z4] 33 (0, 0))) := ⟨by rw [hw]; exact blk_put (cs := #[.slice Z0 z0.length d0, .slice Z1 z1.length d1, .slice Z2 z2.length d2, .int .i64 z3, .int .i64 z4]) BKo.out 0 _ rfl⟩; replace HX := bS1 hw HX GEo.out; replace HO := pS1 hw HO (fun k hk e_ => by have h1_ := GO.out; have h2_ := LS.out; have h3_ : k = gbo := e_; rcases hk with hk | hk; (have := hk.2; omega); omega); obtain ⟨Yy0, yy0, Yy1, yy1, Yy2, yy2, ey0, ey1, ey2, hy0, hy1, hy2⟩ := HO.out.slices; cases ey0; cases ey1; cases ey2; have HY := am (And.intro hy0 (And.intro hy1 hy2)); clear hy0 hy1 hy2; clear hw; (try clear h9o0 h9o1 h9o2 h9o3 h9o4 f9o0 f9o1 f9o2 f9o3 f9o4); obtain ⟨h10o0, h10o1, h10o2, h10o3, h10o4⟩ := cl5 BKo) | (go_at_call 18; (with_reducible refine (spec_PageOk.calls k _ _ q _ _ z1 _ _ z2 z3 z4 false _ ?sd HY.out.1.1 ?se HY.out.2.1.1 ?sf HY.out.2.2.1 AV.out).mono ?_); (case sd => exact HY.out.1.2); (case se => exact HY.out.2.1.2); (case sf => exact HY.out.2.2.2); rintro e wv ⟨rfl, hb⟩; replace BKp := bb BKp hb; replace BKi := bb BKi hb; replace BKr := bb BKr hb; replace BKo := bb BKo hb; replace HX := xb HX hb; clear hb; (try clear h10o0 h10o1 h10o2 h10o3 h10o4); obtain ⟨h11p0, h11p1, h11p2, h11p3, h11p4⟩ := cl5 BKp) | ((with_reducible refine gate_callee (f := 20) rfl ?_); refine goesL_ (some 44) rfl rfl Try.func20 (by kernel_rfl) rfl #[.agg #[.slice A0 s0.length c0, .slice (some ad) s1.length c1, .slice A2 s2.length c2, .int .i64 h, .int .i64 b]] rfl ab5 ?_; (with_reducible refine (spec_l8Copy.calls k A0 c0 s0 (some ad) c1 s1 A2 c2 s2 h b r1 r2 r3 r4 r5 _ ?sa Hhd0.out ?sb Hhd1.out ?sc Hhd2.out AC.out).mono ?_); (case sa => exact Kd.C_below Hhp0.out HX.out); (case sb => exact Kd.C_below Hhp1.out HX.out); (case sc => exact Kd.C_below Hhp2.out HX.out); rintro e wc2 ⟨v0, v1, v2, rfl, ho0, ho1, ho2, hb⟩; refine ⟨_, rfl, ?_⟩; clear HO; have HO := am ((OwnP.of_copy ho0 ho1 ho2).lower (below_size HX.out)); have LT2p := am (blk_lt BKp.out); have LT2i := am (blk_lt BKi.out); have LT2r := am (blk_lt BKr.out); have LT2o := am (blk_lt BKo.out); replace BKp := bb BKp hb; replace BKi := bb BKi hb; replace BKr := bb BKr hb; replace BKo := bb BKo hb; replace HX := xb HX hb; obtain ⟨X0, x0, X1, x1, X2, x2, rfl, rfl, rfl, _, _, _⟩ := HO.out.slices; clear ho0 ho1 ho2; clear hb; (try clear h11p0 h11p1 h11p2 h11p3 h11p4); obtain ⟨h12r0, h12r1, h12r2, h12r3, h12r4⟩ := cl5 BKr; obtain ⟨f12r0, f12r1, f12r2, f12r3, f12r4⟩ := fz5 BKr) | ((with_reducible refine gate_store (t := 33) (p := 4) rfl ?_); refine store_event (t := 33) (p := 4) (v := ?vorwc2) (w1 := (st5 wc2 gbr (.slice X0 r1.length x0) (.slice X1 r2.length x1) (.slice X2 r3.length x2) (.int .i64 r4) (.int .i64 r5))) ?hg ?ho ?hn ?hr ?_; (case ho => rfl); (case hg => rfl); (case hn => rfl); (case hr => first | (go_simp; done) | (go_simp; rfl)); intro wf hw; replace BKp := kS5 hw BKp NEp_r.out; replace BKi := kS5 hw BKi NEi_r.out; replace BKr := sS5 hw BKr; replace BKo := kS5 hw BKo (Ne.symm NEr_o.out); replace HX := bS5 hw HX GEr.out; have HF := pS5 hw HO (fun k hk e_ => by have := LT2r.out; have := hk.1; omega); clear hw; (try clear h12r0 h12r1 h12r2 h12r3 h12r4 f12r0 f12r1 f12r2 f12r3 f12r4)))
     refine bodyPost_ret (results_cell_row rfl _ _ gbr 33 #[.slice X0 r1.length x0, .slice X1 r2.length x1, .slice X2 r3.length x2, .int .i64 r4, .int .i64 r5] (0, 0) _ rfl BKr.out Try.underlying33 rfl (by kernel_rfl)) rfl ?_
     exact ⟨_, _, _, rfl, HF.out.to_copy.1, HF.out.to_copy.2.1, HF.out.to_copy.2.2, HX.out⟩
    | true =>
     simp only [if_true, Option.some.injEq, Prod.mk.injEq] at H
     obtain ⟨rfl, rfl, rfl, rfl, rfl⟩ := H
     go_enter Try.func6, Try.ntmps6
     go_wp2_with (first | ((with_reducible refine gd_ 2 ?_); refine bx_ 2 (cs := #[.slice A0 s0.length c0, .slice (some ad) s1.length c1, .slice A2 s2.length c2, .int .i64 h, .int .i64 b]) 33 ?_; intro gbp hg wp hbox hb; have GEp := gE HX hg; replace HX := xb HX hb; have BKp := am hbox; clear hb hbox hg) | ((with_reducible refine gd_ 3 ?_); refine bx_ 3 (cs := #[.int .i64 a0, .int .i64 a1, .string a2, .slice A3 l3.length c3, .string a4, .int .i64 a5, .slice A6 l6.length c6]) 38 ?_; intro gbi hg wi hbox hb; have GEi := gE HX hg; have NEp_i := nE BKp hg; replace BKp := bb BKp hb; replace HX := xb HX hb; have BKi := am hbox; clear hb hbox hg) | ((with_reducible refine gd_ 4 ?_); refine bx_ 4 (cs := #[.slice none 0 0, .slice none 0 0, .slice none 0 0, .int .i64 0, .int .i64 0]) 33 ?_; intro gbr hg wr hbox hb; have GEr := gE HX hg; have NEp_r := nE BKp hg; have NEi_r := nE BKi hg; replace BKp := bb BKp hb; replace BKi := bb BKi hb; replace HX := xb HX hb; have BKr := am hbox; clear hb hbox hg; obtain ⟨h3p0, h3p1, h3p2, h3p3, h3p4⟩ := cl5 BKp) | (go_at_call 18; (with_reducible refine (spec_PageOk.calls k A0 c0 s0 (some ad) c1 s1 A2 c2 s2 h b true _ ?sa Hhd0.out ?sb Hhd1.out ?sc Hhd2.out AT.out).mono ?_); (case sa => exact Kd.C_below Hhp0.out HX.out); (case sb => exact Kd.C_below Hhp1.out HX.out); (case sc => exact Kd.C_below Hhp2.out HX.out); rintro e wk ⟨rfl, hb⟩; replace BKp := bb BKp hb; replace BKi := bb BKi hb; replace BKr := bb BKr hb; replace HX := xb HX hb; clear hb; (try clear h3p0 h3p1 h3p2 h3p3 h3p4); obtain ⟨h4p0, h4p1, h4p2, h4p3, h4p4⟩ := cl5 BKp) | (go_at_call 19; (with_reducible refine (spec_l9Room.calls A0 c0 s0 (some ad) c1 s1 A2 c2 s2 h b true _ ?sa Hhd0.out ?sb Hhd1.out ?sc Hhd2.out AU.out).mono ?_); (case sa => exact Kd.C_below Hhp0.out HX.out); (case sb => exact Kd.C_below Hhp1.out HX.out); (case sc => exact Kd.C_below Hhp2.out HX.out); rintro e wu ⟨rfl, hb⟩; replace BKp := bb BKp hb; replace BKi := bb BKi hb; replace BKr := bb BKr hb; replace HX := xb HX hb; clear hb; (try clear h4p0 h4p1 h4p2 h4p3 h4p4); obtain ⟨h5p0, h5p1, h5p2, h5p3, h5p4⟩ := cl5 BKp) | ((with_reducible refine gate_callee (f := 20) rfl ?_); refine goesL_ (some 18) rfl rfl Try.func20 (by kernel_rfl) rfl #[.agg #[.slice A0 s0.length c0, .slice (some ad) s1.length c1, .slice A2 s2.length c2, .int .i64 h, .int .i64 b]] rfl ab5 ?_; (with_reducible refine (spec_l8Copy.calls k A0 c0 s0 (some ad) c1 s1 A2 c2 s2 h b z0 z1 z2 z3 z4 _ ?sa Hhd0.out ?sb Hhd1.out ?sc Hhd2.out AZ.out).mono ?_); (case sa => exact Kd.C_below Hhp0.out HX.out); (case sb => exact Kd.C_below Hhp1.out HX.out); (case sc => exact Kd.C_below Hhp2.out HX.out); rintro e wc ⟨v0, v1, v2, rfl, ho0, ho1, ho2, hb⟩; refine ⟨_, rfl, ?_⟩; have HO := am ((OwnP.of_copy ho0 ho1 ho2).lower (below_size HX.out)); have LTp := am (blk_lt BKp.out); have LTi := am (blk_lt BKi.out); have LTr := am (blk_lt BKr.out); replace BKp := bb BKp hb; replace BKi := bb BKi hb; replace BKr := bb BKr hb; replace HX := xb HX hb; obtain ⟨Z0, d0, Z1, d1, Z2, d2, rfl, rfl, rfl, _, _, _⟩ := HO.out.slices; clear ho0 ho1 ho2; clear hb; (try clear h5p0 h5p1 h5p2 h5p3 h5p4)) | ((with_reducible refine gd_ 5 ?_); refine bx_ 5 (cs := #[.slice none 0 0, .slice none 0 0, .slice none 0 0, .int .i64 0, .int .i64 0]) 33 ?_; intro gbo hg wo hbox hb; have GEo := gE HX hg; have NEp_o := nE BKp hg; have NEi_o := nE BKi hg; have NEr_o := nE BKr hg; have GO := am (show wc.heap.size ≤ gbo by rw [hg]; exact Nat.le_refl _); replace HO := ob HO hb; replace BKp := bb BKp hb; replace BKi := bb BKi hb; replace BKr := bb BKr hb; replace HX := xb HX hb; have BKo := am hbox; clear hb hbox hg; obtain ⟨h7o0, h7o1, h7o2, h7o3, h7o4⟩ := cl5 BKo; obtain ⟨f7o0, f7o1, f7o2, f7o3, f7o4⟩ := fz5 BKo) | ((with_reducible refine gate_store (t := 33) (p := 5) rfl ?_); refine store_event (t := 33) (p := 5) (v := ?voo) (w1 := (st5 wo gbo (.slice Z0 z0.length d0) (.slice Z1 z1.length d1) (.slice Z2 z2.length d2) (.int .i64 z3) (.int .i64 z4))) ?hg ?ho ?hn ?hr ?_; (case ho => rfl); (case hg => rfl); (case hn => rfl); (case hr => first | (go_simp; done) | (go_simp; rfl)); intro ws hw; replace BKp := kS5 hw BKp NEp_o.out; replace BKi := kS5 hw BKi NEi_o.out; replace BKr := kS5 hw BKr NEr_o.out; replace BKo := sS5 hw BKo; replace HX := bS5 hw HX GEo.out; replace HO := pS5 hw HO (fun k hk e_ => by have := GO.out; have := hk.2; omega); have hxo := pw_cell_below HX.out HXO.out; clear hw; (try clear h7o0 h7o1 h7o2 h7o3 h7o4 f7o0 f7o1 f7o2 f7o3 f7o4); obtain ⟨h8p0, h8p1, h8p2, h8p3, h8p4⟩ := cl5 BKp; obtain ⟨h8i0, h8i1, h8i2, h8i3, h8i4, h8i5, h8i6⟩ := cl7 BKi; obtain ⟨h8o0, h8o1, h8o2, h8o3, h8o4⟩ := cl5 BKo) | (go_at_call 21; obtain ⟨P0, hP0, hs0, hback⟩ := OwnP.items HO.out; have HP0 := am hP0; have HBK := am hback; clear hP0 hback; (refine (spec_l6Add.calls P0 _ z0 up (-1) a0 a1 a2 A3 c3 l3 a4 a5 A6 c6 l6 q qn w _ HX.out hs0 (Kd.C_below HR3.out HX.out) HC3.out (Kd.C_below HR6.out HX.out) HC6.out AQ.out).mono ?_); rintro e wm ⟨vm, rfl, hs, hb, hk⟩; obtain ⟨Y0, e0, rfl⟩ := Kd.S_slice hs; have HO2 := am (HBK.out _ _ _ hs hk); have LS := am (blk_lt BKo.out); have LSr := am (blk_lt BKr.out); replace BKp := am (blk_kept BKp.out hk (fun q_ => by have h1_ := HP0.out _ q_; have h2_ := LTp.out; omega)); replace BKi := am (blk_kept BKi.out hk (fun q_ => by have h1_ := HP0.out _ q_; have h2_ := LTi.out; omega)); replace BKr := am (blk_kept BKr.out hk (fun q_ => by have h1_ := HP0.out _ q_; have h2_ := LTr.out; omega)); replace BKo := am (blk_kept BKo.out hk (fun q_ => by have h1_ := HP0.out _ q_; have h2_ := GO.out; omega)); replace HX := am hb; clear hs hb hk HBK hs0 HO; have HO := HO2; clear HO2; (try clear hxo); (try clear h8p0 h8p1 h8p2 h8p3 h8p4 h8i0 h8i1 h8i2 h8i3 h8i4 h8i5 h8i6 h8o0 h8o1 h8o2 h8o3 h8o4); obtain ⟨h9o0, h9o1, h9o2, h9o3, h9o4⟩ := cl5 BKo; obtain ⟨f9o0, f9o1, f9o2, f9o3, f9o4⟩ := fz5 BKo) | ((with_reducible refine gate_store (t := 31) (p := 39) rfl ?_); refine store_event (t := 31) (p := 39) (v := ?vot1) (w1 := (wm.setCell ⟨gbo, 0, none⟩ (.slice Y0 q.length e0))) ?hg ?ho ?hn ?hr ?_; (case ho => rfl); (case hg => rfl); (case hn => rfl); (case hr => first | (go_simp; done) | (go_simp; rfl)); intro wt hw; replace BKp := kS1 hw BKp NEp_o.out; replace BKi := kS1 hw BKi NEi_o.out; replace BKr := kS1 hw BKr NEr_o.out; replace BKo : Aside0 (wt.heap[gbo]? = some (.cells #[.slice Y0 q.length e0, .slice Z1 z1.length d1, .slice Z2 z2.length d2, .int .i64 z3, .int .i64 z4] 33 (0, 0))) := ⟨by rw [hw]; exact blk_put (cs := #[.slice Z0 z0.length d0, .slice Z1 z1.length d1, .slice Z2 z2.length d2, .int .i64 z3, .int .i64 z4]) BKo.out 0 _ rfl⟩; replace HX := bS1 hw HX GEo.out; replace HO := pS1 hw HO (fun k hk e_ => by have h1_ := GO.out; have h2_ := LS.out; have h3_ : k = gbo := e_; rcases hk with hk | hk; (have := hk.2; omega); omega); obtain ⟨Yy0, yy0, Yy1, yy1, Yy2, yy2, ey0, ey1, ey2, hy0, hy1, hy2⟩ := HO.out.slices; cases ey0; cases ey1; cases ey2; have HY := am (And.intro hy0 (And.intro hy1 hy2)); clear hy0 hy1 hy2; clear hw; (try clear h9o0 h9o1 h9o2 h9o3 h9o4 f9o0 f9o1 f9o2 f9o3 f9o4); obtain ⟨h10o0, h10o1, h10o2, h10o3, h10o4⟩ := cl5 BKo) | (go_at_call 18; (with_reducible refine (spec_PageOk.calls k _ _ q _ _ z1 _ _ z2 z3 z4 true _ ?sd HY.out.1.1 ?se HY.out.2.1.1 ?sf HY.out.2.2.1 AV.out).mono ?_); (case sd => exact HY.out.1.2); (case se => exact HY.out.2.1.2); (case sf => exact HY.out.2.2.2); rintro e wv ⟨rfl, hb⟩; replace BKp := bb BKp hb; replace BKi := bb BKi hb; replace BKr := bb BKr hb; replace BKo := bb BKo hb; replace HX := xb HX hb; replace HO := ob HO hb; clear hb; (try clear h10o0 h10o1 h10o2 h10o3 h10o4); obtain ⟨h11r0, h11r1, h11r2, h11r3, h11r4⟩ := cl5 BKr; obtain ⟨f11r0, f11r1, f11r2, f11r3, f11r4⟩ := fz5 BKr; obtain ⟨h11o0, h11o1, h11o2, h11o3, h11o4⟩ := cl5 BKo) | ((with_reducible refine gate_store (t := 33) (p := 4) rfl ?_); refine store_event (t := 33) (p := 4) (v := ?vorwv) (w1 := (st5 wv gbr (.slice Y0 q.length e0) (.slice Z1 z1.length d1) (.slice Z2 z2.length d2) (.int .i64 z3) (.int .i64 z4))) ?hg ?ho ?hn ?hr ?_; (case ho => rfl); (case hg => rfl); (case hn => rfl); (case hr => first | (go_simp; done) | (go_simp; rfl)); intro wf hw; replace BKp := kS5 hw BKp NEp_r.out; replace BKi := kS5 hw BKi NEi_r.out; replace BKr := sS5 hw BKr; replace BKo := kS5 hw BKo (Ne.symm NEr_o.out); replace HX := bS5 hw HX GEr.out; have HF := pS5 hw HO (fun k hk e_ => by have h1_ := LTr.out; have h2_ := LSr.out; rcases hk with hk | hk; (have := hk.1; omega); omega); clear hw; (try clear h11r0 h11r1 h11r2 h11r3 h11r4 f11r0 f11r1 f11r2 f11r3 f11r4 h11o0 h11o1 h11o2 h11o3 h11o4)))
     refine bodyPost_ret (results_cell_row rfl _ _ gbr 33 #[.slice Y0 q.length e0, .slice Z1 z1.length d1, .slice Z2 z2.length d2, .int .i64 z3, .int .i64 z4] (0, 0) _ rfl BKr.out Try.underlying33 rfl (by kernel_rfl)) rfl ?_
     exact ⟨_, _, _, rfl, HF.out.to_copy.1, HF.out.to_copy.2.1, HF.out.to_copy.2.2, HX.out⟩
   ·rw [if_neg cu] at hup
    subst hup
    have cub0 : decide (0 < (s1.length : Int)) = false := decide_eq_false cu
    have cub1 : decide (0 < s1.length) = false := decide_eq_false (by omega)
    clear cu
    cases v with
    | false =>
     simp only [Bool.false_eq_true, if_false] at H
     have AC := am H
     clear H
     go_enter Try.func6, Try.ntmps6
     go_wp2_with (first | ((with_reducible refine gd_ 2 ?_); refine bx_ 2 (cs := #[.slice A0 s0.length c0, .slice A1 s1.length c1, .slice A2 s2.length c2, .int .i64 h, .int .i64 b]) 33 ?_; intro gbp hg wp hbox hb; have GEp := gE HX hg; replace HX := xb HX hb; have BKp := am hbox; clear hb hbox hg) | ((with_reducible refine gd_ 3 ?_); refine bx_ 3 (cs := #[.int .i64 a0, .int .i64 a1, .string a2, .slice A3 l3.length c3, .string a4, .int .i64 a5, .slice A6 l6.length c6]) 38 ?_; intro gbi hg wi hbox hb; have GEi := gE HX hg; have NEp_i := nE BKp hg; replace BKp := bb BKp hb; replace HX := xb HX hb; have BKi := am hbox; clear hb hbox hg) | ((with_reducible refine gd_ 4 ?_); refine bx_ 4 (cs := #[.slice none 0 0, .slice none 0 0, .slice none 0 0, .int .i64 0, .int .i64 0]) 33 ?_; intro gbr hg wr hbox hb; have GEr := gE HX hg; have NEp_r := nE BKp hg; have NEi_r := nE BKi hg; replace BKp := bb BKp hb; replace BKi := bb BKi hb; replace HX := xb HX hb; have BKr := am hbox; clear hb hbox hg; obtain ⟨h3p0, h3p1, h3p2, h3p3, h3p4⟩ := cl5 BKp) | (go_at_call 18; (with_reducible refine (spec_PageOk.calls k A0 c0 s0 A1 c1 s1 A2 c2 s2 h b true _ ?sa Hhd0.out ?sb Hhd1.out ?sc Hhd2.out AT.out).mono ?_); (case sa => exact Kd.C_below Hhp0.out HX.out); (case sb => exact Kd.C_below Hhp1.out HX.out); (case sc => exact Kd.C_below Hhp2.out HX.out); rintro e wk ⟨rfl, hb⟩; replace BKp := bb BKp hb; replace BKi := bb BKi hb; replace BKr := bb BKr hb; replace HX := xb HX hb; clear hb; (try clear h3p0 h3p1 h3p2 h3p3 h3p4); obtain ⟨h4p0, h4p1, h4p2, h4p3, h4p4⟩ := cl5 BKp) | (go_at_call 19; (with_reducible refine (spec_l9Room.calls A0 c0 s0 A1 c1 s1 A2 c2 s2 h b true _ ?sa Hhd0.out ?sb Hhd1.out ?sc Hhd2.out AU.out).mono ?_); (case sa => exact Kd.C_below Hhp0.out HX.out); (case sb => exact Kd.C_below Hhp1.out HX.out); (case sc => exact Kd.C_below Hhp2.out HX.out); rintro e wu ⟨rfl, hb⟩; replace BKp := bb BKp hb; replace BKi := bb BKi hb; replace BKr := bb BKr hb; replace HX := xb HX hb; clear hb; (try clear h4p0 h4p1 h4p2 h4p3 h4p4); obtain ⟨h5p0, h5p1, h5p2, h5p3, h5p4⟩ := cl5 BKp) | ((with_reducible refine gate_callee (f := 20) rfl ?_); refine goesL_ (some 18) rfl rfl Try.func20 (by kernel_rfl) rfl #[.agg #[.slice A0 s0.length c0, .slice A1 s1.length c1, .slice A2 s2.length c2, .int .i64 h, .int .i64 b]] rfl ab5 ?_; (with_reducible refine (spec_l8Copy.calls k A0 c0 s0 A1 c1 s1 A2 c2 s2 h b z0 z1 z2 z3 z4 _ ?sa Hhd0.out ?sb Hhd1.out ?sc Hhd2.out AZ.out).mono ?_); (case sa => exact Kd.C_below Hhp0.out HX.out); (case sb => exact Kd.C_below Hhp1.out HX.out); (case sc => exact Kd.C_below Hhp2.out HX.out); rintro e wc ⟨v0, v1, v2, rfl, ho0, ho1, ho2, hb⟩; refine ⟨_, rfl, ?_⟩; have HO := am ((OwnP.of_copy ho0 ho1 ho2).lower (below_size HX.out)); have LTp := am (blk_lt BKp.out); have LTi := am (blk_lt BKi.out); have LTr := am (blk_lt BKr.out); replace BKp := bb BKp hb; replace BKi := bb BKi hb; replace BKr := bb BKr hb; replace HX := xb HX hb; obtain ⟨Z0, d0, Z1, d1, Z2, d2, rfl, rfl, rfl, _, _, _⟩ := HO.out.slices; clear ho0 ho1 ho2; clear hb; (try clear h5p0 h5p1 h5p2 h5p3 h5p4)) | ((with_reducible refine gd_ 5 ?_); refine bx_ 5 (cs := #[.slice none 0 0, .slice none 0 0, .slice none 0 0, .int .i64 0, .int .i64 0]) 33 ?_; intro gbo hg wo hbox hb; have GEo := gE HX hg; have NEp_o := nE BKp hg; have NEi_o := nE BKi hg; have NEr_o := nE BKr hg; have GO := am (show wc.heap.size ≤ gbo by rw [hg]; exact Nat.le_refl _); replace HO := ob HO hb; replace BKp := bb BKp hb; replace BKi := bb BKi hb; replace BKr := bb BKr hb; replace HX := xb HX hb; have BKo := am hbox; clear hb hbox hg; obtain ⟨h7o0, h7o1, h7o2, h7o3, h7o4⟩ := cl5 BKo; obtain ⟨f7o0, f7o1, f7o2, f7o3, f7o4⟩ := fz5 BKo) | ((with_reducible refine gate_store (t := 33) (p := 5) rfl ?_); refine store_event (t := 33) (p := 5) (v := ?voo) (w1 := (st5 wo gbo (.slice Z0 z0.length d0) (.slice Z1 z1.length d1) (.slice Z2 z2.length d2) (.int .i64 z3) (.int .i64 z4))) ?hg ?ho ?hn ?hr ?_; (case ho => rfl); (case hg => rfl); (case hn => rfl); (case hr => first | (go_simp; done) | (go_simp; rfl)); intro ws hw; replace BKp := kS5 hw BKp NEp_o.out; replace BKi := kS5 hw BKi NEi_o.out; replace BKr := kS5 hw BKr NEr_o.out; replace BKo := sS5 hw BKo; replace HX := bS5 hw HX GEo.out; replace HO := pS5 hw HO (fun k hk e_ => by have := GO.out; have := hk.2; omega); clear hw; (try clear h7o0 h7o1 h7o2 h7o3 h7o4 f7o0 f7o1 f7o2 f7o3 f7o4); obtain ⟨h8p0, h8p1, h8p2, h8p3, h8p4⟩ := cl5 BKp; obtain ⟨h8i0, h8i1, h8i2, h8i3, h8i4, h8i5, h8i6⟩ := cl7 BKi; obtain ⟨h8o0, h8o1, h8o2, h8o3, h8o4⟩ := cl5 BKo) | (go_at_call 21; obtain ⟨P0, hP0, hs0, hback⟩ := OwnP.items HO.out; have HP0 := am hP0; have HBK := am hback; clear hP0 hback; (refine (spec_l6Add.calls P0 _ z0 0 (-1) a0 a1 a2 A3 c3 l3 a4 a5 A6 c6 l6 q qn w _ HX.out hs0 (Kd.C_below HR3.out HX.out) HC3.out (Kd.C_below HR6.out HX.out) HC6.out AQ.out).mono ?_); rintro e wm ⟨vm, rfl, hs, hb, hk⟩; obtain ⟨Y0, e0, rfl⟩ := Kd.S_slice hs; have HO2 := am (HBK.out _ _ _ hs hk); have LS := am (blk_lt BKo.out); have LSr := am (blk_lt BKr.out); replace BKp := am (blk_kept BKp.out hk (fun q_ => by have h1_ := HP0.out _ q_; have h2_ := LTp.out; omega)); replace BKi := am (blk_kept BKi.out hk (fun q_ => by have h1_ := HP0.out _ q_; have h2_ := LTi.out; omega)); replace BKr := am (blk_kept BKr.out hk (fun q_ => by have h1_ := HP0.out _ q_; have h2_ := LTr.out; omega)); replace BKo := am (blk_kept BKo.out hk (fun q_ => by have h1_ := HP0.out _ q_; have h2_ := GO.out; omega)); replace HX := am hb; clear hs hb hk HBK hs0 HO; have HO := HO2; clear HO2; (try clear h8p0 h8p1 h8p2 h8p3 h8p4 h8i0 h8i1 h8i2 h8i3 h8i4 h8i5 h8i6 h8o0 h8o1 h8o2 h8o3 h8o4); obtain ⟨h9o0, h9o1, h9o2, h9o3, h9o4⟩ := cl5 BKo; obtain ⟨f9o0, f9o1, f9o2, f9o3, f9o4⟩ := fz5 BKo) | ((with_reducible refine gate_store (t := 31) (p := 39) rfl ?_); refine store_event (t := 31) (p := 39) (v := ?vot1) (w1 := (wm.setCell ⟨gbo, 0, none⟩ (.slice Y0 q.length e0))) ?hg ?ho ?hn ?hr ?_; (case ho => rfl); (case hg => rfl); (case hn => rfl); (case hr => first | (go_simp; done) | (go_simp; rfl)); intro wt hw; replace BKp := kS1 hw BKp NEp_o.out; replace BKi := kS1 hw BKi NEi_o.out; replace BKr := kS1 hw BKr NEr_o.out; replace BKo : Aside0 (wt.heap[gbo]? = some (.cells #[.slice Y0 q.length e0, .slice Z1 z1.length d1, .slice Z2 z2.length d2, .int .i64 z3, .int .i64 z4] 33 (0, 0))) := ⟨by rw [hw]; exact blk_put (cs := #[.slice Z0 z0.length d0, .slice Z1 z1.length d1, .slice Z2 z2.length d2, .int .i64 z3, .int .i64 z4]) BKo.out 0 _ rfl⟩; replace HX := bS1 hw HX GEo.out; replace HO := pS1 hw HO (fun k hk e_ => by have h1_ := GO.out; have h2_ := LS.out; have h3_ : k = gbo := e_; rcases hk with hk | hk; (have := hk.2; omega); omega); obtain ⟨Yy0, yy0, Yy1, yy1, Yy2, yy2, ey0, ey1, ey2, hy0, hy1, hy2⟩ := HO.out.slices; cases ey0; cases ey1; cases ey2; have HY := am (And.intro hy0 (And.intro hy1 hy2)); clear hy0 hy1 hy2; clear hw; (try clear h9o0 h9o1 h9o2 h9o3 h9o4 f9o0 f9o1 f9o2 f9o3 f9o4); obtain ⟨h10o0, h10o1, h10o2, h10o3, h10o4⟩ := cl5 BKo) | (go_at_call 18; (with_reducible refine (spec_PageOk.calls k _ _ q _ _ z1 _ _ z2 z3 z4 false _ ?sd HY.out.1.1 ?se HY.out.2.1.1 ?sf HY.out.2.2.1 AV.out).mono ?_); (case sd => exact HY.out.1.2); (case se => exact HY.out.2.1.2); (case sf => exact HY.out.2.2.2); rintro e wv ⟨rfl, hb⟩; replace BKp := bb BKp hb; replace BKi := bb BKi hb; replace BKr := bb BKr hb; replace BKo := bb BKo hb; replace HX := xb HX hb; clear hb; (try clear h10o0 h10o1 h10o2 h10o3 h10o4); obtain ⟨h11p0, h11p1, h11p2, h11p3, h11p4⟩ := cl5 BKp) | ((with_reducible refine gate_callee (f := 20) rfl ?_); refine goesL_ (some 44) rfl rfl Try.func20 (by kernel_rfl) rfl #[.agg #[.slice A0 s0.length c0, .slice A1 s1.length c1, .slice A2 s2.length c2, .int .i64 h, .int .i64 b]] rfl ab5 ?_; (with_reducible refine (spec_l8Copy.calls k A0 c0 s0 A1 c1 s1 A2 c2 s2 h b r1 r2 r3 r4 r5 _ ?sa Hhd0.out ?sb Hhd1.out ?sc Hhd2.out AC.out).mono ?_); (case sa => exact Kd.C_below Hhp0.out HX.out); (case sb => exact Kd.C_below Hhp1.out HX.out); (case sc => exact Kd.C_below Hhp2.out HX.out); rintro e wc2 ⟨v0, v1, v2, rfl, ho0, ho1, ho2, hb⟩; refine ⟨_, rfl, ?_⟩; clear HO; have HO := am ((OwnP.of_copy ho0 ho1 ho2).lower (below_size HX.out)); have LT2p := am (blk_lt BKp.out); have LT2i := am (blk_lt BKi.out); have LT2r := am (blk_lt BKr.out); have LT2o := am (blk_lt BKo.out); replace BKp := bb BKp hb; replace BKi := bb BKi hb; replace BKr := bb BKr hb; replace BKo := bb BKo hb; replace HX := xb HX hb; obtain ⟨X0, x0, X1, x1, X2, x2, rfl, rfl, rfl, _, _, _⟩ := HO.out.slices; clear ho0 ho1 ho2; clear hb; (try clear h11p0 h11p1 h11p2 h11p3 h11p4); obtain ⟨h12r0, h12r1, h12r2, h12r3, h12r4⟩ := cl5 BKr; obtain ⟨f12r0, f12r1, f12r2, f12r3, f12r4⟩ := fz5 BKr) | ((with_reducible refine gate_store (t := 33) (p := 4) rfl ?_); refine store_event (t := 33) (p := 4) (v := ?vorwc2) (w1 := (st5 wc2 gbr (.slice X0 r1.length x0) (.slice X1 r2.length x1) (.slice X2 r3.length x2) (.int .i64 r4) (.int .i64 r5))) ?hg ?ho ?hn ?hr ?_; (case ho => rfl); (case hg => rfl); (case hn => rfl); (case hr => first | (go_simp; done) | (go_simp; rfl)); intro wf hw; replace BKp := kS5 hw BKp NEp_r.out; replace BKi := kS5 hw BKi NEi_r.out; replace BKr := sS5 hw BKr; replace BKo := kS5 hw BKo (Ne.symm NEr_o.out); replace HX := bS5 hw HX GEr.out; have HF := pS5 hw HO (fun k hk e_ => by have := LT2r.out; have := hk.1; omega); clear hw; (try clear h12r0 h12r1 h12r2 h12r3 h12r4 f12r0 f12r1 f12r2 f12r3 f12r4)))
     refine bodyPost_ret (results_cell_row rfl _ _ gbr 33 #[.slice X0 r1.length x0, .slice X1 r2.length x1, .slice X2 r3.length x2, .int .i64 r4, .int .i64 r5] (0, 0) _ rfl BKr.out Try.underlying33 rfl (by kernel_rfl)) rfl ?_
     exact ⟨_, _, _, rfl, HF.out.to_copy.1, HF.out.to_copy.2.1, HF.out.to_copy.2.2, HX.out⟩
    | true =>
     simp only [if_true, Option.some.injEq, Prod.mk.injEq] at H
     obtain ⟨rfl, rfl, rfl, rfl, rfl⟩ := H
     go_enter Try.func6, Try.ntmps6
     go_wp2_with (first | ((with_reducible refine gd_ 2 ?_); refine bx_ 2 (cs := #[.slice A0 s0.length c0, .slice A1 s1.length c1, .slice A2 s2.length c2, .int .i64 h, .int .i64 b]) 33 ?_; intro gbp hg wp hbox hb; have GEp := gE HX hg; replace HX := xb HX hb; have BKp := am hbox; clear hb hbox hg) | ((with_reducible refine gd_ 3 ?_); refine bx_ 3 (cs := #[.int .i64 a0, .int .i64 a1, .string a2, .slice A3 l3.length c3, .string a4, .int .i64 a5, .slice A6 l6.length c6]) 38 ?_; intro gbi hg wi hbox hb; have GEi := gE HX hg; have NEp_i := nE BKp hg; replace BKp := bb BKp hb; replace HX := xb HX hb; have BKi := am hbox; clear hb hbox hg) | ((with_reducible refine gd_ 4 ?_); refine bx_ 4 (cs := #[.slice none 0 0, .slice none 0 0, .slice none 0 0, .int .i64 0, .int .i64 0]) 33 ?_; intro gbr hg wr hbox hb; have GEr := gE HX hg; have NEp_r := nE BKp hg; have NEi_r := nE BKi hg; replace BKp := bb BKp hb; replace BKi := bb BKi hb; replace HX := xb HX hb; have BKr := am hbox; clear hb hbox hg; obtain ⟨h3p0, h3p1, h3p2, h3p3, h3p4⟩ := cl5 BKp) | (go_at_call 18; (with_reducible refine (spec_PageOk.calls k A0 c0 s0 A1 c1 s1 A2 c2 s2 h b true _ ?sa Hhd0.out ?sb Hhd1.out ?sc Hhd2.out AT.out).mono ?_); (case sa => exact Kd.C_below Hhp0.out HX.out); (case sb => exact Kd.C_below Hhp1.out HX.out); (case sc => exact Kd.C_below Hhp2.out HX.out); rintro e wk ⟨rfl, hb⟩; replace BKp := bb BKp hb; replace BKi := bb BKi hb; replace BKr := bb BKr hb; replace HX := xb HX hb; clear hb; (try clear h3p0 h3p1 h3p2 h3p3 h3p4); obtain ⟨h4p0, h4p1, h4p2, h4p3, h4p4⟩ := cl5 BKp) | (go_at_call 19; (with_reducible refine (spec_l9Room.calls A0 c0 s0 A1 c1 s1 A2 c2 s2 h b true _ ?sa Hhd0.out ?sb Hhd1.out ?sc Hhd2.out AU.out).mono ?_); (case sa => exact Kd.C_below Hhp0.out HX.out); (case sb => exact Kd.C_below Hhp1.out HX.out); (case sc => exact Kd.C_below Hhp2.out HX.out); rintro e wu ⟨rfl, hb⟩; replace BKp := bb BKp hb; replace BKi := bb BKi hb; replace BKr := bb BKr hb; replace HX := xb HX hb; clear hb; (try clear h4p0 h4p1 h4p2 h4p3 h4p4); obtain ⟨h5p0, h5p1, h5p2, h5p3, h5p4⟩ := cl5 BKp) | ((with_reducible refine gate_callee (f := 20) rfl ?_); refine goesL_ (some 18) rfl rfl Try.func20 (by kernel_rfl) rfl #[.agg #[.slice A0 s0.length c0, .slice A1 s1.length c1, .slice A2 s2.length c2, .int .i64 h, .int .i64 b]] rfl ab5 ?_; (with_reducible refine (spec_l8Copy.calls k A0 c0 s0 A1 c1 s1 A2 c2 s2 h b z0 z1 z2 z3 z4 _ ?sa Hhd0.out ?sb Hhd1.out ?sc Hhd2.out AZ.out).mono ?_); (case sa => exact Kd.C_below Hhp0.out HX.out); (case sb => exact Kd.C_below Hhp1.out HX.out); (case sc => exact Kd.C_below Hhp2.out HX.out); rintro e wc ⟨v0, v1, v2, rfl, ho0, ho1, ho2, hb⟩; refine ⟨_, rfl, ?_⟩; have HO := am ((OwnP.of_copy ho0 ho1 ho2).lower (below_size HX.out)); have LTp := am (blk_lt BKp.out); have LTi := am (blk_lt BKi.out); have LTr := am (blk_lt BKr.out); replace BKp := bb BKp hb; replace BKi := bb BKi hb; replace BKr := bb BKr hb; replace HX := xb HX hb; obtain ⟨Z0, d0, Z1, d1, Z2, d2, rfl, rfl, rfl, _, _, _⟩ := HO.out.slices; clear ho0 ho1 ho2; clear hb; (try clear h5p0 h5p1 h5p2 h5p3 h5p4)) | ((with_reducible refine gd_ 5 ?_); refine bx_ 5 (cs := #[.slice none 0 0, .slice none 0 0, .slice none 0 0, .int .i64 0, .int .i64 0]) 33 ?_; intro gbo hg wo hbox hb; have GEo := gE HX hg; have NEp_o := nE BKp hg; have NEi_o := nE BKi hg; have NEr_o := nE BKr hg; have GO := am (show wc.heap.size ≤ gbo by rw [hg]; exact Nat.le_refl _); replace HO := ob HO hb; replace BKp := bb BKp hb; replace BKi := bb BKi hb; replace BKr := bb BKr hb; replace HX := xb HX hb; have BKo := am hbox; clear hb hbox hg; obtain ⟨h7o0, h7o1, h7o2, h7o3, h7o4⟩ := cl5 BKo; obtain ⟨f7o0, f7o1, f7o2, f7o3, f7o4⟩ := fz5 BKo) | ((with_reducible refine gate_store (t := 33) (p := 5) rfl ?_); refine store_event (t := 33) (p := 5) (v := ?voo) (w1 := (st5 wo gbo (.slice Z0 z0.length d0) (.slice Z1 z1.length d1) (.slice Z2 z2.length d2) (.int .i64 z3) (.int .i64 z4))) ?hg ?ho ?hn ?hr ?_; (case ho => rfl); (case hg => rfl); (case hn => rfl); (case hr => first | (go_simp; done) | (go_simp; rfl)); intro ws hw; replace BKp := kS5 hw BKp NEp_o.out; replace BKi := kS5 hw BKi NEi_o.out; replace BKr := kS5 hw BKr NEr_o.out; replace BKo := sS5 hw BKo; replace HX := bS5 hw HX GEo.out; replace HO := pS5 hw HO (fun k hk e_ => by have := GO.out; have := hk.2; omega); clear hw; (try clear h7o0 h7o1 h7o2 h7o3 h7o4 f7o0 f7o1 f7o2 f7o3 f7o4); obtain ⟨h8p0, h8p1, h8p2, h8p3, h8p4⟩ := cl5 BKp; obtain ⟨h8i0, h8i1, h8i2, h8i3, h8i4, h8i5, h8i6⟩ := cl7 BKi; obtain ⟨h8o0, h8o1, h8o2, h8o3, h8o4⟩ := cl5 BKo) | (go_at_call 21; obtain ⟨P0, hP0, hs0, hback⟩ := OwnP.items HO.out; have HP0 := am hP0; have HBK := am hback; clear hP0 hback; (refine (spec_l6Add.calls P0 _ z0 0 (-1) a0 a1 a2 A3 c3 l3 a4 a5 A6 c6 l6 q qn w _ HX.out hs0 (Kd.C_below HR3.out HX.out) HC3.out (Kd.C_below HR6.out HX.out) HC6.out AQ.out).mono ?_); rintro e wm ⟨vm, rfl, hs, hb, hk⟩; obtain ⟨Y0, e0, rfl⟩ := Kd.S_slice hs; have HO2 := am (HBK.out _ _ _ hs hk); have LS := am (blk_lt BKo.out); have LSr := am (blk_lt BKr.out); replace BKp := am (blk_kept BKp.out hk (fun q_ => by have h1_ := HP0.out _ q_; have h2_ := LTp.out; omega)); replace BKi := am (blk_kept BKi.out hk (fun q_ => by have h1_ := HP0.out _ q_; have h2_ := LTi.out; omega)); replace BKr := am (blk_kept BKr.out hk (fun q_ => by have h1_ := HP0.out _ q_; have h2_ := LTr.out; omega)); replace BKo := am (blk_kept BKo.out hk (fun q_ => by have h1_ := HP0.out _ q_; have h2_ := GO.out; omega)); replace HX := am hb; clear hs hb hk HBK hs0 HO; have HO := HO2; clear HO2; (try clear h8p0 h8p1 h8p2 h8p3 h8p4 h8i0 h8i1 h8i2 h8i3 h8i4 h8i5 h8i6 h8o0 h8o1 h8o2 h8o3 h8o4); obtain ⟨h9o0, h9o1, h9o2, h9o3, h9o4⟩ := cl5 BKo; obtain ⟨f9o0, f9o1, f9o2, f9o3, f9o4⟩ := fz5 BKo) | ((with_reducible refine gate_store (t := 31) (p := 39) rfl ?_); refine store_event (t := 31) (p := 39) (v := ?vot1) (w1 := (wm.setCell ⟨gbo, 0, none⟩ (.slice Y0 q.length e0))) ?hg ?ho ?hn ?hr ?_; (case ho => rfl); (case hg => rfl); (case hn => rfl); (case hr => first | (go_simp; done) | (go_simp; rfl)); intro wt hw; replace BKp := kS1 hw BKp NEp_o.out; replace BKi := kS1 hw BKi NEi_o.out; replace BKr := kS1 hw BKr NEr_o.out; replace BKo : Aside0 (wt.heap[gbo]? = some (.cells #[.slice Y0 q.length e0, .slice Z1 z1.length d1, .slice Z2 z2.length d2, .int .i64 z3, .int .i64 z4] 33 (0, 0))) := ⟨by rw [hw]; exact blk_put (cs := #[.slice Z0 z0.length d0, .slice Z1 z1.length d1, .slice Z2 z2.length d2, .int .i64 z3, .int .i64 z4]) BKo.out 0 _ rfl⟩; replace HX := bS1 hw HX GEo.out; replace HO := pS1 hw HO (fun k hk e_ => by have h1_ := GO.out; have h2_ := LS.out; have h3_ : k = gbo := e_; rcases hk with hk | hk; (have := hk.2; omega); omega); obtain ⟨Yy0, yy0, Yy1, yy1, Yy2, yy2, ey0, ey1, ey2, hy0, hy1, hy2⟩ := HO.out.slices; cases ey0; cases ey1; cases ey2; have HY := am (And.intro hy0 (And.intro hy1 hy2)); clear hy0 hy1 hy2; clear hw; (try clear h9o0 h9o1 h9o2 h9o3 h9o4 f9o0 f9o1 f9o2 f9o3 f9o4); obtain ⟨h10o0, h10o1, h10o2, h10o3, h10o4⟩ := cl5 BKo) | (go_at_call 18; (with_reducible refine (spec_PageOk.calls k _ _ q _ _ z1 _ _ z2 z3 z4 true _ ?sd HY.out.1.1 ?se HY.out.2.1.1 ?sf HY.out.2.2.1 AV.out).mono ?_); (case sd => exact HY.out.1.2); (case se => exact HY.out.2.1.2); (case sf => exact HY.out.2.2.2); rintro e wv ⟨rfl, hb⟩; replace BKp := bb BKp hb; replace BKi := bb BKi hb; replace BKr := bb BKr hb; replace BKo := bb BKo hb; replace HX := xb HX hb; replace HO := ob HO hb; clear hb; (try clear h10o0 h10o1 h10o2 h10o3 h10o4); obtain ⟨h11r0, h11r1, h11r2, h11r3, h11r4⟩ := cl5 BKr; obtain ⟨f11r0, f11r1, f11r2, f11r3, f11r4⟩ := fz5 BKr; obtain ⟨h11o0, h11o1, h11o2, h11o3, h11o4⟩ := cl5 BKo) | ((with_reducible refine gate_store (t := 33) (p := 4) rfl ?_); refine store_event (t := 33) (p := 4) (v := ?vorwv) (w1 := (st5 wv gbr (.slice Y0 q.length e0) (.slice Z1 z1.length d1) (.slice Z2 z2.length d2) (.int .i64 z3) (.int .i64 z4))) ?hg ?ho ?hn ?hr ?_; (case ho => rfl); (case hg => rfl); (case hn => rfl); (case hr => first | (go_simp; done) | (go_simp; rfl)); intro wf hw; replace BKp := kS5 hw BKp NEp_r.out; replace BKi := kS5 hw BKi NEi_r.out; replace BKr := sS5 hw BKr; replace BKo := kS5 hw BKo (Ne.symm NEr_o.out); replace HX := bS5 hw HX GEr.out; have HF := pS5 hw HO (fun k hk e_ => by have h1_ := LTr.out; have h2_ := LSr.out; rcases hk with hk | hk; (have := hk.1; omega); omega); clear hw; (try clear h11r0 h11r1 h11r2 h11r3 h11r4 f11r0 f11r1 f11r2 f11r3 f11r4 h11o0 h11o1 h11o2 h11o3 h11o4)))
     refine bodyPost_ret (results_cell_row rfl _ _ gbr 33 #[.slice Y0 q.length e0, .slice Z1 z1.length d1, .slice Z2 z2.length d2, .int .i64 z3, .int .i64 z4] (0, 0) _ rfl BKr.out Try.underlying33 rfl (by kernel_rfl)) rfl ?_
     exact ⟨_, _, _, rfl, HF.out.to_copy.1, HF.out.to_copy.2.1, HF.out.to_copy.2.2, HX.out⟩
end Go.Proofs.Ytekkalnafngfeaa.P
