-- WRITTEN BY hprint.py
import Derived.Test.YthpdpnpojgegiaaGreatDoorPw0
import Derived.Test.YthpdpnpojgegiaaGreatDoorPw11
namespace Go.Proofs.YthpdpnpojgegiaaGreatDoor.P
open Go.RowKit Go.Proofs.YthpdpnpojgegiaaGreatDoorW.PrintWords Go.Proofs.YthpdpnpojgegiaaGreatDoorW.PrintLast Go.Proofs.YthpdpnpojgegiaaGreatDoorW.PrintMore
attribute [local go_sem] max2_int min2_int max_two min_two max_three min_three max_four min_four
set_option linter.unusedVariables false
set_option linter.unusedSimpArgs false
set_option maxHeartbeats 8000000
set_option maxRecDepth 100000

/-! ### impl_follow: function 110 -/
def impl_follow.f (a0 : Int) (a1 : Int) : Option (Int) := if 0 ≤ (IntKind.u64.wrap (a1)) then (some ((Go.bits .or .i64 128 (Go.bits .and .i64 (shr .i64 a0 (IntKind.u64.wrap (a1))) 63)) % 256)) else (none)
theorem impl_follow.calls (a0 : Int) (a1 : Int) (r : Int) (w : World) (h : impl_follow.f a0 a1 = some r) :
  Calls Tryz.prog 110 #[.int .i64 a0, .int .i64 a1] w fun e w' => e = .returned (.int .u8 r) ∧ Drawn0 w w' := by
 have H : (if 0 ≤ (IntKind.u64.wrap (a1)) then (some ((Go.bits .or .i64 128 (Go.bits .and .i64 (shr .i64 a0 (IntKind.u64.wrap (a1))) 63)) % 256)) else (none)) = some r := h
 clear h
 obtain ⟨ji3, hji3⟩ : ∃ j_ : Int, (IntKind.u64.wrap (a1)) = j_ := ⟨_, rfl⟩
 replace H : (if 0 ≤ (ji3) then (some ((Go.bits .or .i64 128 (Go.bits .and .i64 (shr .i64 a0 (ji3)) 63)) % 256)) else (none)) = some r := by first | (rw [hji3] at H; exact H) | (simp only [hji3] at H ⊢; exact H)
 by_cases c4 : 0 ≤ (ji3)
 case neg => rw [if_neg c4] at H; exact absurd H (by simp)
 rw [if_pos c4] at H
 have c4b0 := eq_true c4
 have c4b1 := decide_eq_true c4
 clear c4
 obtain ⟨ji5, hji5⟩ : ∃ j_ : Int, (shr .i64 a0 (ji3)) = j_ := ⟨_, rfl⟩
 replace H : (some ((Go.bits .or .i64 128 (Go.bits .and .i64 (ji5) 63)) % 256)) = some r := by first | (rw [hji5] at H; exact H) | (simp only [hji5] at H ⊢; exact H)
 have hji5_ : (a0 / 2 ^ min (ji3).toNat 64) = ji5 := hji5
 have hji5z : (ji3) ≤ 64 → (a0 / 2 ^ (ji3).toNat) = ji5 := shr_small hji5
 obtain rfl := Option.some.inj H
 go_enter Tryz.func110, Tryz.ntmps110
 go_wp2
 go_ret
 exact ⟨by first | rfl | (simp; done) | (simp only [← hji3, ← hji5] <;> (first | rfl | simp)) | (simp [*]; done), by repeat (first | exact Drawn0.refl _ | apply Drawn0.step)⟩

/-! ### impl_PutSign: function 104 -/
def impl_PutSign.j0 : Nat → Int → Option (ByteArray)
 | 0, _ => none
 | k + 1, x0 => if x0 < 128 then (some (strOfNums (([(x0) % 256] : List Int)))) else (if x0 < 2048 then ((impl_follow.f x0 0).bind fun t338 => (some (strOfNums (([(Go.bits .or .i64 192 (x0 / 64)) % 256, t338] : List Int))))) else (if x0 < 65536 then ((impl_follow.f x0 6).bind fun t342 => ((impl_follow.f x0 0).bind fun t343 => (some (strOfNums (([(Go.bits .or .i64 224 (x0 / 4096)) % 256, t342, t343] : List Int)))))) else ((impl_follow.f x0 12).bind fun t347 => ((impl_follow.f x0 6).bind fun t348 => ((impl_follow.f x0 0).bind fun t349 => (some (strOfNums (([(Go.bits .or .i64 240 (x0 / 262144)) % 256, t347, t348, t349] : List Int)))))))))
def impl_PutSign.f (k : Nat) (a0 : Int) : Option (ByteArray) := (impl_SignOk.f a0).bind fun t334 => (if t334 = true then (impl_PutSign.j0 k a0) else (impl_PutSign.j0 k 65533))
theorem impl_PutSign.mono_l : ∀ k, (∀ y0, LeO (impl_PutSign.j0 k y0) (impl_PutSign.j0 (k + 1) y0))
 | 0 => fun _ r h => by simp [impl_PutSign.j0] at h
 | k + 1 => by
  have ih0 := impl_PutSign.mono_l k
  ·intro y0
   unfold impl_PutSign.j0
   repeat' with_reducible first | exact ih0 _ | exact LeO.refl _ | exact LeO.none _ | refine LeO.ite ?_ ?_ | refine LeO.bind ?_ fun _ => ?_
theorem impl_PutSign.mono : ∀ a0 k, LeO (impl_PutSign.f k a0) (impl_PutSign.f (k + 1) a0) := by
 intro a0 k
 have ih0 := impl_PutSign.mono_l k
 unfold impl_PutSign.f
 repeat' with_reducible first | exact ih0 _ | exact LeO.refl _ | exact LeO.none _ | refine LeO.ite ?_ ?_ | refine LeO.bind ?_ fun _ => ?_
theorem impl_PutSign.calls (k : Nat) (a0 : Int) (r : ByteArray) (w : World) (h : impl_PutSign.f k a0 = some r) :
  Calls Tryz.prog 104 #[.int .i64 a0] w fun e w' => e = .returned (.string r) ∧ Below w.heap.size w w' := by
 have HB := am (Below.refl w.heap.size w)
 have H : ((impl_SignOk.f a0).bind fun t334 => (if t334 = true then (impl_PutSign.j0 k a0) else (impl_PutSign.j0 k 65533))) = some r := h
 clear h
 replace H := bi_ H; obtain ⟨t334, A2, H⟩ := H
 have HC3 := am H
 clear H
 go_enter Tryz.func104, Tryz.ntmps104
 go_upto_if 5 with (first | ((with_reducible refine gf_ 81 ?_); refine gc_ Tryz.func81 (impl_SignOk.calls a0 t334 _ A2.out) ?_; rintro w' ⟨nd, rfl⟩))
 (try simp only [Act.put, List.setIfInBounds_toArray, List.set_cons_zero, List.set_cons_succ])
 go_cut [0] (fun v0 wc => ∃ (kq : Nat) (x0_2 : Int), v0 = .int .i64 x0_2 ∧ Aside0 (impl_PutSign.j0 kq x0_2 = some r) ∧ Aside0 (kq ≤ k) ∧ Aside0 (Below w.heap.size w wc))
 case first =>
  have H := HC3.out
  clear HC3
  replace H := ib_ H; rcases H with ⟨rfl, H⟩ | ⟨rfl, H⟩
  ·have H' := am H
   clear H
   go_wp2
   go_meet
   case rel => exact ⟨_, (a0), ab6, H', ⟨by first | omega | exact Nat.le_refl _⟩, ⟨ab1⟩⟩
  ·have H' := am H
   clear H
   go_wp2
   go_meet
   case rel => exact ⟨_, (65533), ab6, H', ⟨by first | omega | exact Nat.le_refl _⟩, ⟨ab1⟩⟩
 case rest =>
  clear HC3
  (try clear c1); (try clear p2); (try clear c4)
  obtain ⟨kq, x0_2, rfl, HA, HJ2, HB⟩ := hcut
  cases kq with
  | zero => exact absurd HA.out (by simp [impl_PutSign.j0])
  | succ kj2 =>
   have H := HA.out
   clear HA
   simp only [impl_PutSign.j0] at H
   replace H := ir_ H; rcases H with ⟨c5b0, H⟩ | ⟨c5b0, H⟩
   ·obtain ⟨y335, hy335⟩ : ∃ y_ : List Int, y_ = (([(x0_2) % 256] : List Int)) := ⟨_, rfl⟩
    replace H : (some (strOfNums y335)) = some r := by first | (rw [hy335]; with_reducible exact H) | (have H2_ := (Option.bind_some _ _).symm.trans H; rw [hy335]; with_reducible exact H2_) | (have H2_ := (Option.bind_some _ _).symm.trans H; with_reducible exact H2_) | with_reducible exact H | (rw [hy335]; exact H) | exact H
    have Ny335 := am hy335
    clear hy335
    obtain rfl := Option.some.inj H
    go_wp2_with (first | ((with_reducible refine gate_dst (N := 11) rfl ?_); refine Kd.R_lit (Kd.int .u8) _ 5 ?hg (N := 11) ?hd (xs := ([(x0_2) % 256] : List Int)) (inner := [.int .u8 ((x0_2) % 256)]) (ok := fun _ => True) (okp := fun _ => True) ?hr ?hp (fun _ hk => hk) trivial (Below.refl _ _) (Nat.le_refl _) (by simp) ?_; (case hd => rfl); (case hg => rfl); (case hr => first | (go_simp; done) | (go_simp; rfl)); (case hp => exact (Reps.one (show Kd.M (Kd.int .u8) _ _ _ ((x0_2) % 256) [.int .u8 ((x0_2) % 256)] from rfl) (Reps.none _ _))); intro v336 w6 ho7 hb hg_ hnew_; clear hg_ hnew_; (first | rw [← Ny335.out] at ho7 | (simp only [Int.reduceToNat] at ho7; rw [← Ny335.out] at ho7)); have HO337 := am (Kd.R_lower ho7 (below_size ab1)); replace HB := am (below_step ab1 hb); clear hb ho7; have hcv8 := own_string (P := Tryz.prog) Tryz.underlying44 Tryz.underlying5 Tryz.underlying9 (Kd.own_of_R HO337.out)))
    go_ret
    exact ⟨ab7, ab1⟩
   ·replace H := ir_ H; rcases H with ⟨c9b0, H⟩ | ⟨c9b0, H⟩
    ·replace H := bi_ H; obtain ⟨t338, A10, H⟩ := H
     obtain ⟨y339, hy339⟩ : ∃ y_ : List Int, y_ = (([(Go.bits .or .i64 192 (x0_2 / 64)) % 256, t338] : List Int)) := ⟨_, rfl⟩
     replace H : (some (strOfNums y339)) = some r := by first | (rw [hy339]; with_reducible exact H) | (have H2_ := (Option.bind_some _ _).symm.trans H; rw [hy339]; with_reducible exact H2_) | (have H2_ := (Option.bind_some _ _).symm.trans H; with_reducible exact H2_) | with_reducible exact H | (rw [hy339]; exact H) | exact H
     have Ny339 := am hy339
     clear hy339
     obtain rfl := Option.some.inj H
     go_wp2_with (first | ((with_reducible refine gf_ 110 ?_); refine gc_ Tryz.func110 (impl_follow.calls x0_2 0 t338 _ A10.out) ?_; rintro w' ⟨nd, rfl⟩) | ((with_reducible refine gate_dst (N := 22) rfl ?_); refine Kd.R_lit (Kd.int .u8) _ 5 ?hg (N := 22) ?hd (xs := ([(Go.bits .or .i64 192 (x0_2 / 64)) % 256, t338] : List Int)) (inner := [.int .u8 ((Go.bits .or .i64 192 (x0_2 / 64)) % 256), .int .u8 t338]) (ok := fun _ => True) (okp := fun _ => True) ?hr ?hp (fun _ hk => hk) trivial (Below.refl _ _) (Nat.le_refl _) (by simp) ?_; (case hd => rfl); (case hg => rfl); (case hr => first | (go_simp; done) | (go_simp; rfl)); (case hp => exact (Reps.one (show Kd.M (Kd.int .u8) _ _ _ ((Go.bits .or .i64 192 (x0_2 / 64)) % 256) [.int .u8 ((Go.bits .or .i64 192 (x0_2 / 64)) % 256)] from rfl) (Reps.one (show Kd.M (Kd.int .u8) _ _ _ t338 [.int .u8 t338] from rfl) (Reps.none _ _)))); intro v340 w11 ho12 hb hg_ hnew_; clear hg_ hnew_; (first | rw [← Ny339.out] at ho12 | (simp only [Int.reduceToNat] at ho12; rw [← Ny339.out] at ho12)); have HO341 := am (Kd.R_lower ho12 (below_size ab1)); replace HB := am (below_step ab1 hb); clear hb ho12; have hcv13 := own_string (P := Tryz.prog) Tryz.underlying44 Tryz.underlying5 Tryz.underlying9 (Kd.own_of_R HO341.out)))
     go_ret
     exact ⟨ab7, ab1⟩
    ·replace H := ir_ H; rcases H with ⟨c14b0, H⟩ | ⟨c14b0, H⟩
     ·replace H := bi_ H; obtain ⟨t342, A15, H⟩ := H
      replace H := bi_ H; obtain ⟨t343, A16, H⟩ := H
      obtain ⟨y344, hy344⟩ : ∃ y_ : List Int, y_ = (([(Go.bits .or .i64 224 (x0_2 / 4096)) % 256, t342, t343] : List Int)) := ⟨_, rfl⟩
      replace H : (some (strOfNums y344)) = some r := by first | (rw [hy344]; with_reducible exact H) | (have H2_ := (Option.bind_some _ _).symm.trans H; rw [hy344]; with_reducible exact H2_) | (have H2_ := (Option.bind_some _ _).symm.trans H; with_reducible exact H2_) | with_reducible exact H | (rw [hy344]; exact H) | exact H
      have Ny344 := am hy344
      clear hy344
      obtain rfl := Option.some.inj H
      go_wp2_with (first | ((with_reducible refine gf_ 110 ?_); refine gc_ Tryz.func110 (impl_follow.calls x0_2 6 t342 _ A15.out) ?_; rintro w' ⟨nd, rfl⟩) | ((with_reducible refine gf_ 110 ?_); refine gc_ Tryz.func110 (impl_follow.calls x0_2 0 t343 _ A16.out) ?_; rintro w' ⟨nd, rfl⟩) | ((with_reducible refine gate_dst (N := 35) rfl ?_); refine Kd.R_lit (Kd.int .u8) _ 5 ?hg (N := 35) ?hd (xs := ([(Go.bits .or .i64 224 (x0_2 / 4096)) % 256, t342, t343] : List Int)) (inner := [.int .u8 ((Go.bits .or .i64 224 (x0_2 / 4096)) % 256), .int .u8 t342, .int .u8 t343]) (ok := fun _ => True) (okp := fun _ => True) ?hr ?hp (fun _ hk => hk) trivial (Below.refl _ _) (Nat.le_refl _) (by simp) ?_; (case hd => rfl); (case hg => rfl); (case hr => first | (go_simp; done) | (go_simp; rfl)); (case hp => exact (Reps.one (show Kd.M (Kd.int .u8) _ _ _ ((Go.bits .or .i64 224 (x0_2 / 4096)) % 256) [.int .u8 ((Go.bits .or .i64 224 (x0_2 / 4096)) % 256)] from rfl) (Reps.one (show Kd.M (Kd.int .u8) _ _ _ t342 [.int .u8 t342] from rfl) (Reps.one (show Kd.M (Kd.int .u8) _ _ _ t343 [.int .u8 t343] from rfl) (Reps.none _ _))))); intro v345 w17 ho18 hb hg_ hnew_; clear hg_ hnew_; (first | rw [← Ny344.out] at ho18 | (simp only [Int.reduceToNat] at ho18; rw [← Ny344.out] at ho18)); have HO346 := am (Kd.R_lower ho18 (below_size ab1)); replace HB := am (below_step ab1 hb); clear hb ho18; have hcv19 := own_string (P := Tryz.prog) Tryz.underlying44 Tryz.underlying5 Tryz.underlying9 (Kd.own_of_R HO346.out)))
      go_ret
      exact ⟨ab7, ab1⟩
     ·replace H := bi_ H; obtain ⟨t347, A20, H⟩ := H
      replace H := bi_ H; obtain ⟨t348, A21, H⟩ := H
      replace H := bi_ H; obtain ⟨t349, A22, H⟩ := H
      obtain ⟨y350, hy350⟩ : ∃ y_ : List Int, y_ = (([(Go.bits .or .i64 240 (x0_2 / 262144)) % 256, t347, t348, t349] : List Int)) := ⟨_, rfl⟩
      replace H : (some (strOfNums y350)) = some r := by first | (rw [hy350]; with_reducible exact H) | (have H2_ := (Option.bind_some _ _).symm.trans H; rw [hy350]; with_reducible exact H2_) | (have H2_ := (Option.bind_some _ _).symm.trans H; with_reducible exact H2_) | with_reducible exact H | (rw [hy350]; exact H) | exact H
      have Ny350 := am hy350
      clear hy350
      obtain rfl := Option.some.inj H
      go_wp2_with (first | ((with_reducible refine gf_ 110 ?_); refine gc_ Tryz.func110 (impl_follow.calls x0_2 12 t347 _ A20.out) ?_; rintro w' ⟨nd, rfl⟩) | ((with_reducible refine gf_ 110 ?_); refine gc_ Tryz.func110 (impl_follow.calls x0_2 6 t348 _ A21.out) ?_; rintro w' ⟨nd, rfl⟩) | ((with_reducible refine gf_ 110 ?_); refine gc_ Tryz.func110 (impl_follow.calls x0_2 0 t349 _ A22.out) ?_; rintro w' ⟨nd, rfl⟩) | ((with_reducible refine gate_dst (N := 47) rfl ?_); refine Kd.R_lit (Kd.int .u8) _ 5 ?hg (N := 47) ?hd (xs := ([(Go.bits .or .i64 240 (x0_2 / 262144)) % 256, t347, t348, t349] : List Int)) (inner := [.int .u8 ((Go.bits .or .i64 240 (x0_2 / 262144)) % 256), .int .u8 t347, .int .u8 t348, .int .u8 t349]) (ok := fun _ => True) (okp := fun _ => True) ?hr ?hp (fun _ hk => hk) trivial (Below.refl _ _) (Nat.le_refl _) (by simp) ?_; (case hd => rfl); (case hg => rfl); (case hr => first | (go_simp; done) | (go_simp; rfl)); (case hp => exact (Reps.one (show Kd.M (Kd.int .u8) _ _ _ ((Go.bits .or .i64 240 (x0_2 / 262144)) % 256) [.int .u8 ((Go.bits .or .i64 240 (x0_2 / 262144)) % 256)] from rfl) (Reps.one (show Kd.M (Kd.int .u8) _ _ _ t347 [.int .u8 t347] from rfl) (Reps.one (show Kd.M (Kd.int .u8) _ _ _ t348 [.int .u8 t348] from rfl) (Reps.one (show Kd.M (Kd.int .u8) _ _ _ t349 [.int .u8 t349] from rfl) (Reps.none _ _)))))); intro v351 w23 ho24 hb hg_ hnew_; clear hg_ hnew_; (first | rw [← Ny350.out] at ho24 | (simp only [Int.reduceToNat] at ho24; rw [← Ny350.out] at ho24)); have HO352 := am (Kd.R_lower ho24 (below_size ab1)); replace HB := am (below_step ab1 hb); clear hb ho24; have hcv25 := own_string (P := Tryz.prog) Tryz.underlying44 Tryz.underlying5 Tryz.underlying9 (Kd.own_of_R HO352.out)))
      go_ret
      exact ⟨ab7, ab1⟩

end Go.Proofs.YthpdpnpojgegiaaGreatDoor.P
