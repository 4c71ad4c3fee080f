-- WRITTEN BY hprint.py, this session's own program, over the kit's printer: not typed by hand; Lean checks it
import Derived.Test.YtaomfbbbdddlmaaQs0
import Derived.Test.YtaomfbbbdddlmaaQs14
namespace Go.Proofs.Ytaomfbbbdddlmaa.P
open Go.RowKit Go.Proofs.YtaomfbbbdddlmaaW.PrintWords Go.Proofs.YtaomfbbbdddlmaaW.PrintLast Go.Proofs.YtaomfbbbdddlmaaW.PrintMore
attribute [local go_sem] max2_int min2_int max_two min_two max_three min_three max_four min_four   -- for this text's walks alone
set_option linter.unusedVariables false
set_option linter.unusedSimpArgs false

/-! ### impl_SignOk: function 136 -/
def impl_SignOk.f (a0 : Int) : Option (Bool) := (impl_inRange.f a0 0 1114111).bind fun t365 => (if t365 = true then ((impl_inRange.f a0 55296 57343).bind fun t366 => (some (!t366))) else (some false))
set_option maxHeartbeats 8000000 in
set_option maxRecDepth 100000 in
theorem impl_SignOk.calls (a0 : Int) (r : Bool) (w : World) (h : impl_SignOk.f a0 = some r) :
  Calls Try.prog 136 #[.int .i64 a0] w fun e w' => e = .returned (.bool r) ∧ Drawn0 w w' := by
 have H : ((impl_inRange.f a0 0 1114111).bind fun t365 => (if t365 = true then ((impl_inRange.f a0 55296 57343).bind fun t366 => (some (!t366))) else (some false))) = some r := h
 clear h
 replace H := Option.bind_eq_some_iff.mp H
 obtain ⟨t365, A20, H⟩ := H
 try dsimp only at H
 have A2 := Aside0.mk A20
 clear A20
 by_cases c3 : t365 = true
 ·subst c3
  rw [if_pos rfl] at H
  replace H := Option.bind_eq_some_iff.mp H
  obtain ⟨t366, A40, H⟩ := H
  try dsimp only at H
  have A4 := Aside0.mk A40
  clear A40
  obtain rfl := Option.some.inj H
  go_enter Try.func136, Try.ntmps136
  go_wp2_with (first | ((with_reducible refine gate_callee (f := 100) rfl ?_); refine goesL_ (some 4) rfl rfl Try.func100 (by kernel_rfl) rfl #[.int .i64 a0, .int .i64 0, .int .i64 1114111] rfl ab5 ?_; (with_reducible refine (impl_inRange.calls a0 0 1114111 true _ A2.out).mono ?_); rintro e w' ⟨rfl, ⟨nd, rfl⟩⟩; refine ⟨_, rfl, ?_⟩) | (go_at_call 100; (with_reducible refine (impl_inRange.calls a0 55296 57343 t366 _ A4.out).mono ?_); rintro e w' ⟨rfl, ⟨nd, rfl⟩⟩))
  go_ret
  exact ⟨ab6, by repeat (first | exact Drawn0.refl _ | apply Drawn0.step)⟩
 ·replace c3 := Bool.eq_false_iff.mpr c3
  subst c3
  rw [if_neg (show ¬ (false = true) by decide)] at H
  obtain rfl := Option.some.inj H
  go_enter Try.func136, Try.ntmps136
  go_wp2_with (first | ((with_reducible refine gate_callee (f := 100) rfl ?_); refine goesL_ (some 4) rfl rfl Try.func100 (by kernel_rfl) rfl #[.int .i64 a0, .int .i64 0, .int .i64 1114111] rfl ab5 ?_; (with_reducible refine (impl_inRange.calls a0 0 1114111 false _ A2.out).mono ?_); rintro e w' ⟨rfl, ⟨nd, rfl⟩⟩; refine ⟨_, rfl, ?_⟩))
  go_ret
  exact ⟨ab6, by repeat (first | exact Drawn0.refl _ | apply Drawn0.step)⟩

/-! ### impl_follow: function 137 -/
def impl_follow.f (a0 : Int) (a1 : Int) : Option (Int) := if 0 ≤ (IntKind.u64.wrap (a1)) then (some ((Go.bits .or .i64 128 (Go.bits .and .i64 (shr .i64 a0 (IntKind.u64.wrap (a1))) 63)) % 256)) else (none)
set_option maxHeartbeats 8000000 in
set_option maxRecDepth 100000 in
theorem impl_follow.calls (a0 : Int) (a1 : Int) (r : Int) (w : World) (h : impl_follow.f a0 a1 = some r) :
  Calls Try.prog 137 #[.int .i64 a0, .int .i64 a1] w fun e w' => e = .returned (.int .u8 r) ∧ Drawn0 w w' := by
 have H : (if 0 ≤ (IntKind.u64.wrap (a1)) then (some ((Go.bits .or .i64 128 (Go.bits .and .i64 (shr .i64 a0 (IntKind.u64.wrap (a1))) 63)) % 256)) else (none)) = some r := h
 clear h
 obtain ⟨ji3, hji3⟩ : ∃ j_ : Int, (IntKind.u64.wrap (a1)) = j_ := ⟨_, rfl⟩
 replace H : (if 0 ≤ (ji3) then (some ((Go.bits .or .i64 128 (Go.bits .and .i64 (shr .i64 a0 (ji3)) 63)) % 256)) else (none)) = some r := by first | (rw [hji3] at H; exact H) | (simp only [hji3] at H ⊢; exact H)
 by_cases c4 : 0 ≤ (ji3)
 case neg => rw [if_neg c4] at H; exact absurd H (by simp)
 rw [if_pos c4] at H
 have c4b0 := eq_true c4
 have c4b1 := decide_eq_true c4
 clear c4
 obtain ⟨ji5, hji5⟩ : ∃ j_ : Int, (shr .i64 a0 (ji3)) = j_ := ⟨_, rfl⟩
 replace H : (some ((Go.bits .or .i64 128 (Go.bits .and .i64 (ji5) 63)) % 256)) = some r := by first | (rw [hji5] at H; exact H) | (simp only [hji5] at H ⊢; exact H)
 have hji5_ : (a0 / 2 ^ min (ji3).toNat 64) = ji5 := hji5
 have hji5z : (ji3) ≤ 64 → (a0 / 2 ^ (ji3).toNat) = ji5 := shr_small hji5
 obtain rfl := Option.some.inj H
 go_enter Try.func137, Try.ntmps137
 go_wp2
 go_ret
 exact ⟨by first | rfl | (simp; done) | (simp only [← hji3, ← hji5] <;> (first | rfl | simp)) | (simp [*]; done), by repeat (first | exact Drawn0.refl _ | apply Drawn0.step)⟩

/-! ### impl_PutSign: function 80 -/
def impl_PutSign.j0 : Nat → Int → Option (ByteArray)
 | 0, _ => none
 | k + 1, x0 => if x0 < 128 then (some (strOfNums (([(x0) % 256] : List Int)))) else (if x0 < 2048 then ((impl_follow.f x0 0).bind fun t371 => (some (strOfNums (([(Go.bits .or .i64 192 (x0 / 64)) % 256, t371] : List Int))))) else (if x0 < 65536 then ((impl_follow.f x0 6).bind fun t375 => ((impl_follow.f x0 0).bind fun t376 => (some (strOfNums (([(Go.bits .or .i64 224 (x0 / 4096)) % 256, t375, t376] : List Int)))))) else ((impl_follow.f x0 12).bind fun t380 => ((impl_follow.f x0 6).bind fun t381 => ((impl_follow.f x0 0).bind fun t382 => (some (strOfNums (([(Go.bits .or .i64 240 (x0 / 262144)) % 256, t380, t381, t382] : List Int)))))))))
def impl_PutSign.f (k : Nat) (a0 : Int) : Option (ByteArray) := (impl_SignOk.f a0).bind fun t367 => (if t367 = true then (impl_PutSign.j0 k a0) else (impl_PutSign.j0 k 65533))
theorem impl_PutSign.mono_l : ∀ k, (∀ y0, LeO (impl_PutSign.j0 k y0) (impl_PutSign.j0 (k + 1) y0))
 | 0 => fun _ r h => by simp [impl_PutSign.j0] at h
 | k + 1 => by
  have ih0 := impl_PutSign.mono_l k
  ·intro y0
   unfold impl_PutSign.j0
   repeat' first
   | (with_reducible exact ih0 _)
   | (with_reducible exact LeO.refl _)
   | (with_reducible exact LeO.none _)
   | (with_reducible refine LeO.ite ?_ ?_)
   | (with_reducible refine LeO.bind ?_ (fun _ => ?_))
theorem impl_PutSign.mono : ∀ a0 k, LeO (impl_PutSign.f k a0) (impl_PutSign.f (k + 1) a0) := by
 intro a0 k
 have ih0 := impl_PutSign.mono_l k
 unfold impl_PutSign.f
 repeat' first
   | (with_reducible exact ih0 _)
   | (with_reducible exact LeO.refl _)
   | (with_reducible exact LeO.none _)
   | (with_reducible refine LeO.ite ?_ ?_)
   | (with_reducible refine LeO.bind ?_ (fun _ => ?_))
set_option maxHeartbeats 8000000 in
set_option maxRecDepth 100000 in
theorem impl_PutSign.calls (k : Nat) (a0 : Int) (r : ByteArray) (w : World) (h : impl_PutSign.f k a0 = some r) :
  Calls Try.prog 80 #[.int .i64 a0] w fun e w' => e = .returned (.string r) ∧ Below w.heap.size w w' := by
 have HB := Aside0.mk (Below.refl w.heap.size w)
 have H : ((impl_SignOk.f a0).bind fun t367 => (if t367 = true then (impl_PutSign.j0 k a0) else (impl_PutSign.j0 k 65533))) = some r := h
 clear h
 replace H := Option.bind_eq_some_iff.mp H
 obtain ⟨t367, A20, H⟩ := H
 try dsimp only at H
 have A2 := Aside0.mk A20
 clear A20
 have HC3 := Aside0.mk H
 clear H
 go_enter Try.func80, Try.ntmps80
 go_upto_if 5 with (first | ((with_reducible refine gate_callee (f := 136) rfl ?_); refine goesL_ (some 4) rfl rfl Try.func136 (by kernel_rfl) rfl #[.int .i64 a0] rfl ab5 ?_; (with_reducible refine (impl_SignOk.calls a0 t367 _ A2.out).mono ?_); rintro e w' ⟨rfl, ⟨nd, rfl⟩⟩; refine ⟨_, rfl, ?_⟩))
 (try simp only [Act.put, List.setIfInBounds_toArray, List.set_cons_zero, List.set_cons_succ])
 go_cut [0] (fun v0 wc => ∃ (kq : Nat) (x0_2 : Int), v0 = .int .i64 x0_2 ∧ Aside0 (impl_PutSign.j0 kq x0_2 = some r) ∧ Aside0 (kq ≤ k) ∧ Aside0 (Below w.heap.size w wc))
 case first =>
  have H := HC3.out
  clear HC3
  by_cases c4 : t367 = true
  ·subst c4
   rw [if_pos rfl] at H
   have H' := Aside0.mk H
   clear H
   go_wp2
   go_meet
   case rel => exact ⟨_, (a0), ab6, H', ⟨by first | omega | exact Nat.le_refl _⟩, ⟨ab1⟩⟩
  ·replace c4 := Bool.eq_false_iff.mpr c4
   subst c4
   rw [if_neg (show ¬ (false = true) by decide)] at H
   have H' := Aside0.mk H
   clear H
   go_wp2
   go_meet
   case rel => exact ⟨_, (65533), ab6, H', ⟨by first | omega | exact Nat.le_refl _⟩, ⟨ab1⟩⟩
 case rest =>
  clear HC3
  (try clear c1); (try clear p2); (try clear c4)
  obtain ⟨kq, x0_2, rfl, HA, HJ2, HB⟩ := hcut
  cases kq with
  | zero => exact absurd HA.out (by simp [impl_PutSign.j0])
  | succ kj2 =>
   have H := HA.out
   clear HA
   simp only [impl_PutSign.j0] at H
   by_cases c5 : x0_2 < 128
   ·rw [if_pos c5] at H
    have c5b0 := decide_eq_true c5
    clear c5
    obtain ⟨y368, hy368⟩ : ∃ y_ : List Int, y_ = (([(x0_2) % 256] : List Int)) := ⟨_, rfl⟩
    replace H : (some (strOfNums y368)) = some r := by first | (rw [hy368]; with_reducible exact H) | (have H2_ := (Option.bind_some _ _).symm.trans H; rw [hy368]; with_reducible exact H2_) | (have H2_ := (Option.bind_some _ _).symm.trans H; with_reducible exact H2_) | with_reducible exact H | (rw [hy368]; exact H) | exact H
    have Ny368 := Aside0.mk hy368
    clear hy368
    obtain rfl := Option.some.inj H
    go_wp2_with (first | ((with_reducible refine gate_dst (N := 11) rfl ?_); refine Kd.R_lit (Kd.int .u8) _ 5 ?hg (N := 11) ?hd (xs := ([(x0_2) % 256] : List Int)) (inner := [.int .u8 ((x0_2) % 256)]) (ok := fun _ => True) (okp := fun _ => True) ?hr ?hp (fun _ hk => hk) trivial (Below.refl _ _) (Nat.le_refl _) (by simp) ?_; (case hd => rfl); (case hg => rfl); (case hr => first | (go_simp; done) | (go_simp; rfl)); (case hp => exact (Reps.one (show Kd.M (Kd.int .u8) _ _ _ ((x0_2) % 256) [.int .u8 ((x0_2) % 256)] from rfl) (Reps.none _ _))); intro v369 w6 ho7 hb hg_ hnew_; clear hg_ hnew_; (first | rw [← Ny368.out] at ho7 | (simp only [Int.reduceToNat] at ho7; rw [← Ny368.out] at ho7)); have n0_ := Aside0.mk (Kd.R_lower ho7 (below_size ab1)); have n1_ := Aside0.mk (below_step ab1 hb); clear HB; have HO370 := n0_; have HB := n1_; clear n0_ n1_; clear hb ho7; have hcv8 := own_string (P := Try.prog) Try.underlying92 Try.underlying5 Try.underlying9 (Kd.own_of_R HO370.out)))
    go_ret
    exact ⟨ab7, ab1⟩
   ·rw [if_neg c5] at H
    have c5b0 := decide_eq_false c5
    clear c5
    by_cases c9 : x0_2 < 2048
    ·rw [if_pos c9] at H
     have c9b0 := decide_eq_true c9
     clear c9
     replace H := Option.bind_eq_some_iff.mp H
     obtain ⟨t371, A100, H⟩ := H
     try dsimp only at H
     have A10 := Aside0.mk A100
     clear A100
     obtain ⟨y372, hy372⟩ : ∃ y_ : List Int, y_ = (([(Go.bits .or .i64 192 (x0_2 / 64)) % 256, t371] : List Int)) := ⟨_, rfl⟩
     replace H : (some (strOfNums y372)) = some r := by first | (rw [hy372]; with_reducible exact H) | (have H2_ := (Option.bind_some _ _).symm.trans H; rw [hy372]; with_reducible exact H2_) | (have H2_ := (Option.bind_some _ _).symm.trans H; with_reducible exact H2_) | with_reducible exact H | (rw [hy372]; exact H) | exact H
     have Ny372 := Aside0.mk hy372
     clear hy372
     obtain rfl := Option.some.inj H
     go_wp2_with (first | ((with_reducible refine gate_callee (f := 137) rfl ?_); refine goesL_ (some 21) rfl rfl Try.func137 (by kernel_rfl) rfl #[.int .i64 x0_2, .int .i64 0] rfl ab5 ?_; (with_reducible refine (impl_follow.calls x0_2 0 t371 _ A10.out).mono ?_); rintro e w' ⟨rfl, ⟨nd, rfl⟩⟩; refine ⟨_, rfl, ?_⟩) | ((with_reducible refine gate_dst (N := 22) rfl ?_); refine Kd.R_lit (Kd.int .u8) _ 5 ?hg (N := 22) ?hd (xs := ([(Go.bits .or .i64 192 (x0_2 / 64)) % 256, t371] : List Int)) (inner := [.int .u8 ((Go.bits .or .i64 192 (x0_2 / 64)) % 256), .int .u8 t371]) (ok := fun _ => True) (okp := fun _ => True) ?hr ?hp (fun _ hk => hk) trivial (Below.refl _ _) (Nat.le_refl _) (by simp) ?_; (case hd => rfl); (case hg => rfl); (case hr => first | (go_simp; done) | (go_simp; rfl)); (case hp => exact (Reps.one (show Kd.M (Kd.int .u8) _ _ _ ((Go.bits .or .i64 192 (x0_2 / 64)) % 256) [.int .u8 ((Go.bits .or .i64 192 (x0_2 / 64)) % 256)] from rfl) (Reps.one (show Kd.M (Kd.int .u8) _ _ _ t371 [.int .u8 t371] from rfl) (Reps.none _ _)))); intro v373 w11 ho12 hb hg_ hnew_; clear hg_ hnew_; (first | rw [← Ny372.out] at ho12 | (simp only [Int.reduceToNat] at ho12; rw [← Ny372.out] at ho12)); have n0_ := Aside0.mk (Kd.R_lower ho12 (below_size ab1)); have n1_ := Aside0.mk (below_step ab1 hb); clear HB; have HO374 := n0_; have HB := n1_; clear n0_ n1_; clear hb ho12; have hcv13 := own_string (P := Try.prog) Try.underlying92 Try.underlying5 Try.underlying9 (Kd.own_of_R HO374.out)))
     go_ret
     exact ⟨ab7, ab1⟩
    ·rw [if_neg c9] at H
     have c9b0 := decide_eq_false c9
     clear c9
     by_cases c14 : x0_2 < 65536
     ·rw [if_pos c14] at H
      have c14b0 := decide_eq_true c14
      clear c14
      replace H := Option.bind_eq_some_iff.mp H
      obtain ⟨t375, A150, H⟩ := H
      try dsimp only at H
      have A15 := Aside0.mk A150
      clear A150
      replace H := Option.bind_eq_some_iff.mp H
      obtain ⟨t376, A160, H⟩ := H
      try dsimp only at H
      have A16 := Aside0.mk A160
      clear A160
      obtain ⟨y377, hy377⟩ : ∃ y_ : List Int, y_ = (([(Go.bits .or .i64 224 (x0_2 / 4096)) % 256, t375, t376] : List Int)) := ⟨_, rfl⟩
      replace H : (some (strOfNums y377)) = some r := by first | (rw [hy377]; with_reducible exact H) | (have H2_ := (Option.bind_some _ _).symm.trans H; rw [hy377]; with_reducible exact H2_) | (have H2_ := (Option.bind_some _ _).symm.trans H; with_reducible exact H2_) | with_reducible exact H | (rw [hy377]; exact H) | exact H
      have Ny377 := Aside0.mk hy377
      clear hy377
      obtain rfl := Option.some.inj H
      go_wp2_with (first | ((with_reducible refine gate_callee (f := 137) rfl ?_); refine goesL_ (some 32) rfl rfl Try.func137 (by kernel_rfl) rfl #[.int .i64 x0_2, .int .i64 6] rfl ab5 ?_; (with_reducible refine (impl_follow.calls x0_2 6 t375 _ A15.out).mono ?_); rintro e w' ⟨rfl, ⟨nd, rfl⟩⟩; refine ⟨_, rfl, ?_⟩) | ((with_reducible refine gate_callee (f := 137) rfl ?_); refine goesL_ (some 34) rfl rfl Try.func137 (by kernel_rfl) rfl #[.int .i64 x0_2, .int .i64 0] rfl ab5 ?_; (with_reducible refine (impl_follow.calls x0_2 0 t376 _ A16.out).mono ?_); rintro e w' ⟨rfl, ⟨nd, rfl⟩⟩; refine ⟨_, rfl, ?_⟩) | ((with_reducible refine gate_dst (N := 35) rfl ?_); refine Kd.R_lit (Kd.int .u8) _ 5 ?hg (N := 35) ?hd (xs := ([(Go.bits .or .i64 224 (x0_2 / 4096)) % 256, t375, t376] : List Int)) (inner := [.int .u8 ((Go.bits .or .i64 224 (x0_2 / 4096)) % 256), .int .u8 t375, .int .u8 t376]) (ok := fun _ => True) (okp := fun _ => True) ?hr ?hp (fun _ hk => hk) trivial (Below.refl _ _) (Nat.le_refl _) (by simp) ?_; (case hd => rfl); (case hg => rfl); (case hr => first | (go_simp; done) | (go_simp; rfl)); (case hp => exact (Reps.one (show Kd.M (Kd.int .u8) _ _ _ ((Go.bits .or .i64 224 (x0_2 / 4096)) % 256) [.int .u8 ((Go.bits .or .i64 224 (x0_2 / 4096)) % 256)] from rfl) (Reps.one (show Kd.M (Kd.int .u8) _ _ _ t375 [.int .u8 t375] from rfl) (Reps.one (show Kd.M (Kd.int .u8) _ _ _ t376 [.int .u8 t376] from rfl) (Reps.none _ _))))); intro v378 w17 ho18 hb hg_ hnew_; clear hg_ hnew_; (first | rw [← Ny377.out] at ho18 | (simp only [Int.reduceToNat] at ho18; rw [← Ny377.out] at ho18)); have n0_ := Aside0.mk (Kd.R_lower ho18 (below_size ab1)); have n1_ := Aside0.mk (below_step ab1 hb); clear HB; have HO379 := n0_; have HB := n1_; clear n0_ n1_; clear hb ho18; have hcv19 := own_string (P := Try.prog) Try.underlying92 Try.underlying5 Try.underlying9 (Kd.own_of_R HO379.out)))
      go_ret
      exact ⟨ab7, ab1⟩
     ·rw [if_neg c14] at H
      have c14b0 := decide_eq_false c14
      clear c14
      replace H := Option.bind_eq_some_iff.mp H
      obtain ⟨t380, A200, H⟩ := H
      try dsimp only at H
      have A20 := Aside0.mk A200
      clear A200
      replace H := Option.bind_eq_some_iff.mp H
      obtain ⟨t381, A210, H⟩ := H
      try dsimp only at H
      have A21 := Aside0.mk A210
      clear A210
      replace H := Option.bind_eq_some_iff.mp H
      obtain ⟨t382, A220, H⟩ := H
      try dsimp only at H
      have A22 := Aside0.mk A220
      clear A220
      obtain ⟨y383, hy383⟩ : ∃ y_ : List Int, y_ = (([(Go.bits .or .i64 240 (x0_2 / 262144)) % 256, t380, t381, t382] : List Int)) := ⟨_, rfl⟩
      replace H : (some (strOfNums y383)) = some r := by first | (rw [hy383]; with_reducible exact H) | (have H2_ := (Option.bind_some _ _).symm.trans H; rw [hy383]; with_reducible exact H2_) | (have H2_ := (Option.bind_some _ _).symm.trans H; with_reducible exact H2_) | with_reducible exact H | (rw [hy383]; exact H) | exact H
      have Ny383 := Aside0.mk hy383
      clear hy383
      obtain rfl := Option.some.inj H
      go_wp2_with (first | ((with_reducible refine gate_callee (f := 137) rfl ?_); refine goesL_ (some 42) rfl rfl Try.func137 (by kernel_rfl) rfl #[.int .i64 x0_2, .int .i64 12] rfl ab5 ?_; (with_reducible refine (impl_follow.calls x0_2 12 t380 _ A20.out).mono ?_); rintro e w' ⟨rfl, ⟨nd, rfl⟩⟩; refine ⟨_, rfl, ?_⟩) | ((with_reducible refine gate_callee (f := 137) rfl ?_); refine goesL_ (some 44) rfl rfl Try.func137 (by kernel_rfl) rfl #[.int .i64 x0_2, .int .i64 6] rfl ab5 ?_; (with_reducible refine (impl_follow.calls x0_2 6 t381 _ A21.out).mono ?_); rintro e w' ⟨rfl, ⟨nd, rfl⟩⟩; refine ⟨_, rfl, ?_⟩) | ((with_reducible refine gate_callee (f := 137) rfl ?_); refine goesL_ (some 46) rfl rfl Try.func137 (by kernel_rfl) rfl #[.int .i64 x0_2, .int .i64 0] rfl ab5 ?_; (with_reducible refine (impl_follow.calls x0_2 0 t382 _ A22.out).mono ?_); rintro e w' ⟨rfl, ⟨nd, rfl⟩⟩; refine ⟨_, rfl, ?_⟩) | ((with_reducible refine gate_dst (N := 47) rfl ?_); refine Kd.R_lit (Kd.int .u8) _ 5 ?hg (N := 47) ?hd (xs := ([(Go.bits .or .i64 240 (x0_2 / 262144)) % 256, t380, t381, t382] : List Int)) (inner := [.int .u8 ((Go.bits .or .i64 240 (x0_2 / 262144)) % 256), .int .u8 t380, .int .u8 t381, .int .u8 t382]) (ok := fun _ => True) (okp := fun _ => True) ?hr ?hp (fun _ hk => hk) trivial (Below.refl _ _) (Nat.le_refl _) (by simp) ?_; (case hd => rfl); (case hg => rfl); (case hr => first | (go_simp; done) | (go_simp; rfl)); (case hp => exact (Reps.one (show Kd.M (Kd.int .u8) _ _ _ ((Go.bits .or .i64 240 (x0_2 / 262144)) % 256) [.int .u8 ((Go.bits .or .i64 240 (x0_2 / 262144)) % 256)] from rfl) (Reps.one (show Kd.M (Kd.int .u8) _ _ _ t380 [.int .u8 t380] from rfl) (Reps.one (show Kd.M (Kd.int .u8) _ _ _ t381 [.int .u8 t381] from rfl) (Reps.one (show Kd.M (Kd.int .u8) _ _ _ t382 [.int .u8 t382] from rfl) (Reps.none _ _)))))); intro v384 w23 ho24 hb hg_ hnew_; clear hg_ hnew_; (first | rw [← Ny383.out] at ho24 | (simp only [Int.reduceToNat] at ho24; rw [← Ny383.out] at ho24)); have n0_ := Aside0.mk (Kd.R_lower ho24 (below_size ab1)); have n1_ := Aside0.mk (below_step ab1 hb); clear HB; have HO385 := n0_; have HB := n1_; clear n0_ n1_; clear hb ho24; have hcv25 := own_string (P := Try.prog) Try.underlying92 Try.underlying5 Try.underlying9 (Kd.own_of_R HO385.out)))
      go_ret
      exact ⟨ab7, ab1⟩

end Go.Proofs.Ytaomfbbbdddlmaa.P
