-- WRITTEN BY hprint.py, this session's own program, over the kit's printer: not typed by hand; Lean checks it
import Derived.Test.YtekkalnafngfeaaGreatRows
import Derived.Test.YtekkalnafngfeaaGreatPr46
import Derived.Test.YtekkalnafngfeaaGreatPureFnExactReopen
import Derived.Test.YtekkalnafngfeaaGreatVPrOp0
import Derived.WalkKit
import Derived.ProofKit
import Derived.OpenShut
import Derived.ShutString
import Derived.ChangeOld
import Derived.Below
import Derived.SizedLaws
import Derived.HandedShaped
import Derived.Test.YtekkalnafngfeaaGreatShelf
import Derived.Carry
namespace Go.Proofs.YtekkalnafngfeaaGreat.fnExactReopen
open Go.ChangeShapes Go.WideShapes Go.ChangeAt Go.RowKit Go.Proofs.YtekkalnafngfeaaGreat Go.Proofs.YtekkalnafngfeaaGreat.P Go.Proofs.YtekkalnafngfeaaGreatW.PrintWords Go.Proofs.YtekkalnafngfeaaGreatW.PrintLast
open Go.ChangeMaps (open_string shut_string)
set_option linter.unusedVariables false
section
variable {H : Type} {enc : TypeId × Value → H} {w : World} {spare : Nat → Bool}
set_option maxRecDepth 100000 in
theorem opens47 : ∀ M, Op.Opens enc Tryz.prog w spare k47 (G47 maxLen) 47 M
 | M => by
  intro m hm cs x h
  obtain ⟨xs, n, rfl, _, hl, hlen0, hf⟩ := DataW.trod_struct Tryz.underlying47 h
  have hlen : xs.length = 2 := hlen0
  have hn : n < M := by omega
  rw [show Tryz.prog.cellsOf 47 = 2 from by kernel_rfl] at hl
  match cs, hl, hf with
  | [c0_, c1_], _, hf =>
  obtain ⟨y0, hy0⟩ := Op.some_at hlen (show 0 < 2 by decide)
  have e0 : DataW.trod enc Tryz.prog w 0 spare true n 9 (List.take (Tryz.prog.cellsOf 9) (List.drop 0 [c0_, c1_])) = xs[0]? := hf 0 _ rfl
  rw [hy0, show Tryz.prog.cellsOf 9 = 1 from by kernel_rfl] at e0
  obtain ⟨a0, k0_, g0⟩ := (Op.opens_string Tryz.underlying9 M) n hn _ _ e0
  replace k0_ : [c0_] = [.string a0] := k0_
  injection k0_ with k0_
  subst k0_
  obtain ⟨y1, hy1⟩ := Op.some_at hlen (show 1 < 2 by decide)
  have e1 : DataW.trod enc Tryz.prog w 0 spare true n 9 (List.take (Tryz.prog.cellsOf 9) (List.drop 1 [.string a0, c1_])) = xs[1]? := hf 1 _ rfl
  rw [hy1, show Tryz.prog.cellsOf 9 = 1 from by kernel_rfl] at e1
  obtain ⟨a1, k1_, g1⟩ := (Op.opens_string Tryz.underlying9 M) n hn _ _ e1
  replace k1_ : [c1_] = [.string a1] := k1_
  injection k1_ with k1_
  subst k1_
  exact ⟨⟨a0, a1⟩, k47_mk w ⟨a0, a1⟩, G47_mono (Nat.le_succ n) ⟨g0, g1⟩⟩
set_option maxRecDepth 100000 in
theorem opens67 : ∀ M, Op.Opens enc Tryz.prog w spare k67 (G67 maxLen) 67 M
 | M => by
  intro m hm cs x h
  obtain ⟨xs, n, rfl, _, hl, hlen0, hf⟩ := DataW.trod_struct Tryz.underlying67 h
  have hlen : xs.length = 7 := hlen0
  have hn : n < M := by omega
  rw [show Tryz.prog.cellsOf 67 = 7 from by kernel_rfl] at hl
  match cs, hl, hf with
  | [c0_, c1_, c2_, c3_, c4_, c5_, c6_], _, hf =>
  obtain ⟨y0, hy0⟩ := Op.some_at hlen (show 0 < 7 by decide)
  have e0 : DataW.trod enc Tryz.prog w 0 spare true n 3 (List.take (Tryz.prog.cellsOf 3) (List.drop 0 [c0_, c1_, c2_, c3_, c4_, c5_, c6_])) = xs[0]? := hf 0 _ rfl
  rw [hy0, show Tryz.prog.cellsOf 3 = 1 from by kernel_rfl] at e0
  obtain ⟨a0, k0_, g0⟩ := (Op.opens_int Tryz.underlying3 M) n hn _ _ e0
  replace k0_ : [c0_] = [.int .i64 a0] := k0_
  injection k0_ with k0_
  subst k0_
  obtain ⟨y1, hy1⟩ := Op.some_at hlen (show 1 < 7 by decide)
  have e1 : DataW.trod enc Tryz.prog w 0 spare true n 3 (List.take (Tryz.prog.cellsOf 3) (List.drop 1 [.int .i64 a0, c1_, c2_, c3_, c4_, c5_, c6_])) = xs[1]? := hf 1 _ rfl
  rw [hy1, show Tryz.prog.cellsOf 3 = 1 from by kernel_rfl] at e1
  obtain ⟨a1, k1_, g1⟩ := (Op.opens_int Tryz.underlying3 M) n hn _ _ e1
  replace k1_ : [c1_] = [.int .i64 a1] := k1_
  injection k1_ with k1_
  subst k1_
  obtain ⟨y2, hy2⟩ := Op.some_at hlen (show 2 < 7 by decide)
  have e2 : DataW.trod enc Tryz.prog w 0 spare true n 9 (List.take (Tryz.prog.cellsOf 9) (List.drop 2 [.int .i64 a0, .int .i64 a1, c2_, c3_, c4_, c5_, c6_])) = xs[2]? := hf 2 _ rfl
  rw [hy2, show Tryz.prog.cellsOf 9 = 1 from by kernel_rfl] at e2
  obtain ⟨a2, k2_, g2⟩ := (Op.opens_string Tryz.underlying9 M) n hn _ _ e2
  replace k2_ : [c2_] = [.string a2] := k2_
  injection k2_ with k2_
  subst k2_
  obtain ⟨y3, hy3⟩ := Op.some_at hlen (show 3 < 7 by decide)
  have e3 : DataW.trod enc Tryz.prog w 0 spare true n 26 (List.take (Tryz.prog.cellsOf 26) (List.drop 3 [.int .i64 a0, .int .i64 a1, .string a2, c3_, c4_, c5_, c6_])) = xs[3]? := hf 3 _ rfl
  rw [hy3, show Tryz.prog.cellsOf 26 = 1 from by kernel_rfl] at e3
  obtain ⟨a3, k3_, g3⟩ := ((Op.opens_slice (d := k47) (G := (G47 maxLen)) Tryz.underlying26 (by kernel_rfl) (fun _ _ _ hle h0_ => (G47_mono hle) h0_) (opens47 M)).mono (Nat.le_succ _)) n hn _ _ e3
  obtain ⟨A3, q3, k3_, l3, r3⟩ := k3_
  injection k3_ with k3_
  subst k3_
  obtain ⟨y4, hy4⟩ := Op.some_at hlen (show 4 < 7 by decide)
  have e4 : DataW.trod enc Tryz.prog w 0 spare true n 9 (List.take (Tryz.prog.cellsOf 9) (List.drop 4 [.int .i64 a0, .int .i64 a1, .string a2, .slice A3 a3.length q3, c4_, c5_, c6_])) = xs[4]? := hf 4 _ rfl
  rw [hy4, show Tryz.prog.cellsOf 9 = 1 from by kernel_rfl] at e4
  obtain ⟨a4, k4_, g4⟩ := (Op.opens_string Tryz.underlying9 M) n hn _ _ e4
  replace k4_ : [c4_] = [.string a4] := k4_
  injection k4_ with k4_
  subst k4_
  obtain ⟨y5, hy5⟩ := Op.some_at hlen (show 5 < 7 by decide)
  have e5 : DataW.trod enc Tryz.prog w 0 spare true n 3 (List.take (Tryz.prog.cellsOf 3) (List.drop 5 [.int .i64 a0, .int .i64 a1, .string a2, .slice A3 a3.length q3, .string a4, c5_, c6_])) = xs[5]? := hf 5 _ rfl
  rw [hy5, show Tryz.prog.cellsOf 3 = 1 from by kernel_rfl] at e5
  obtain ⟨a5, k5_, g5⟩ := (Op.opens_int Tryz.underlying3 M) n hn _ _ e5
  replace k5_ : [c5_] = [.int .i64 a5] := k5_
  injection k5_ with k5_
  subst k5_
  obtain ⟨y6, hy6⟩ := Op.some_at hlen (show 6 < 7 by decide)
  have e6 : DataW.trod enc Tryz.prog w 0 spare true n 23 (List.take (Tryz.prog.cellsOf 23) (List.drop 6 [.int .i64 a0, .int .i64 a1, .string a2, .slice A3 a3.length q3, .string a4, .int .i64 a5, c6_])) = xs[6]? := hf 6 _ rfl
  rw [hy6, show Tryz.prog.cellsOf 23 = 1 from by kernel_rfl] at e6
  obtain ⟨a6, k6_, g6⟩ := ((Op.opens_slice (d := (Kd.int .i64)) (G := (fun m_ l_ => (Lit.int .i64 l_).wf = true)) Tryz.underlying23 (by kernel_rfl) (fun _ _ _ hle h0_ => id h0_) (Op.opens_int Tryz.underlying3 M)).mono (Nat.le_succ _)) n hn _ _ e6
  obtain ⟨A6, q6, k6_, l6, r6⟩ := k6_
  injection k6_ with k6_
  subst k6_
  exact ⟨⟨a0, a1, a2, a3, a4, a5, a6⟩, k67_mk w ⟨a0, a1, a2, a3, a4, a5, a6⟩ l3 r3 l6 r6, G67_mono (Nat.le_succ n) ⟨g0, g1, g2, g3, g4, g5, g6⟩⟩
set_option maxRecDepth 100000 in
theorem opens25 : ∀ M, Op.Opens enc Tryz.prog w spare k25 (G25 maxLen) 25 M
 | M => by
  intro m hm cs x h
  obtain ⟨xs, n, rfl, _, hl, hlen0, hf⟩ := DataW.trod_struct Tryz.underlying25 h
  have hlen : xs.length = 5 := hlen0
  have hn : n < M := by omega
  rw [show Tryz.prog.cellsOf 25 = 5 from by kernel_rfl] at hl
  match cs, hl, hf with
  | [c0_, c1_, c2_, c3_, c4_], _, hf =>
  obtain ⟨y0, hy0⟩ := Op.some_at hlen (show 0 < 5 by decide)
  have e0 : DataW.trod enc Tryz.prog w 0 spare true n 22 (List.take (Tryz.prog.cellsOf 22) (List.drop 0 [c0_, c1_, c2_, c3_, c4_])) = xs[0]? := hf 0 _ rfl
  rw [hy0, show Tryz.prog.cellsOf 22 = 1 from by kernel_rfl] at e0
  obtain ⟨a0, k0_, g0⟩ := ((Op.opens_slice (d := k67) (G := (G67 maxLen)) Tryz.underlying22 (by kernel_rfl) (fun _ _ _ hle h0_ => (G67_mono hle) h0_) (opens67 M)).mono (Nat.le_succ _)) n hn _ _ e0
  obtain ⟨A0, q0, k0_, l0, r0⟩ := k0_
  injection k0_ with k0_
  subst k0_
  obtain ⟨y1, hy1⟩ := Op.some_at hlen (show 1 < 5 by decide)
  have e1 : DataW.trod enc Tryz.prog w 0 spare true n 23 (List.take (Tryz.prog.cellsOf 23) (List.drop 1 [.slice A0 a0.length q0, c1_, c2_, c3_, c4_])) = xs[1]? := hf 1 _ rfl
  rw [hy1, show Tryz.prog.cellsOf 23 = 1 from by kernel_rfl] at e1
  obtain ⟨a1, k1_, g1⟩ := ((Op.opens_slice (d := (Kd.int .i64)) (G := (fun m_ l_ => (Lit.int .i64 l_).wf = true)) Tryz.underlying23 (by kernel_rfl) (fun _ _ _ hle h0_ => id h0_) (Op.opens_int Tryz.underlying3 M)).mono (Nat.le_succ _)) n hn _ _ e1
  obtain ⟨A1, q1, k1_, l1, r1⟩ := k1_
  injection k1_ with k1_
  subst k1_
  obtain ⟨y2, hy2⟩ := Op.some_at hlen (show 2 < 5 by decide)
  have e2 : DataW.trod enc Tryz.prog w 0 spare true n 23 (List.take (Tryz.prog.cellsOf 23) (List.drop 2 [.slice A0 a0.length q0, .slice A1 a1.length q1, c2_, c3_, c4_])) = xs[2]? := hf 2 _ rfl
  rw [hy2, show Tryz.prog.cellsOf 23 = 1 from by kernel_rfl] at e2
  obtain ⟨a2, k2_, g2⟩ := ((Op.opens_slice (d := (Kd.int .i64)) (G := (fun m_ l_ => (Lit.int .i64 l_).wf = true)) Tryz.underlying23 (by kernel_rfl) (fun _ _ _ hle h0_ => id h0_) (Op.opens_int Tryz.underlying3 M)).mono (Nat.le_succ _)) n hn _ _ e2
  obtain ⟨A2, q2, k2_, l2, r2⟩ := k2_
  injection k2_ with k2_
  subst k2_
  obtain ⟨y3, hy3⟩ := Op.some_at hlen (show 3 < 5 by decide)
  have e3 : DataW.trod enc Tryz.prog w 0 spare true n 3 (List.take (Tryz.prog.cellsOf 3) (List.drop 3 [.slice A0 a0.length q0, .slice A1 a1.length q1, .slice A2 a2.length q2, c3_, c4_])) = xs[3]? := hf 3 _ rfl
  rw [hy3, show Tryz.prog.cellsOf 3 = 1 from by kernel_rfl] at e3
  obtain ⟨a3, k3_, g3⟩ := (Op.opens_int Tryz.underlying3 M) n hn _ _ e3
  replace k3_ : [c3_] = [.int .i64 a3] := k3_
  injection k3_ with k3_
  subst k3_
  obtain ⟨y4, hy4⟩ := Op.some_at hlen (show 4 < 5 by decide)
  have e4 : DataW.trod enc Tryz.prog w 0 spare true n 3 (List.take (Tryz.prog.cellsOf 3) (List.drop 4 [.slice A0 a0.length q0, .slice A1 a1.length q1, .slice A2 a2.length q2, .int .i64 a3, c4_])) = xs[4]? := hf 4 _ rfl
  rw [hy4, show Tryz.prog.cellsOf 3 = 1 from by kernel_rfl] at e4
  obtain ⟨a4, k4_, g4⟩ := (Op.opens_int Tryz.underlying3 M) n hn _ _ e4
  replace k4_ : [c4_] = [.int .i64 a4] := k4_
  injection k4_ with k4_
  subst k4_
  exact ⟨⟨a0, a1, a2, a3, a4⟩, k25_mk w ⟨a0, a1, a2, a3, a4⟩ l0 r0 l1 r1 l2 r2, G25_mono (Nat.le_succ n) ⟨g0, g1, g2, g3, g4⟩⟩
end
theorem own : ownKnob Tryz.prog.godebug = none := by kernel_rfl
theorem laidOut : laidOutB Tryz.prog = true := by kernel_rfl
set_option maxRecDepth 100000 in
theorem lifted (os : Os) (started : os.Started) (H : Type) (enc : TypeId × Value → H) :
  ReturnsInHanded {} Tryz.checked os 4 .any (Rows.fnExactReopenSpec.pre6 enc Tryz.prog Tryz.f4 Rows.fnExactReopenRow.domain false) (Rows.fnExactReopenSpec.post enc Tryz.prog Tryz.f4 false true false false) := by
 refine returnsInHanded_of_change_shaped (C := Tryz.checked) own started (by kernel_rfl) Tryz.func4
  (ChangeSpec.witness6 (enc := enc) (C := Tryz.checked) false ⟨#[], #[.agg #[.slice none 0 0, .slice none 0 0, .slice none 0 0, .int .i64 0, .int .i64 0]], []⟩ 8 (by kernel_rfl) (by kernel_rfl) (by kernel_rfl) (by kernel_rfl)) ?_
 intro W base args ds gs before hval0 hW hcnd hsz0 hsh _
 have hsz : (DataW.weightsEach Tryz.prog (Tryz.f4.params.toList ++ Rows.fnExactReopenSpec.plain.varTypes Tryz.prog) (ds ++ gs)).all (· ≤ reachBytes) = true := hsz0
 have hval : ∀ (j : Nat) t v, Tryz.f4.params[j]? = some t → args[j]? = some v → Value.okWide Tryz.prog W .any base t v := hval0
 have hW' := hW
 obtain ⟨p, q, hA0, hV, rfl, hfz, hnd⟩ := hW
 have hA : DataW.TrodAll enc Tryz.prog W 0 (fun _ => true) true Tryz.f4.params.toList args.toList ds p := hA0
 rw [Tryz.params4] at hA hval hsz
 obtain ⟨v0, vs0, d0, ds0, p0, q0, hargs, rfl, rfl, h0, r0⟩ := trodAll_cons hA
 obtain ⟨rfl, rfl, rfl⟩ := trodAll_nil r0
 obtain rfl : args = #[v0] := by cases args; simp_all
 obtain ⟨rfl, rfl⟩ := trodVars_none hV
 have k0 := h0
 have lt0 : ∀ x ∈ p0, x.block < W.heap.size := by obtain ⟨m, hm⟩ := k0; exact DataW.trod_lt m _ _ _ hm
 obtain ⟨fuel0, hf0⟩ := h0
 obtain ⟨cs0, rfl, _⟩ := okWide_struct Tryz.underlying25 (hval 0 25 v0 rfl rfl)
 obtain ⟨x0, K0, G0_⟩ := opens25 (fuel0 + 1) fuel0 (Nat.lt_succ_self _) _ _ hf0
 obtain ⟨A0_0, c0_0, A0_1, c0_1, A0_2, c0_2, e0, l0_0, r0_0, l0_1, r0_1, l0_2, r0_2⟩ := k25_open K0
 obtain rfl : cs0 = #[.slice A0_0 x0.f0.length c0_0, .slice A0_1 x0.f1.length c0_1, .slice A0_2 x0.f2.length c0_2, .int .i64 x0.f3, .int .i64 x0.f4] := by rw [← Array.toList_inj]; exact e0
 clear hA0 hval0 hsz0 hsz
 obtain ⟨k, hk⟩ := Pure.FnExactReopen fuel0 x0 G0_
 obtain ⟨M_, hm_⟩ := Tryz.laysM144.s1_3 W hsh
 refine (P.laws_FnExactReopen.calls k _ _ x0.f0 _ _ x0.f1 _ _ x0.f2 x0.f3 x0.f4 W r0_0 l0_0 r0_1 l0_1 r0_2 l0_2 M_ hm_ hk).mono fun e W' ⟨he, bel0⟩ => ?_
 have bel : Below W.heap.size W W' := bel0
 subst he
 exact ⟨_, rfl, _, _, _, [], _, [], hW', trodAll_mk1 (shut_bool Tryz.underlying4 _), (trodAll_cons_mk (Below.trod laidOut (by kernel_rfl) (of_decide_eq_true (by kernel_rfl)) k0 bel lt0) trodAll_mk0), rfl, bel.frame _, fun h => by cases h⟩
theorem over : Rows.fnExactReopenRow.holds Tryz.pinned (OpenSpec.ofChange Rows.fnExactReopenSpec) :=
 OpenClaim.holds_of_wide 4 Tryz.f4 rfl rfl rfl rfl rfl rfl rfl ⟨rfl, rfl, rfl, rfl, rfl⟩ rfl rfl rfl rfl rfl (by kernel_rfl) Tryz.func4 (by kernel_rfl)
  (of_decide_eq_true (by kernel_rfl)) (by unfold Func.isWrapper; first | (rw [if_pos (by decide +kernel)]; kernel_rfl) | (rw [if_neg (by decide +kernel)]; exact ⟨rfl, rfl⟩))
  (fun os started H enc _ => lifted os started H enc)
theorem proved : Rows.FnExactReopenSaid := over
#print axioms proved
end Go.Proofs.YtekkalnafngfeaaGreat.fnExactReopen
namespace Go.Proofs.YtekkalnafngfeaaGreat
/-- The row, under a short name, for the claim. -/
theorem fnExactReopen_holds : Rows.FnExactReopenSaid := fnExactReopen.proved
end Go.Proofs.YtekkalnafngfeaaGreat
