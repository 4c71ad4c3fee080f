-- WRITTEN BY hprint.py, this session's own program, over the kit's printer: not typed by hand; Lean checks it
import Derived.Test.YthpdpnpojgegiaaGreatDoorRows
import Derived.Test.YthpdpnpojgegiaaGreatDoorPw47
import Derived.Test.YthpdpnpojgegiaaGreatDoorPureFnExactWrite
import Derived.Test.YthpdpnpojgegiaaGreatDoorVPwOp0
import Derived.WalkKit
import Derived.ProofKit
import Derived.OpenShut
import Derived.ShutString
import Derived.ChangeOld
import Derived.Below
import Derived.SizedLaws
import Derived.HandedShaped
import Derived.Test.YthpdpnpojgegiaaGreatDoorShelf
import Derived.Carry
import Derived.Test.YthpdpnpojgegiaaGreatDoorCards
import Derived.Test.YthpdpnpojgegiaaGreatDoorTie
import Derived.LaidMore
import Derived.Lay
import Derived.Stop.Joined
import Derived.SevenTiedAt
namespace Go.Proofs.YthpdpnpojgegiaaGreatDoor.fnExactWrite
open Go.ChangeShapes Go.WideShapes Go.ChangeAt Go.RowKit Go.Proofs.YthpdpnpojgegiaaGreatDoor Go.Proofs.YthpdpnpojgegiaaGreatDoor.P Go.Proofs.YthpdpnpojgegiaaGreatDoorW.PrintWords Go.Proofs.YthpdpnpojgegiaaGreatDoorW.PrintLast
open Go.ChangeMaps (open_string shut_string)
set_option linter.unusedVariables false
section
variable {H : Type} {enc : TypeId × Value → H} {w : World} {spare : Nat → Bool}
set_option maxRecDepth 100000 in
theorem opens58 : ∀ M, Op.Opens enc Tryz.prog w spare k58 (G58 maxLen) 58 M
 | M => by
  intro m hm cs x h
  obtain ⟨xs, n, rfl, _, hl, hlen0, hf⟩ := DataW.trod_struct Tryz.underlying58 h
  have hlen : xs.length = 2 := hlen0
  have hn : n < M := by omega
  rw [show Tryz.prog.cellsOf 58 = 2 from by kernel_rfl] at hl
  match cs, hl, hf with
  | [c0_, c1_], _, hf =>
  obtain ⟨y0, hy0⟩ := Op.some_at hlen (show 0 < 2 by decide)
  have e0 : DataW.trod enc Tryz.prog w 0 spare true n 9 (List.take (Tryz.prog.cellsOf 9) (List.drop 0 [c0_, c1_])) = xs[0]? := hf 0 _ rfl
  rw [hy0, show Tryz.prog.cellsOf 9 = 1 from by kernel_rfl] at e0
  obtain ⟨a0, k0_, g0⟩ := (Op.opens_string Tryz.underlying9 M) n hn _ _ e0
  replace k0_ : [c0_] = [.string a0] := k0_
  injection k0_ with k0_
  subst k0_
  obtain ⟨y1, hy1⟩ := Op.some_at hlen (show 1 < 2 by decide)
  have e1 : DataW.trod enc Tryz.prog w 0 spare true n 9 (List.take (Tryz.prog.cellsOf 9) (List.drop 1 [.string a0, c1_])) = xs[1]? := hf 1 _ rfl
  rw [hy1, show Tryz.prog.cellsOf 9 = 1 from by kernel_rfl] at e1
  obtain ⟨a1, k1_, g1⟩ := (Op.opens_string Tryz.underlying9 M) n hn _ _ e1
  replace k1_ : [c1_] = [.string a1] := k1_
  injection k1_ with k1_
  subst k1_
  exact ⟨⟨a0, a1⟩, k58_mk w ⟨a0, a1⟩, G58_mono (Nat.le_succ n) ⟨g0, g1⟩⟩
set_option maxRecDepth 100000 in
theorem opens25 : ∀ M, Op.Opens enc Tryz.prog w spare k25 (G25 maxLen) 25 M
 | 0 => fun m hm => absurd hm (Nat.not_lt_zero m)
 | M + 1 => by
  have ih := opens25 M
  intro m hm cs x h
  obtain ⟨xs, n, rfl, _, hl, hlen0, hf⟩ := DataW.trod_struct Tryz.underlying25 h
  have hlen : xs.length = 6 := hlen0
  have hn : n < M := by omega
  rw [show Tryz.prog.cellsOf 25 = 6 from by kernel_rfl] at hl
  match cs, hl, hf with
  | [c0_, c1_, c2_, c3_, c4_, c5_], _, hf =>
  obtain ⟨y0, hy0⟩ := Op.some_at hlen (show 0 < 6 by decide)
  have e0 : DataW.trod enc Tryz.prog w 0 spare true n 3 (List.take (Tryz.prog.cellsOf 3) (List.drop 0 [c0_, c1_, c2_, c3_, c4_, c5_])) = xs[0]? := hf 0 _ rfl
  rw [hy0, show Tryz.prog.cellsOf 3 = 1 from by kernel_rfl] at e0
  obtain ⟨a0, k0_, g0⟩ := (Op.opens_int Tryz.underlying3 M) n hn _ _ e0
  replace k0_ : [c0_] = [.int .i64 a0] := k0_
  injection k0_ with k0_
  subst k0_
  obtain ⟨y1, hy1⟩ := Op.some_at hlen (show 1 < 6 by decide)
  have e1 : DataW.trod enc Tryz.prog w 0 spare true n 3 (List.take (Tryz.prog.cellsOf 3) (List.drop 1 [.int .i64 a0, c1_, c2_, c3_, c4_, c5_])) = xs[1]? := hf 1 _ rfl
  rw [hy1, show Tryz.prog.cellsOf 3 = 1 from by kernel_rfl] at e1
  obtain ⟨a1, k1_, g1⟩ := (Op.opens_int Tryz.underlying3 M) n hn _ _ e1
  replace k1_ : [c1_] = [.int .i64 a1] := k1_
  injection k1_ with k1_
  subst k1_
  obtain ⟨y2, hy2⟩ := Op.some_at hlen (show 2 < 6 by decide)
  have e2 : DataW.trod enc Tryz.prog w 0 spare true n 9 (List.take (Tryz.prog.cellsOf 9) (List.drop 2 [.int .i64 a0, .int .i64 a1, c2_, c3_, c4_, c5_])) = xs[2]? := hf 2 _ rfl
  rw [hy2, show Tryz.prog.cellsOf 9 = 1 from by kernel_rfl] at e2
  obtain ⟨a2, k2_, g2⟩ := (Op.opens_string Tryz.underlying9 M) n hn _ _ e2
  replace k2_ : [c2_] = [.string a2] := k2_
  injection k2_ with k2_
  subst k2_
  obtain ⟨y3, hy3⟩ := Op.some_at hlen (show 3 < 6 by decide)
  have e3 : DataW.trod enc Tryz.prog w 0 spare true n 22 (List.take (Tryz.prog.cellsOf 22) (List.drop 3 [.int .i64 a0, .int .i64 a1, .string a2, c3_, c4_, c5_])) = xs[3]? := hf 3 _ rfl
  rw [hy3, show Tryz.prog.cellsOf 22 = 1 from by kernel_rfl] at e3
  obtain ⟨a3, k3_, g3⟩ := ((Op.opens_slice (d := k58) (G := (G58 maxLen)) Tryz.underlying22 (by kernel_rfl) (fun _ _ _ hle h0_ => (G58_mono hle) h0_) (opens58 M)).mono (Nat.le_succ _)) n hn _ _ e3
  obtain ⟨A3, q3, k3_, l3, r3⟩ := k3_
  injection k3_ with k3_
  subst k3_
  obtain ⟨y4, hy4⟩ := Op.some_at hlen (show 4 < 6 by decide)
  have e4 : DataW.trod enc Tryz.prog w 0 spare true n 9 (List.take (Tryz.prog.cellsOf 9) (List.drop 4 [.int .i64 a0, .int .i64 a1, .string a2, .slice A3 a3.length q3, c4_, c5_])) = xs[4]? := hf 4 _ rfl
  rw [hy4, show Tryz.prog.cellsOf 9 = 1 from by kernel_rfl] at e4
  obtain ⟨a4, k4_, g4⟩ := (Op.opens_string Tryz.underlying9 M) n hn _ _ e4
  replace k4_ : [c4_] = [.string a4] := k4_
  injection k4_ with k4_
  subst k4_
  obtain ⟨y5, hy5⟩ := Op.some_at hlen (show 5 < 6 by decide)
  have e5 : DataW.trod enc Tryz.prog w 0 spare true n 23 (List.take (Tryz.prog.cellsOf 23) (List.drop 5 [.int .i64 a0, .int .i64 a1, .string a2, .slice A3 a3.length q3, .string a4, c5_])) = xs[5]? := hf 5 _ rfl
  rw [hy5, show Tryz.prog.cellsOf 23 = 1 from by kernel_rfl] at e5
  obtain ⟨a5, k5_, g5⟩ := ((Op.opens_slice (d := k25) (G := (G25 maxLen)) Tryz.underlying23 (by kernel_rfl) (fun _ _ _ hle h0_ => (G25_mono hle) h0_) ih).mono (Nat.le_succ _)) n hn _ _ e5
  obtain ⟨A5, q5, k5_, l5, r5⟩ := k5_
  injection k5_ with k5_
  subst k5_
  exact ⟨⟨a0, a1, a2, a3, a4, a5⟩, k25_mk w ⟨a0, a1, a2, a3, a4, a5⟩ l3 r3 l5 r5, ⟨g0, g1, g2, g3, g4, g5⟩⟩
end
theorem own : ownKnob Tryz.prog.godebug = none := by kernel_rfl
abbrev laid : List (String × DataW Unit) := Rows.fnExactWriteRow.laid
/-- The row's wrap with all: what the listed variables read as, the world's shape, the sizes. -/
theorem wrap {H : Type} {enc : TypeId × Value → H} {a : Assume} {C : Checked} {os : Os} {f : FuncId} {fn : Func} {s : ChangeSpec} {conds : List PathCond} {apart fresh handsOn again : Bool} {X : World → Array Value → Prop}
  (own : ownKnob C.prog.godebug = none) (started : os.Started) (noInit : C.prog.inits.idxOf? f = none) (hfn : C.prog.funcs[f]? = some fn)
  (witness : ∃ (w : World) (tape : Tape) (i : Input), w.os = os ∧ (w.forCall tape i).Shaped C.prog ∧ i.vars = [] ∧ Input.okWide C.prog (w.forCall tape i) .any w.heap.size f i ∧
   ((s.pre enc C.prog fn conds apart (w.forCall tape i).memory i.args ∧ X (w.forCall tape i).memory i.args) ∧ sizedMet enc C.prog fn (OpenSpec.ofChange s) apart (w.forCall tape i).memory i.args) ∧ a.holds C.prog (lone (Frame.enter C.prog f i.args .normal) [] (w.forCall tape i)))
  (contract : ∀ (W : World) (base : Nat) (args : Array Value) (ds gs : List (DataW H)) (before : List MemPlace),
   (∀ (j : Nat) t v, fn.params[j]? = some t → args[j]? = some v → Value.okWide C.prog W .any base t v) →
   DataW.Whole enc C.prog fn.params.toList s.vars apart W args.toList ds gs before →
   (DataW.weightsEach C.prog (fn.params.toList ++ s.plain.varTypes C.prog) (ds ++ gs)).all (· ≤ reachBytes) = true → W.ShapedOpen C.prog →
   Calls C.prog f args W fun e W' => ∃ v, e = .returned v ∧ s.post enc C.prog fn apart fresh handsOn again W args v W') :
  ReturnsInHanded a C os f .any (fun w args => (s.pre enc C.prog fn conds apart w args ∧ X w args) ∧ sizedMet enc C.prog fn (OpenSpec.ofChange s) apart w args) (s.post enc C.prog fn apart fresh handsOn again) := by
 refine returnsInHanded_of_calls own started noInit witness ?_
 intro w tape i _ hsh _ hok hpre _
 obtain ⟨_, _, _, fn', hfn', _, _, _, _, hval⟩ := hok
 obtain rfl : fn' = fn := Option.some.inj (hfn'.symm.trans hfn)
 obtain ⟨⟨⟨ds, gs, before, hw, _⟩, _⟩, hz⟩ := hpre
 refine (contract (w.forCall tape i) w.heap.size i.args ds gs before hval (DataW.Whole.of_heap (w' := w.forCall tape i) (by rfl) hw) (hz.weights hw) hsh).mono fun e W' ⟨v, he, hp⟩ => ?_
 subst he
 exact ChangeSpec.post_blind hp
theorem laidOut : laidOutB Tryz.prog = true := by kernel_rfl
set_option maxRecDepth 100000 in
theorem lifted (os : Os) (started : os.Started) (H : Type) (enc : TypeId × Value → H) :
  ReturnsInHanded {} Tryz.checked os 4 .any (fun w args => (Rows.fnExactWriteSpec.pre enc Tryz.prog Tryz.f4 Rows.fnExactWriteRow.domain false w args ∧ laidMetH Tryz.prog laid w) ∧ sizedMet enc Tryz.prog Tryz.f4 (OpenSpec.ofChange Rows.fnExactWriteSpec) false w args) (Rows.fnExactWriteSpec.post enc Tryz.prog Tryz.f4 false true false false) := by
 refine wrap (C := Tryz.checked) (X := fun w _ => laidMetH Tryz.prog laid w) own started (by kernel_rfl) Tryz.func4
  (ChangeSpec.witness_shaped (enc := enc) (C := Tryz.checked) (os := os) (X := fun w _ => laidMetH Tryz.prog laid w) false (World.laidAll Tryz.prog os laid) #[.slice none 0 0] 8 (World.laidAll_os _ _ _)
   (World.shaped_of_ZipB (by kernel_rfl) (by kernel_rfl)) (by kernel_rfl) (by kernel_rfl) (by kernel_rfl)
   (by rw [MakeChecks.laidMetH_plain _ _ _ (by kernel_rfl)]; exact laidMet_laidAll _ (by kernel_rfl) (by kernel_rfl))) ?_
 intro W base args ds gs before hval0 hW hsz0 hsh
 have hsz : (DataW.weightsEach Tryz.prog (Tryz.f4.params.toList ++ Rows.fnExactWriteSpec.plain.varTypes Tryz.prog) (ds ++ gs)).all (· ≤ reachBytes) = true := hsz0
 have hval : ∀ (j : Nat) t v, Tryz.f4.params[j]? = some t → args[j]? = some v → Value.okWide Tryz.prog W .any base t v := hval0
 have hW' := hW
 obtain ⟨p, q, hA0, hV, rfl, hfz, hnd⟩ := hW
 have hA : DataW.TrodAll enc Tryz.prog W 0 (fun _ => true) true Tryz.f4.params.toList args.toList ds p := hA0
 rw [Tryz.params4] at hA hval hsz
 obtain ⟨v0, vs0, d0, ds0, p0, q0, hargs, rfl, rfl, h0, r0⟩ := trodAll_cons hA
 obtain ⟨rfl, rfl, rfl⟩ := trodAll_nil r0
 obtain rfl : args = #[v0] := by cases args; simp_all
 obtain ⟨rfl, rfl⟩ := trodVars_none hV
 have k0 := h0
 have lt0 : ∀ x ∈ p0, x.block < W.heap.size := by obtain ⟨m, hm⟩ := k0; exact DataW.trod_lt m _ _ _ hm
 obtain ⟨fuel0, hf0⟩ := h0
 obtain ⟨a0, len0, cap0, rfl⟩ := okWide_slice Tryz.underlying23 (hval 0 23 v0 rfl rfl)
 obtain ⟨l0, ⟨A0, c0, e0, l0_0, r0_0⟩, G0_⟩ := ((Op.opens_slice (d := k25) (G := (G25 maxLen)) Tryz.underlying23 (by kernel_rfl) (fun _ _ _ hle h0_ => (G25_mono hle) h0_) (opens25 (fuel0 + 1))).mono (Nat.le_succ _)) fuel0 (Nat.lt_succ_self _) _ _ hf0
 replace e0 : [(Value.slice a0 len0 cap0)] = [.slice A0 l0.length c0] := e0
 injection e0 with e0
 injection e0 with ea0 el0 ec0
 subst ea0 el0 ec0
 clear hA0 hval0 hsz0 hsz
 obtain ⟨k, hk⟩ := Pure.FnExactWrite fuel0 l0 G0_
 obtain ⟨M_, hm_⟩ := Tryz.laysM144.s1_3 W hsh
 refine (P.laws_FnExactWrite.calls k _ _ l0 W r0_0 l0_0 M_ hm_ hk).mono fun e W' ⟨he, bel0⟩ => ?_
 have bel : Below W.heap.size W W' := bel0
 subst he
 exact ⟨_, rfl, _, _, _, [], _, [], hW', trodAll_mk1 (shut_bool Tryz.underlying4 _), (trodAll_cons_mk (Below.trod laidOut (by kernel_rfl) (of_decide_eq_true (by kernel_rfl)) k0 bel lt0) trodAll_mk0), rfl, bel.frame _, fun h => by cases h⟩
theorem over : Rows.fnExactWriteRow.holds Tryz.pinned (OpenSpec.ofChange Rows.fnExactWriteSpec) :=
 OpenClaim.holds_of_wide 4 Tryz.f4 rfl rfl rfl rfl rfl rfl rfl ⟨rfl, rfl, rfl, rfl, rfl⟩ rfl rfl rfl rfl rfl (by kernel_rfl) Tryz.func4 (by kernel_rfl)
  (of_decide_eq_true (by kernel_rfl)) (by unfold Func.isWrapper; first | (rw [if_pos (by decide +kernel)]; kernel_rfl) | (rw [if_neg (by decide +kernel)]; exact ⟨rfl, rfl⟩))
  (fun os started H enc _ => lifted os started H enc)
theorem proved : Rows.FnExactWriteCardSaid :=
 Claim7.holds_tied_plain_at .later [] [.data, .pinned] true (true, "93d339baef9a5b87834d1c1fbf4c34243f5ab653ae7709786d50faf2e6bd0035") false
  over (fun _ h => by cases h) (by kernel_rfl) (fun _ h => by cases h) fnExactWrite_row_tie rfl ⟨rfl, rfl⟩ (by kernel_rfl) rfl
  (fun f fn hf hfn => by
   obtain rfl : f = 4 := Option.some.inj ((show Tryz.prog.funcNamed "loop.example/g00325/laws.FnExactWrite" = some 4 by kernel_rfl).symm.trans hf) |>.symm
   obtain rfl : fn = Tryz.f4 := (Option.some.inj (Tryz.func4.symm.trans hfn)).symm
   exact ⟨by kernel_rfl, fun j t ht => by
    rw [Tryz.params4] at ht
    have hm : t ∈ [23] := by simpa using Array.mem_of_getElem? ht
    have hall : ([23].all fun u => !Tryz.prog.wantsStandIn u) = true := by kernel_rfl
    exact (show Tryz.prog.wantsStandIn t = false by simpa using List.all_eq_true.1 hall t hm)⟩)
  (by kernel_rfl)
#print axioms proved
end Go.Proofs.YthpdpnpojgegiaaGreatDoor.fnExactWrite
namespace Go.Proofs.YthpdpnpojgegiaaGreatDoor
/-- The card, under a short name, for the claim. -/
theorem fnExactWriteCard_holds : Rows.FnExactWriteCardSaid := fnExactWrite.proved
end Go.Proofs.YthpdpnpojgegiaaGreatDoor
