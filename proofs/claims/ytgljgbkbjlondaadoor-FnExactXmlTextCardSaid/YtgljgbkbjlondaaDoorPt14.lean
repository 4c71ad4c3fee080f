-- WRITTEN BY hprint.py, this session's own program, over the kit's printer: not typed by hand; Lean checks it
import Derived.Test.YtgljgbkbjlondaaDoorPt0
import Derived.Test.YtgljgbkbjlondaaDoorPt5
import Derived.Test.YtgljgbkbjlondaaDoorPt6
import Derived.Test.YtgljgbkbjlondaaDoorPt7
import Derived.Test.YtgljgbkbjlondaaDoorPt8
import Derived.Test.YtgljgbkbjlondaaDoorPt10
import Derived.Test.YtgljgbkbjlondaaDoorPt12
import Derived.Test.YtgljgbkbjlondaaDoorPt13
namespace Go.Proofs.YtgljgbkbjlondaaDoor.P
open Go.RowKit Go.Proofs.YtgljgbkbjlondaaDoorW.PrintWords Go.Proofs.YtgljgbkbjlondaaDoorW.PrintLast Go.Proofs.YtgljgbkbjlondaaDoorW.PrintMore
attribute [local go_sem] max2_int min2_int max_two min_two max_three min_three max_four min_four   -- for this text's walks alone
set_option linter.unusedVariables false
set_option linter.unusedSimpArgs false

/-! ### impl_XmlRef: function 8 (by hand) -/
def impl_XmlRef.g (k : Nat) (a1 : Int) (d : ByteArray) (e : Int) : Option (ByteArray × Int) := if e ≤ (d.size : Int) then (if 0 ≤ e then (if (d.extract 0 e.toNat).size ≤ 18 then (match Lib.atoi (d.extract 0 e.toNat).data.toList with
  | none => some ((⟨#[]⟩ : ByteArray), (-1 : Int))
  | some n => if -9223372036854775808 ≤ n then (if n ≤ 9223372036854775807 then (if (⟨(Lib.itoa n).toArray⟩ : ByteArray).toList = (d.extract 0 e.toNat).toList then (if n = 0 then some ((⟨#[]⟩ : ByteArray), (-1 : Int)) else (impl_IsText.f n).bind fun q => if q = true then (impl_PutSign.f k n).bind fun r => some (r, wrap64 (wrap64 (wrap64 (a1 + 2) + e) + 1)) else some ((⟨#[]⟩ : ByteArray), (-1 : Int))) else some ((⟨#[]⟩ : ByteArray), (-1 : Int))) else none) else none) else none) else none) else none
def impl_XmlRef.f (k : Nat) (a0 : ByteArray) (a1 : Int) : Option (ByteArray × Int) := (impl_inRange.f a1 0 (wrap64 ((a0.size : Int) - 1))).bind fun t => if t = true then (if 0 ≤ a1 then (if a1 ≤ (a0.size : Int) then (impl_namedRef.f (a0.extract (a1 : Int).toNat a0.size)).bind fun z => if z.2 > 0 then some (z.1, wrap64 (a1 + z.2)) else (strings_CutPrefix.f (a0.extract (a1 : Int).toNat a0.size) (⟨#[38, 35]⟩ : ByteArray)).bind fun y => if y.2 = true then ((impl_inRange.f (Lib.indexByte y.1.data.toList (59 : Int).toNat.toUInt8) 1 7).bind fun b => if b = true then impl_XmlRef.g k a1 y.1 (Lib.indexByte y.1.data.toList (59 : Int).toNat.toUInt8) else some ((⟨#[]⟩ : ByteArray), (-1 : Int))) else some ((⟨#[]⟩ : ByteArray), (-1 : Int)) else none) else none) else some ((⟨#[]⟩ : ByteArray), (-1 : Int))
theorem impl_XmlRef.mono_g : ∀ a1 d e k, LeO (impl_XmlRef.g k a1 d e) (impl_XmlRef.g (k + 1) a1 d e) := fun a1 d e k => by
  unfold impl_XmlRef.g
  refine LeO.ite (LeO.ite (LeO.ite ?_ (LeO.none _)) (LeO.none _)) (LeO.none _)
  cases Lib.atoi (d.extract 0 e.toNat).data.toList with
  | none => exact LeO.refl _
  | some n =>
    repeat' first
      | (with_reducible exact impl_PutSign.mono _ _)
      | (with_reducible exact LeO.refl _)
      | (with_reducible exact LeO.none _)
      | (with_reducible refine LeO.ite ?_ ?_)
      | (with_reducible refine LeO.bind ?_ (fun _ => ?_))
theorem impl_XmlRef.mono : ∀ a0 a1 k, LeO (impl_XmlRef.f k a0 a1) (impl_XmlRef.f (k + 1) a0 a1) := fun a0 a1 k => by
  unfold impl_XmlRef.f
  repeat' first
    | (with_reducible exact impl_XmlRef.mono_g _ _ _ _)
    | (with_reducible exact LeO.refl _)
    | (with_reducible exact LeO.none _)
    | (with_reducible refine LeO.ite ?_ ?_)
    | (with_reducible refine LeO.bind ?_ (fun _ => ?_))
set_option maxHeartbeats 16000000 in
set_option maxRecDepth 100000 in
theorem impl_XmlRef.calls_x (k : Nat) (a0 : ByteArray) (a1 : Int) (r1 : ByteArray) (r2 : Int) (w : World) (hx : XrW w) (h : impl_XmlRef.f k a0 a1 = some (r1, r2)) :
    Calls Tryd.prog 8 #[.string a0, .int .i64 a1] w fun e w' => e = .returned (.tuple #[.string r1, .int .i64 r2]) ∧ Below w.heap.size w w' := by
  have hmix : Tryd.prog.follows .mixedOrders = true := by kernel_rfl
  have HB := Aside0.mk (Below.refl w.heap.size w)
  have X0 := Aside0.mk hx
  clear hx
  unfold impl_XmlRef.f at h
  obtain ⟨t, h1, h⟩ := Option.bind_eq_some_iff.mp h
  have HR := Aside0.mk h1
  clear h1
  cases t with
  | false =>
    rw [if_neg (by decide)] at h
    obtain ⟨rfl, rfl⟩ := Prod.mk.inj (Option.some.inj h)
    clear h
    go_enter Tryd.func8, Tryd.ntmps8
    go_wp2_with (go_at_call 38; (with_reducible refine (impl_inRange.calls a1 0 (wrap64 ((a0.size : Int) - 1)) false _ HR.out).mono ?_); rintro e w1 ⟨rfl, ⟨nd, rfl⟩⟩)
    go_wp2
    go_ret2
    exact ⟨rfl, (by repeat (first | (with_reducible first | exact HB.out | apply below_alloc | apply pw_below_drewN | apply below_drew1) | exact HB.out))⟩
  | true =>
    rw [if_pos rfl] at h
    by_cases c1 : 0 ≤ a1
    case neg => rw [if_neg c1] at h; cases h
    rw [if_pos c1] at h
    by_cases c2 : a1 ≤ (a0.size : Int)
    case neg => rw [if_neg c2] at h; cases h
    rw [if_pos c2] at h
    have c1b0 := eq_true c1
    have c1b1 : decide (0 ≤ a1) = true := decide_eq_true c1
    have c2b0 := eq_true c2
    have c2b1 : decide (a1 ≤ (a0.size : Int)) = true := decide_eq_true c2
    clear c1 c2
    obtain ⟨⟨z, n1⟩, h1, h⟩ := Option.bind_eq_some_iff.mp h
    have A1 := Aside0.mk h1
    clear h1
    try dsimp only at h
    by_cases c3 : n1 > 0
    · rw [if_pos c3] at h
      obtain ⟨rfl, rfl⟩ := Prod.mk.inj (Option.some.inj h)
      clear h
      have c3b0 : decide (0 < n1) = true := decide_eq_true c3
      clear c3
      go_enter Tryd.func8, Tryd.ntmps8
      go_wp2_with (go_at_call 38; (with_reducible refine (impl_inRange.calls a1 0 (wrap64 ((a0.size : Int) - 1)) true _ HR.out).mono ?_); rintro e w1 ⟨rfl, ⟨nd, rfl⟩⟩)
      go_wp2_with (go_at_call 39; (with_reducible refine (impl_namedRef.calls (a0.extract (a1 : Int).toNat a0.size) z n1 _ A1.out).mono ?_); rintro e w2 ⟨rfl, b1⟩; have B1 := Aside0.mk (below_step (by repeat (first | (with_reducible first | exact HB.out | apply below_alloc | apply pw_below_drewN | apply below_drew1) | exact HB.out)) b1); clear b1)
      go_wp2
      go_ret2
      exact ⟨rfl, (by repeat (first | (with_reducible first | exact B1.out | apply below_alloc | apply pw_below_drewN | apply below_drew1) | exact B1.out))⟩
    rw [if_neg c3] at h
    have c3b0 : decide (0 < n1) = false := decide_eq_false c3
    clear c3
    obtain ⟨⟨y, ok⟩, h1, h⟩ := Option.bind_eq_some_iff.mp h
    have A2 := Aside0.mk h1
    clear h1
    try dsimp only at h
    obtain ⟨e, he⟩ : ∃ e, Lib.indexByte y.data.toList (59 : Int).toNat.toUInt8 = e := ⟨_, rfl⟩
    rw [he] at h
    have N1 := Aside0.mk he
    clear he
    cases ok with
    | false =>
      rw [if_neg (by decide)] at h
      obtain ⟨rfl, rfl⟩ := Prod.mk.inj (Option.some.inj h)
      clear h
      go_enter Tryd.func8, Tryd.ntmps8
      go_wp2_with (go_at_call 38; (with_reducible refine (impl_inRange.calls a1 0 (wrap64 ((a0.size : Int) - 1)) true _ HR.out).mono ?_); rintro e w1 ⟨rfl, ⟨nd, rfl⟩⟩)
      go_wp2_with (go_at_call 39; (with_reducible refine (impl_namedRef.calls (a0.extract (a1 : Int).toNat a0.size) z n1 _ A1.out).mono ?_); rintro e w2 ⟨rfl, b1⟩; have B1 := Aside0.mk (below_step (by repeat (first | (with_reducible first | exact HB.out | apply below_alloc | apply pw_below_drewN | apply below_drew1) | exact HB.out)) b1); clear b1)
      go_wp2_with (go_at_call 40; (with_reducible refine (strings_CutPrefix.calls (a0.extract (a1 : Int).toNat a0.size) (⟨#[38, 35]⟩ : ByteArray) y false _ A2.out).mono ?_); rintro e w3 ⟨rfl, ⟨nd3, rfl⟩⟩)
      go_wp2_with (go_at_call 41; (with_reducible refine (bu_IndexByte y 59 e _ N1.out).mono ?_); rintro e5 w4 ⟨rfl, rfl⟩)
      go_wp2
      go_ret2
      exact ⟨rfl, (by repeat (first | (with_reducible first | exact B1.out | apply below_alloc | apply pw_below_drewN | apply below_drew1) | exact B1.out))⟩
    | true =>
      rw [if_pos rfl] at h
      obtain ⟨b, h1, h⟩ := Option.bind_eq_some_iff.mp h
      have A3 := Aside0.mk h1
      clear h1
      cases b with
      | false =>
        rw [if_neg (by decide)] at h
        obtain ⟨rfl, rfl⟩ := Prod.mk.inj (Option.some.inj h)
        clear h
        go_enter Tryd.func8, Tryd.ntmps8
        go_wp2_with (go_at_call 38; (with_reducible refine (impl_inRange.calls a1 0 (wrap64 ((a0.size : Int) - 1)) true _ HR.out).mono ?_); rintro e w1 ⟨rfl, ⟨nd, rfl⟩⟩)
        go_wp2_with (go_at_call 39; (with_reducible refine (impl_namedRef.calls (a0.extract (a1 : Int).toNat a0.size) z n1 _ A1.out).mono ?_); rintro e w2 ⟨rfl, b1⟩; have B1 := Aside0.mk (below_step (by repeat (first | (with_reducible first | exact HB.out | apply below_alloc | apply pw_below_drewN | apply below_drew1) | exact HB.out)) b1); clear b1)
        go_wp2_with (go_at_call 40; (with_reducible refine (strings_CutPrefix.calls (a0.extract (a1 : Int).toNat a0.size) (⟨#[38, 35]⟩ : ByteArray) y true _ A2.out).mono ?_); rintro e w3 ⟨rfl, ⟨nd3, rfl⟩⟩)
        go_wp2_with (go_at_call 41; (with_reducible refine (bu_IndexByte y 59 e _ N1.out).mono ?_); rintro e5 w4 ⟨rfl, rfl⟩)
        go_wp2_with (go_at_call 38; (with_reducible refine (impl_inRange.calls e 1 7 false _ A3.out).mono ?_); rintro e6 w5 ⟨rfl, ⟨nd5, rfl⟩⟩)
        go_wp2
        go_ret2
        exact ⟨rfl, (by repeat (first | (with_reducible first | exact B1.out | apply below_alloc | apply pw_below_drewN | apply below_drew1) | exact B1.out))⟩
      | true =>
        rw [if_pos rfl] at h
        unfold impl_XmlRef.g at h
        by_cases c4 : e ≤ (y.size : Int)
        case neg => rw [if_neg c4] at h; cases h
        rw [if_pos c4] at h
        by_cases c5 : 0 ≤ e
        case neg => rw [if_neg c5] at h; cases h
        rw [if_pos c5] at h
        by_cases c6 : (y.extract 0 e.toNat).size ≤ 18
        case neg => rw [if_neg c6] at h; cases h
        rw [if_pos c6] at h
        have S6 := Aside0.mk c6
        have c4b0 := eq_true c4
        have c4b1 : decide (e ≤ (y.size : Int)) = true := decide_eq_true c4
        have c5b0 := eq_true c5
        have c5b1 : decide (0 ≤ e) = true := decide_eq_true c5
        clear c4 c5 c6
        cases ha : Lib.atoi (y.extract 0 e.toNat).data.toList with
        | none =>
          rw [ha] at h
          have HA := Aside0.mk ha
          clear ha
          obtain ⟨rfl, rfl⟩ := Prod.mk.inj (Option.some.inj h)
          clear h
          go_enter Tryd.func8, Tryd.ntmps8
          go_wp2_with (go_at_call 38; (with_reducible refine (impl_inRange.calls a1 0 (wrap64 ((a0.size : Int) - 1)) true _ HR.out).mono ?_); rintro e w1 ⟨rfl, ⟨nd, rfl⟩⟩)
          go_wp2_with (go_at_call 39; (with_reducible refine (impl_namedRef.calls (a0.extract (a1 : Int).toNat a0.size) z n1 _ A1.out).mono ?_); rintro e w2 ⟨rfl, b1⟩; have B1 := Aside0.mk (below_step (by repeat (first | (with_reducible first | exact HB.out | apply below_alloc | apply pw_below_drewN | apply below_drew1) | exact HB.out)) b1); clear b1)
          go_wp2_with (go_at_call 40; (with_reducible refine (strings_CutPrefix.calls (a0.extract (a1 : Int).toNat a0.size) (⟨#[38, 35]⟩ : ByteArray) y true _ A2.out).mono ?_); rintro e w3 ⟨rfl, ⟨nd3, rfl⟩⟩)
          go_wp2_with (go_at_call 41; (with_reducible refine (bu_IndexByte y 59 e _ N1.out).mono ?_); rintro e5 w4 ⟨rfl, rfl⟩)
          go_wp2_with (go_at_call 38; (with_reducible refine (impl_inRange.calls e 1 7 true _ A3.out).mono ?_); rintro e6 w5 ⟨rfl, ⟨nd5, rfl⟩⟩)
          go_wp2_with (go_at_call 42; (with_reducible refine (bu_Atoi_err (y.extract 0 e.toNat) _ S6.out HA.out (X0.out.below (by repeat (first | (with_reducible first | exact B1.out | apply below_alloc | apply pw_below_drewN | apply below_drew1) | exact B1.out)))).mono ?_); rintro e7 w6 ⟨te, Ne, rfl, b2⟩; have B2 := Aside0.mk (below_step (by repeat (first | (with_reducible first | exact B1.out | apply below_alloc | apply pw_below_drewN | apply below_drew1) | exact B1.out)) b2); clear b2)
          go_wp2
          refine wp_region_quiet_below hmix (by kernel_rfl) ?_
          repeat (quiet_step (fail))
          refine wpQuiet_nil ?_
          intro _ hw'
          obtain ⟨⟨dq, osq⟩, hw''⟩ := hw'
          subst hw''
          have B3 := Aside0.mk (below_step B2.out (below_regrown _ dq osq))
          go_wp2
          go_ret2
          exact ⟨rfl, (by repeat (first | (with_reducible first | exact B3.out | apply below_alloc | apply pw_below_drewN | apply below_drew1) | exact B3.out))⟩
        | some n =>
          rw [ha] at h
          have HA := Aside0.mk ha
          clear ha
          try dsimp only at h
          by_cases c7 : -9223372036854775808 ≤ n
          case neg => rw [if_neg c7] at h; cases h
          rw [if_pos c7] at h
          by_cases c8 : n ≤ 9223372036854775807
          case neg => rw [if_neg c8] at h; cases h
          rw [if_pos c8] at h
          have S7 := Aside0.mk c7
          have S8 := Aside0.mk c8
          clear c7 c8
          obtain ⟨s, hs⟩ : ∃ s, (⟨(Lib.itoa n).toArray⟩ : ByteArray) = s := ⟨_, rfl⟩
          rw [hs] at h
          have HS := Aside0.mk hs
          clear hs
          obtain ⟨u, hu⟩ : ∃ u, y.extract 0 e.toNat = u := ⟨_, rfl⟩
          clear hu
          by_cases c9 : s.toList = (y.extract 0 e.toNat).toList
          case neg =>
            rw [if_neg c9] at h
            obtain ⟨rfl, rfl⟩ := Prod.mk.inj (Option.some.inj h)
            clear h
            have c9b0 : (s.toList == (y.extract 0 e.toNat).toList) = false := beq_eq_false_iff_ne.mpr c9
            have c9b1 : (s.toList != (y.extract 0 e.toNat).toList) = true := bne_iff_ne.mpr c9
            clear c9
            go_enter Tryd.func8, Tryd.ntmps8
            go_wp2_with (go_at_call 38; (with_reducible refine (impl_inRange.calls a1 0 (wrap64 ((a0.size : Int) - 1)) true _ HR.out).mono ?_); rintro e w1 ⟨rfl, ⟨nd, rfl⟩⟩)
            go_wp2_with (go_at_call 39; (with_reducible refine (impl_namedRef.calls (a0.extract (a1 : Int).toNat a0.size) z n1 _ A1.out).mono ?_); rintro e w2 ⟨rfl, b1⟩; have B1 := Aside0.mk (below_step (by repeat (first | (with_reducible first | exact HB.out | apply below_alloc | apply pw_below_drewN | apply below_drew1) | exact HB.out)) b1); clear b1)
            go_wp2_with (go_at_call 40; (with_reducible refine (strings_CutPrefix.calls (a0.extract (a1 : Int).toNat a0.size) (⟨#[38, 35]⟩ : ByteArray) y true _ A2.out).mono ?_); rintro e w3 ⟨rfl, ⟨nd3, rfl⟩⟩)
            go_wp2_with (go_at_call 41; (with_reducible refine (bu_IndexByte y 59 e _ N1.out).mono ?_); rintro e5 w4 ⟨rfl, rfl⟩)
            go_wp2_with (go_at_call 38; (with_reducible refine (impl_inRange.calls e 1 7 true _ A3.out).mono ?_); rintro e6 w5 ⟨rfl, ⟨nd5, rfl⟩⟩)
            go_wp2_with (go_at_call 42; (with_reducible refine (bu_Atoi_ok (y.extract 0 e.toNat) n _ S6.out HA.out).mono ?_); rintro e7 w6 ⟨rfl, b2⟩; have B2 := Aside0.mk (below_step (by repeat (first | (with_reducible first | exact B1.out | apply below_alloc | apply pw_below_drewN | apply below_drew1) | exact B1.out)) b2); clear b2)
            have cI : ∀ d os, Calls Tryd.prog 43 #[.int .i64 n] (Go.Sort.grow (redrawn w6 d) os) fun e w'' => e = .returned (.string s) ∧ ∃ p : Regrown, w'' = Go.Sort.grow (redrawn w6 p.d) p.os := fun d os => Calls.regrown_of (bu_Itoa n _ S7.out S8.out (X0.out.below (below_step B2.out (below_regrown w6 d os))) s HS.out)
            go_wp2
            refine wp_region_quiet_below hmix (by kernel_rfl) ?_
            repeat (quiet_step (first | exact cI _ _))
            refine wpQuiet_nil ?_
            intro _ hw'
            obtain ⟨⟨dq, osq⟩, hw''⟩ := hw'
            subst hw''
            have B3 := Aside0.mk (below_step B2.out (below_regrown _ dq osq))
            go_wp2
            go_ret2
            exact ⟨rfl, (by repeat (first | (with_reducible first | exact B3.out | apply below_alloc | apply pw_below_drewN | apply below_drew1) | exact B3.out))⟩
          rw [if_pos c9] at h
          have c9b0 : (s.toList == (y.extract 0 e.toNat).toList) = true := beq_iff_eq.mpr c9
          have c9b1 : (s.toList != (y.extract 0 e.toNat).toList) = false := bne_eq_false_iff_eq.mpr c9
          clear c9
          by_cases c10 : n = 0
          · rw [if_pos c10] at h
            obtain ⟨rfl, rfl⟩ := Prod.mk.inj (Option.some.inj h)
            clear h
            have c10b0 : (n == 0) = true := beq_iff_eq.mpr c10
            clear c10
            go_enter Tryd.func8, Tryd.ntmps8
            go_wp2_with (go_at_call 38; (with_reducible refine (impl_inRange.calls a1 0 (wrap64 ((a0.size : Int) - 1)) true _ HR.out).mono ?_); rintro e w1 ⟨rfl, ⟨nd, rfl⟩⟩)
            go_wp2_with (go_at_call 39; (with_reducible refine (impl_namedRef.calls (a0.extract (a1 : Int).toNat a0.size) z n1 _ A1.out).mono ?_); rintro e w2 ⟨rfl, b1⟩; have B1 := Aside0.mk (below_step (by repeat (first | (with_reducible first | exact HB.out | apply below_alloc | apply pw_below_drewN | apply below_drew1) | exact HB.out)) b1); clear b1)
            go_wp2_with (go_at_call 40; (with_reducible refine (strings_CutPrefix.calls (a0.extract (a1 : Int).toNat a0.size) (⟨#[38, 35]⟩ : ByteArray) y true _ A2.out).mono ?_); rintro e w3 ⟨rfl, ⟨nd3, rfl⟩⟩)
            go_wp2_with (go_at_call 41; (with_reducible refine (bu_IndexByte y 59 e _ N1.out).mono ?_); rintro e5 w4 ⟨rfl, rfl⟩)
            go_wp2_with (go_at_call 38; (with_reducible refine (impl_inRange.calls e 1 7 true _ A3.out).mono ?_); rintro e6 w5 ⟨rfl, ⟨nd5, rfl⟩⟩)
            go_wp2_with (go_at_call 42; (with_reducible refine (bu_Atoi_ok (y.extract 0 e.toNat) n _ S6.out HA.out).mono ?_); rintro e7 w6 ⟨rfl, b2⟩; have B2 := Aside0.mk (below_step (by repeat (first | (with_reducible first | exact B1.out | apply below_alloc | apply pw_below_drewN | apply below_drew1) | exact B1.out)) b2); clear b2)
            have cI : ∀ d os, Calls Tryd.prog 43 #[.int .i64 n] (Go.Sort.grow (redrawn w6 d) os) fun e w'' => e = .returned (.string s) ∧ ∃ p : Regrown, w'' = Go.Sort.grow (redrawn w6 p.d) p.os := fun d os => Calls.regrown_of (bu_Itoa n _ S7.out S8.out (X0.out.below (below_step B2.out (below_regrown w6 d os))) s HS.out)
            go_wp2
            refine wp_region_quiet_below hmix (by kernel_rfl) ?_
            repeat (quiet_step (first | exact cI _ _))
            refine wpQuiet_nil ?_
            intro _ hw'
            obtain ⟨⟨dq, osq⟩, hw''⟩ := hw'
            subst hw''
            have B3 := Aside0.mk (below_step B2.out (below_regrown _ dq osq))
            go_wp2
            go_ret2
            exact ⟨rfl, (by repeat (first | (with_reducible first | exact B3.out | apply below_alloc | apply pw_below_drewN | apply below_drew1) | exact B3.out))⟩
          rw [if_neg c10] at h
          have c10b0 : (n == 0) = false := beq_eq_false_iff_ne.mpr c10
          clear c10
          obtain ⟨q, h1, h⟩ := Option.bind_eq_some_iff.mp h
          have A4 := Aside0.mk h1
          clear h1
          cases q with
          | false =>
            rw [if_neg (by decide)] at h
            obtain ⟨rfl, rfl⟩ := Prod.mk.inj (Option.some.inj h)
            clear h
            go_enter Tryd.func8, Tryd.ntmps8
            go_wp2_with (go_at_call 38; (with_reducible refine (impl_inRange.calls a1 0 (wrap64 ((a0.size : Int) - 1)) true _ HR.out).mono ?_); rintro e w1 ⟨rfl, ⟨nd, rfl⟩⟩)
            go_wp2_with (go_at_call 39; (with_reducible refine (impl_namedRef.calls (a0.extract (a1 : Int).toNat a0.size) z n1 _ A1.out).mono ?_); rintro e w2 ⟨rfl, b1⟩; have B1 := Aside0.mk (below_step (by repeat (first | (with_reducible first | exact HB.out | apply below_alloc | apply pw_below_drewN | apply below_drew1) | exact HB.out)) b1); clear b1)
            go_wp2_with (go_at_call 40; (with_reducible refine (strings_CutPrefix.calls (a0.extract (a1 : Int).toNat a0.size) (⟨#[38, 35]⟩ : ByteArray) y true _ A2.out).mono ?_); rintro e w3 ⟨rfl, ⟨nd3, rfl⟩⟩)
            go_wp2_with (go_at_call 41; (with_reducible refine (bu_IndexByte y 59 e _ N1.out).mono ?_); rintro e5 w4 ⟨rfl, rfl⟩)
            go_wp2_with (go_at_call 38; (with_reducible refine (impl_inRange.calls e 1 7 true _ A3.out).mono ?_); rintro e6 w5 ⟨rfl, ⟨nd5, rfl⟩⟩)
            go_wp2_with (go_at_call 42; (with_reducible refine (bu_Atoi_ok (y.extract 0 e.toNat) n _ S6.out HA.out).mono ?_); rintro e7 w6 ⟨rfl, b2⟩; have B2 := Aside0.mk (below_step (by repeat (first | (with_reducible first | exact B1.out | apply below_alloc | apply pw_below_drewN | apply below_drew1) | exact B1.out)) b2); clear b2)
            have cI : ∀ d os, Calls Tryd.prog 43 #[.int .i64 n] (Go.Sort.grow (redrawn w6 d) os) fun e w'' => e = .returned (.string s) ∧ ∃ p : Regrown, w'' = Go.Sort.grow (redrawn w6 p.d) p.os := fun d os => Calls.regrown_of (bu_Itoa n _ S7.out S8.out (X0.out.below (below_step B2.out (below_regrown w6 d os))) s HS.out)
            have cT : ∀ d os, Calls Tryd.prog 44 #[.int .i64 n] (Go.Sort.grow (redrawn w6 d) os) fun e w'' => e = .returned (.bool false) ∧ ∃ p : Regrown, w'' = Go.Sort.grow (redrawn w6 p.d) p.os := fun d os => Calls.regrown_of ((impl_IsText.calls n false _ A4.out).mono fun _ _ hq => ⟨hq.1, by obtain ⟨nd, hw⟩ := hq.2; rw [hw]; exact pw_below_drewN (Below.refl _ _) _⟩)
            go_wp2
            refine wp_region_quiet_below hmix (by kernel_rfl) ?_
            repeat (quiet_step (first | exact cI _ _ | exact cT _ _))
            refine wpQuiet_nil ?_
            intro _ hw'
            obtain ⟨⟨dq, osq⟩, hw''⟩ := hw'
            subst hw''
            have B3 := Aside0.mk (below_step B2.out (below_regrown _ dq osq))
            go_wp2
            go_ret2
            exact ⟨rfl, (by repeat (first | (with_reducible first | exact B3.out | apply below_alloc | apply pw_below_drewN | apply below_drew1) | exact B3.out))⟩
          | true =>
            rw [if_pos rfl] at h
            obtain ⟨rr, h1, h⟩ := Option.bind_eq_some_iff.mp h
            have A5 := Aside0.mk h1
            clear h1
            obtain ⟨rfl, rfl⟩ := Prod.mk.inj (Option.some.inj h)
            clear h
            go_enter Tryd.func8, Tryd.ntmps8
            go_wp2_with (go_at_call 38; (with_reducible refine (impl_inRange.calls a1 0 (wrap64 ((a0.size : Int) - 1)) true _ HR.out).mono ?_); rintro e w1 ⟨rfl, ⟨nd, rfl⟩⟩)
            go_wp2_with (go_at_call 39; (with_reducible refine (impl_namedRef.calls (a0.extract (a1 : Int).toNat a0.size) z n1 _ A1.out).mono ?_); rintro e w2 ⟨rfl, b1⟩; have B1 := Aside0.mk (below_step (by repeat (first | (with_reducible first | exact HB.out | apply below_alloc | apply pw_below_drewN | apply below_drew1) | exact HB.out)) b1); clear b1)
            go_wp2_with (go_at_call 40; (with_reducible refine (strings_CutPrefix.calls (a0.extract (a1 : Int).toNat a0.size) (⟨#[38, 35]⟩ : ByteArray) y true _ A2.out).mono ?_); rintro e w3 ⟨rfl, ⟨nd3, rfl⟩⟩)
            go_wp2_with (go_at_call 41; (with_reducible refine (bu_IndexByte y 59 e _ N1.out).mono ?_); rintro e5 w4 ⟨rfl, rfl⟩)
            go_wp2_with (go_at_call 38; (with_reducible refine (impl_inRange.calls e 1 7 true _ A3.out).mono ?_); rintro e6 w5 ⟨rfl, ⟨nd5, rfl⟩⟩)
            go_wp2_with (go_at_call 42; (with_reducible refine (bu_Atoi_ok (y.extract 0 e.toNat) n _ S6.out HA.out).mono ?_); rintro e7 w6 ⟨rfl, b2⟩; have B2 := Aside0.mk (below_step (by repeat (first | (with_reducible first | exact B1.out | apply below_alloc | apply pw_below_drewN | apply below_drew1) | exact B1.out)) b2); clear b2)
            have cI : ∀ d os, Calls Tryd.prog 43 #[.int .i64 n] (Go.Sort.grow (redrawn w6 d) os) fun e w'' => e = .returned (.string s) ∧ ∃ p : Regrown, w'' = Go.Sort.grow (redrawn w6 p.d) p.os := fun d os => Calls.regrown_of (bu_Itoa n _ S7.out S8.out (X0.out.below (below_step B2.out (below_regrown w6 d os))) s HS.out)
            have cT : ∀ d os, Calls Tryd.prog 44 #[.int .i64 n] (Go.Sort.grow (redrawn w6 d) os) fun e w'' => e = .returned (.bool true) ∧ ∃ p : Regrown, w'' = Go.Sort.grow (redrawn w6 p.d) p.os := fun d os => Calls.regrown_of ((impl_IsText.calls n true _ A4.out).mono fun _ _ hq => ⟨hq.1, by obtain ⟨nd, hw⟩ := hq.2; rw [hw]; exact pw_below_drewN (Below.refl _ _) _⟩)
            go_wp2
            refine wp_region_quiet_below hmix (by kernel_rfl) ?_
            repeat (quiet_step (first | exact cI _ _ | exact cT _ _))
            refine wpQuiet_nil ?_
            intro _ hw'
            obtain ⟨⟨dq, osq⟩, hw''⟩ := hw'
            subst hw''
            have B3 := Aside0.mk (below_step B2.out (below_regrown _ dq osq))
            go_wp2_with (go_at_call 45; (with_reducible refine (impl_PutSign.calls k n rr _ A5.out).mono ?_); rintro e8 w7 ⟨rfl, b4⟩; have B4 := Aside0.mk (below_step (by repeat (first | (with_reducible first | exact B3.out | apply below_alloc | apply pw_below_drewN | apply below_drew1) | exact B3.out)) b4); clear b4)
            go_wp2
            go_ret2
            exact ⟨rfl, (by repeat (first | (with_reducible first | exact B4.out | apply below_alloc | apply pw_below_drewN | apply below_drew1) | exact B4.out))⟩


end Go.Proofs.YtgljgbkbjlondaaDoor.P
