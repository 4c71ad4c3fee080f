-- WRITTEN BY this session's own programs
import Derived.Test.YtekkalnafngfeaaGreatPt27
import Derived.Test.YtekkalnafngfeaaGreatPt3
namespace Go.Proofs.YtekkalnafngfeaaGreat.P
open Go.RowKit Go.Proofs.YtekkalnafngfeaaGreatW.PrintWords Go.Proofs.YtekkalnafngfeaaGreatW.PrintLast Go.Proofs.YtekkalnafngfeaaGreatW.PrintMore
set_option linter.unusedVariables false
set_option linter.unusedSimpArgs false
set_option maxHeartbeats 8000000
set_option maxRecDepth 100000
attribute [local go_sem] max2_int min2_int max_two min_two max_three min_three max_four min_four
mutual
def spec_TreeOk.j0 : Nat → List (S53) → Bool → Option (Bool)
 | 0, _, _ => none
 | k + 1, x0, x14 => if x14 = true then (some false) else (spec_TreeOk.l0 k x0 0)
def spec_TreeOk.l0 : Nat → List (S53) → Int → Option (Bool)
 | 0, _, _ => none
 | k + 1, x0, x3 => if x3 < (x0.length : Int) then (if 0 ≤ x3 then ((spec_l6Plain.f k ((rd_T53 x0 x3).f0) ((rd_T53 x0 x3).f1) ((rd_T53 x0 x3).f2) ((rd_T53 x0 x3).f3) ((rd_T53 x0 x3).f4) ((rd_T53 x0 x3).f5) ((rd_T53 x0 x3).f6)).bind fun t148 => (if t148 = true then (if x3 > 0 then (if ((rd_T53 x0 x3).f0) = 1 then (some false) else (spec_TreeOk.l0 k x0 (wrap64 (x3 + 1)))) else (spec_TreeOk.l0 k x0 (wrap64 (x3 + 1)))) else (some false))) else (none)) else ((spec_l6Links.f k x0).bind fun t150 => (if t150 = true then ((spec_l6Order.f k x0 0 (([] : List Int))).bind fun t154 => (some ((t154.length : Int) == (x0.length : Int)))) else (some false)))
end
def spec_TreeOk.f (k : Nat) (l0 : List (S53)) : Option (Bool) := (spec_l1In.f (l0.length : Int) 1 3000).bind fun t145 => (if t145 = true then (if 0 < (l0.length : Int) then (spec_TreeOk.j0 k l0 (((rd_T53 l0 0).f0) != 1)) else (none)) else (spec_TreeOk.j0 k l0 true))
theorem spec_TreeOk.calls (k : Nat) (A0 : Option Addr) (c0 : Nat) (l0 : List (S53)) (r : Bool) (w : World) (hr0 : Kd.C k53 w A0 l0.length l0) (hc0 : l0.length ≤ c0) (h : spec_TreeOk.f k l0 = some r) :
  Calls Tryz.prog 50 #[.slice A0 l0.length c0] w fun e w' => e = .returned (.bool r) ∧ Below w.heap.size w w' := by
 have hu53 := Tryz.underlying53
 have HR0 := am hr0
 have HC0 := am hc0
 clear hr0 hc0
 have HB := am (Below.refl w.heap.size w)
 have H : ((spec_l1In.f (l0.length : Int) 1 3000).bind fun t145 => (if t145 = true then (if 0 < (l0.length : Int) then (spec_TreeOk.j0 k l0 (((rd_T53 l0 0).f0) != 1)) else (none)) else (spec_TreeOk.j0 k l0 true))) = some r := h
 clear h
 have HC2 := am H
 clear H
 go_enter Tryz.func50, Tryz.ntmps50
 go_upto_region 1 with (fail)
 go_cut [14] (fun v14 wc => ∃ (kq : Nat) (x14_1 : Bool), v14 = .bool x14_1 ∧ Aside0 (spec_TreeOk.j0 kq l0 x14_1 = some r) ∧ Aside0 (kq ≤ k) ∧ Aside0 (Below w.heap.size w wc))
 case first =>
  have H := HC2.out
  clear HC2
  replace H := bi_ H; obtain ⟨t145, A3, H⟩ := H
  replace H := ib_ H; rcases H with ⟨rfl, H⟩ | ⟨rfl, H⟩
  ·by_cases c5 : 0 < (l0.length : Int)
   case neg => rw [if_neg c5] at H; exact absurd H (by simp)
   rw [if_pos c5] at H
   have c5b0 := decide_eq_true c5
   have c5b1 : decide (0 < l0.length) = true := decide_eq_true (by omega)
   clear c5
   (first | rw [c5b0] | (simp only [i64_w, i32_w]; rw [c5b0]) | skip)
   (try (generalize hgzc5 : decide (0 < (l0.length : Int)) = bqc5 at *; subst c5b0; have c5b0 := hgzc5; clear hgzc5))
   have H' := am H
   clear H
   go_wp2_with (first | ((with_reducible refine gf_ 77 ?_); refine gc_ Tryz.func77 (spec_l1In.calls (l0.length : Int) 1 3000 true _ A3.out) ?_; rintro w' ⟨nd, rfl⟩; have p146 : 0 ≤ (0 : Int) := (by omega); have q146 : 0 < (l0.length : Int) := of_decide_eq_true ab4; obtain ⟨ad146, A146_3, c146_3, A146_6, c146_6, e146, hx146_0, hx146_1, hx146_2, hx146_3, hx146_4, hx146_5, hx146_6, hl146_3, hi146_3, hl146_6, hi146_6⟩ := at_T53 HR0.out 0 p146 q146; cases e146; have qi146 : (0 < l0.length) = True := eq_true (by omega); (try rw [show ((0 : Int)).toNat = 0 from rfl] at hx146_0); (try rw [show 0 * 7 = 0 from rfl] at hx146_0); (try rw [Addr.add_zero'] at hx146_0); (try rw [show ((0 : Int)).toNat = 0 from rfl] at hx146_1); (try rw [show 0 * 7 = 0 from rfl] at hx146_1); (try rw [Addr.add_zero'] at hx146_1); (try rw [show ((0 : Int)).toNat = 0 from rfl] at hx146_2); (try rw [show 0 * 7 = 0 from rfl] at hx146_2); (try rw [Addr.add_zero'] at hx146_2); (try rw [show ((0 : Int)).toNat = 0 from rfl] at hx146_3); (try rw [show 0 * 7 = 0 from rfl] at hx146_3); (try rw [Addr.add_zero'] at hx146_3); (try rw [show ((0 : Int)).toNat = 0 from rfl] at hx146_4); (try rw [show 0 * 7 = 0 from rfl] at hx146_4); (try rw [Addr.add_zero'] at hx146_4); (try rw [show ((0 : Int)).toNat = 0 from rfl] at hx146_5); (try rw [show 0 * 7 = 0 from rfl] at hx146_5); (try rw [Addr.add_zero'] at hx146_5); (try rw [show ((0 : Int)).toNat = 0 from rfl] at hx146_6); (try rw [show 0 * 7 = 0 from rfl] at hx146_6); (try rw [Addr.add_zero'] at hx146_6); replace hx146_0 := pc_ HB hx146_0; replace hx146_1 := pc_ HB hx146_1; replace hx146_2 := pc_ HB hx146_2; replace hx146_3 := pc_ HB hx146_3; replace hx146_4 := pc_ HB hx146_4; replace hx146_5 := pc_ HB hx146_5; replace hx146_6 := pc_ HB hx146_6; have HR146_3 := am hi146_3; have HC146_3 := am hl146_3; clear hi146_3 hl146_3; have HR146_6 := am hi146_6; have HC146_6 := am hl146_6; clear hi146_6 hl146_6; replace p146 := eq_true p146; replace q146 := eq_true q146))
   go_meet
   case rel => exact ⟨_, ((((rd_T53 l0 0).f0) != 1)), ab6, (by first | exact H' | (have h_ := H'.out; rw [c5b0] at h_; exact ⟨h_⟩)), ⟨by first | omega | exact Nat.le_refl _⟩, ⟨ab1⟩⟩
  ·have H' := am H
   clear H
   go_wp2_with (first | ((with_reducible refine gf_ 77 ?_); refine gc_ Tryz.func77 (spec_l1In.calls (l0.length : Int) 1 3000 false _ A3.out) ?_; rintro w' ⟨nd, rfl⟩))
   go_meet
   case rel => exact ⟨_, (true), ab6, H', ⟨by first | omega | exact Nat.le_refl _⟩, ⟨ab1⟩⟩
 case rest =>
  clear HC2
  (try clear c1); (try clear p1); (try clear q1); (try clear hx1); (try clear qi1); (try clear p2); (try clear c4); (try clear c5); (try clear c5b0); (try clear c5b1); (try clear hx146_0); (try clear hx146_1); (try clear hx146_2); (try clear hx146_3); (try clear hx146_4); (try clear hx146_5); (try clear hx146_6); (try clear p146); (try clear q146)
  obtain ⟨kq, x14_1, rfl, HA, HJ1, HB⟩ := hcut
  cases kq with
  | zero => exact absurd HA.out (by simp [spec_TreeOk.j0])
  | succ kj1 =>
   have H := HA.out
   clear HA
   simp only [spec_TreeOk.j0] at H
   replace H := ib_ H; rcases H with ⟨rfl, H⟩ | ⟨rfl, H⟩
   ·obtain rfl := Option.some.inj H
    go_wp2
    go_ret
    exact ⟨ab7, ab1⟩
   ·have H' := am H
    clear H
    go_wp2
    go_loopg [3] kj1 (fun kq v3 w' => ∃ (x3_2 : Int), v3 = .int .i64 x3_2 ∧ Aside0 (spec_TreeOk.l0 kq l0 x3_2 = some r) ∧ Aside0 (kq ≤ kj1) ∧ Aside0 (Below w.heap.size w w'))
    case atStart => exact ⟨(0), ab6, H', ⟨Nat.le_refl _⟩, ⟨ab1⟩⟩
    case round =>
     clear H'
     (try clear c1); (try clear p1); (try clear q1); (try clear hx1); (try clear qi1); (try clear p2); (try clear c4); (try clear c5); (try clear c5b0); (try clear c5b1); (try clear c6); (try clear hx146_0); (try clear hx146_1); (try clear hx146_2); (try clear hx146_3); (try clear hx146_4); (try clear hx146_5); (try clear hx146_6); (try clear p1); (try clear p146); (try clear p2); (try clear q1); (try clear q146)
     obtain ⟨x3_2, rfl, HA, HK2, HB⟩ := hrel
     cases gk with
     | zero => exact absurd HA.out (by simp [spec_TreeOk.l0])
     | succ k2 =>
      have H := HA.out
      clear HA
      simp only [spec_TreeOk.l0] at H
      replace H := ir_ H; rcases H with ⟨c7b0, H⟩ | ⟨c7b0, H⟩
      ·replace H := iq_ H; obtain ⟨c8b0, H⟩ := H
       replace H := bi_ H; obtain ⟨t148, A9, H⟩ := H
       replace H := ib_ H; rcases H with ⟨rfl, H⟩ | ⟨rfl, H⟩
       ·by_cases c11 : x3_2 > 0
        ·rw [if_pos c11] at H
         have c11b0 : decide (0 < x3_2) = true := decide_eq_true c11
         clear c11
         replace H := ie_ H; rcases H with ⟨c12b0, c12b1, H⟩ | ⟨c12, c12b0, c12b1, H⟩
         ·obtain rfl := Option.some.inj H
          obtain ⟨p147, q147, ad147, A147_3, c147_3, A147_6, c147_6, rfl, hx147_0, hx147_1, hx147_2, hx147_3, hx147_4, hx147_5, hx147_6, HC147_3, HR147_3, HC147_6, HR147_6⟩ := otT53 HB HR0.out x3_2 (of_decide_eq_true ab4) (of_decide_eq_true ab4)
          go_wp2_with (first | ((with_reducible refine gf_ 78 ?_); refine gc_ Tryz.func78 (spec_l6Plain.calls k2 ((rd_T53 l0 x3_2).f0) ((rd_T53 l0 x3_2).f1) ((rd_T53 l0 x3_2).f2) _ _ ((rd_T53 l0 x3_2).f3) ((rd_T53 l0 x3_2).f4) ((rd_T53 l0 x3_2).f5) _ _ ((rd_T53 l0 x3_2).f6) true _ (sc_ HR147_3) HC147_3.out (sc_ HR147_6) HC147_6.out A9.out) ?_; rintro w13 hb; replace HB := am (below_step ab1 hb); (try clear hb); have p149 : 0 ≤ (x3_2 : Int) := of_decide_eq_true ab4; have q149 : x3_2 < (l0.length : Int) := of_decide_eq_true ab4; obtain ⟨ad149, A149_3, c149_3, A149_6, c149_6, e149, hx149_0, hx149_1, hx149_2, hx149_3, hx149_4, hx149_5, hx149_6, hl149_3, hi149_3, hl149_6, hi149_6⟩ := at_T53 HR0.out x3_2 p149 q149; obtain rfl : ad147 = ad149 := (by injection e149); replace hx149_0 := pc_ HB hx149_0; replace hx149_1 := pc_ HB hx149_1; replace hx149_2 := pc_ HB hx149_2; replace hx149_3 := pc_ HB hx149_3; replace hx149_4 := pc_ HB hx149_4; replace hx149_5 := pc_ HB hx149_5; replace hx149_6 := pc_ HB hx149_6; have HR149_3 := am hi149_3; have HC149_3 := am hl149_3; clear hi149_3 hl149_3; have HR149_6 := am hi149_6; have HC149_6 := am hl149_6; clear hi149_6 hl149_6; replace p149 := eq_true p149; replace q149 := eq_true q149))
          go_ret
          exact ⟨ab7, ab1⟩
         ·have H' := am H
          clear H
          obtain ⟨p147, q147, ad147, A147_3, c147_3, A147_6, c147_6, rfl, hx147_0, hx147_1, hx147_2, hx147_3, hx147_4, hx147_5, hx147_6, HC147_3, HR147_3, HC147_6, HR147_6⟩ := otT53 HB HR0.out x3_2 (of_decide_eq_true ab4) (of_decide_eq_true ab4)
          go_wp2_with (first | ((with_reducible refine gf_ 78 ?_); refine gc_ Tryz.func78 (spec_l6Plain.calls k2 ((rd_T53 l0 x3_2).f0) ((rd_T53 l0 x3_2).f1) ((rd_T53 l0 x3_2).f2) _ _ ((rd_T53 l0 x3_2).f3) ((rd_T53 l0 x3_2).f4) ((rd_T53 l0 x3_2).f5) _ _ ((rd_T53 l0 x3_2).f6) true _ (sc_ HR147_3) HC147_3.out (sc_ HR147_6) HC147_6.out A9.out) ?_; rintro w14 hb; replace HB := am (below_step ab1 hb); (try clear hb); have p149 : 0 ≤ (x3_2 : Int) := of_decide_eq_true ab4; have q149 : x3_2 < (l0.length : Int) := of_decide_eq_true ab4; obtain ⟨ad149, A149_3, c149_3, A149_6, c149_6, e149, hx149_0, hx149_1, hx149_2, hx149_3, hx149_4, hx149_5, hx149_6, hl149_3, hi149_3, hl149_6, hi149_6⟩ := at_T53 HR0.out x3_2 p149 q149; obtain rfl : ad147 = ad149 := (by injection e149); replace hx149_0 := pc_ HB hx149_0; replace hx149_1 := pc_ HB hx149_1; replace hx149_2 := pc_ HB hx149_2; replace hx149_3 := pc_ HB hx149_3; replace hx149_4 := pc_ HB hx149_4; replace hx149_5 := pc_ HB hx149_5; replace hx149_6 := pc_ HB hx149_6; have HR149_3 := am hi149_3; have HC149_3 := am hl149_3; clear hi149_3 hl149_3; have HR149_6 := am hi149_6; have HC149_6 := am hl149_6; clear hi149_6 hl149_6; replace p149 := eq_true p149; replace q149 := eq_true q149))
          go_roundg k2
          case measure => have := HJ1.out; have := HK2.out; omega
          case rel => exact ⟨(wrap64 (x3_2 + 1)), ab6, H', ⟨by have := HJ1.out; have := HK2.out; omega⟩, ⟨ab1⟩⟩
        ·rw [if_neg c11] at H
         have c11b0 : decide (0 < x3_2) = false := decide_eq_false c11
         clear c11
         have H' := am H
         clear H
         obtain ⟨p147, q147, ad147, A147_3, c147_3, A147_6, c147_6, rfl, hx147_0, hx147_1, hx147_2, hx147_3, hx147_4, hx147_5, hx147_6, HC147_3, HR147_3, HC147_6, HR147_6⟩ := otT53 HB HR0.out x3_2 (of_decide_eq_true ab4) (of_decide_eq_true ab4)
         go_wp2_with (first | ((with_reducible refine gf_ 78 ?_); refine gc_ Tryz.func78 (spec_l6Plain.calls k2 ((rd_T53 l0 x3_2).f0) ((rd_T53 l0 x3_2).f1) ((rd_T53 l0 x3_2).f2) _ _ ((rd_T53 l0 x3_2).f3) ((rd_T53 l0 x3_2).f4) ((rd_T53 l0 x3_2).f5) _ _ ((rd_T53 l0 x3_2).f6) true _ (sc_ HR147_3) HC147_3.out (sc_ HR147_6) HC147_6.out A9.out) ?_; rintro w15 hb; replace HB := am (below_step ab1 hb); (try clear hb)))
         go_roundg k2
         case measure => have := HJ1.out; have := HK2.out; omega
         case rel => exact ⟨(wrap64 (x3_2 + 1)), ab6, H', ⟨by have := HJ1.out; have := HK2.out; omega⟩, ⟨ab1⟩⟩
       ·obtain rfl := Option.some.inj H
        obtain ⟨p147, q147, ad147, A147_3, c147_3, A147_6, c147_6, rfl, hx147_0, hx147_1, hx147_2, hx147_3, hx147_4, hx147_5, hx147_6, HC147_3, HR147_3, HC147_6, HR147_6⟩ := otT53 HB HR0.out x3_2 (of_decide_eq_true ab4) (of_decide_eq_true ab4)
        go_wp2_with (first | ((with_reducible refine gf_ 78 ?_); refine gc_ Tryz.func78 (spec_l6Plain.calls k2 ((rd_T53 l0 x3_2).f0) ((rd_T53 l0 x3_2).f1) ((rd_T53 l0 x3_2).f2) _ _ ((rd_T53 l0 x3_2).f3) ((rd_T53 l0 x3_2).f4) ((rd_T53 l0 x3_2).f5) _ _ ((rd_T53 l0 x3_2).f6) false _ (sc_ HR147_3) HC147_3.out (sc_ HR147_6) HC147_6.out A9.out) ?_; rintro w16 hb; replace HB := am (below_step ab1 hb); (try clear hb)))
        go_ret
        exact ⟨ab7, ab1⟩
      ·replace H := bi_ H; obtain ⟨t150, A17, H⟩ := H
       replace H := ib_ H; rcases H with ⟨rfl, H⟩ | ⟨rfl, H⟩
       ·obtain ⟨y151, hy151⟩ : ∃ y_ : List Int, y_ = (([] : List Int)) := ⟨_, rfl⟩
        replace H : ((spec_l6Order.f k2 l0 0 y151).bind fun t154 => (some ((t154.length : Int) == (l0.length : Int)))) = some r := by first | (rw [hy151]; with_reducible exact H) | (have H2_ := (Option.bind_some _ _).symm.trans H; rw [hy151]; with_reducible exact H2_) | (have H2_ := (Option.bind_some _ _).symm.trans H; with_reducible exact H2_) | with_reducible exact H | (rw [hy151]; exact H) | exact H
        have Ny151 := am hy151
        clear hy151
        replace H := bi_ H; obtain ⟨t154, A19, H⟩ := H
        obtain rfl := Option.some.inj H
        go_wp2_with (first | ((with_reducible refine gf_ 79 ?_); refine gc_ Tryz.func79 (spec_l6Links.calls k2 _ _ l0 true _ (sc_ HR0) HC0.out A17.out) ?_; rintro w' ⟨nd, rfl⟩) | ((with_reducible refine gate_dst (N := 43) rfl ?_); (try (refine gate_guard (by rfl) ?_; dsimp only)); refine Kd.R_lit (Kd.int .i64) _ 3 ?hg (N := 43) ?hd (xs := ([] : List Int)) (inner := []) (ok := fun _ => True) (okp := fun _ => True) ?hr ?hp (fun _ hk => hk) trivial (Below.refl _ _) (Nat.le_refl _) (by simp) ?_; (case hd => rfl); (case hg => rfl); (case hr => first | (go_simp; done) | (go_simp; rfl)); (case hp => exact (Reps.none _ _)); intro v152 w20 ho21 hb hg_ hnew_; clear hg_ hnew_; (first | rw [← Ny151.out] at ho21 | (simp only [Int.reduceToNat] at ho21; rw [← Ny151.out] at ho21)); have HO153 := am (Kd.R_lower ho21 (below_size ab1)); replace HB := am (below_step ab1 hb); clear hb ho21; obtain ⟨Ao22, co22, eo22⟩ := Kd.R_slice HO153.out; subst eo22) | (go_at_call 80; (with_reducible refine (spec_l6Order.calls k2 _ _ l0 0 (fun k_ => some k_ = (.slice Ao22 y151.length co22 : Value).ownBlock) (.slice Ao22 y151.length co22) y151 t154 w _ ?side1 (Kd.C_kept_came k53_heap HR0.out ab1 (fun k_ hs_ => (fun e_ => Kd.R_base HO153.out k_ e_.symm) hs_)) HC0.out (Kd.R_tight rfl HO153.out) A19.out).mono ?_); (case side1 => exact (by repeat (first | (with_reducible first | exact HB.out | apply below_alloc | apply pw_below_drewN | apply below_drew1) | exact HB.out))); rintro e w23 ⟨v155, rfl, ho0, hb, hkp⟩; have HO156 := am (Kd.R_mono (ok' := fun k_ => True) ho0 (fun k_ hk_ => trivial)); replace HB := am hb; clear HO153; (try clear hb); (try clear hkp); (try clear ho0); obtain ⟨Ao24, co24, eo24⟩ := Kd.R_slice HO156.out; subst eo24))
        go_ret
        exact ⟨ab7, ab1⟩
       ·obtain rfl := Option.some.inj H
        go_wp2_with (first | ((with_reducible refine gf_ 79 ?_); refine gc_ Tryz.func79 (spec_l6Links.calls k2 _ _ l0 false _ (sc_ HR0) HC0.out A17.out) ?_; rintro w' ⟨nd, rfl⟩))
        go_ret
        exact ⟨ab7, ab1⟩
def spec_l8Tag.f (l0 : List (S53)) (a1 : Int) (a2 : ByteArray) : Option (Bool) := (spec_l1In.f a1 0 (wrap64 ((l0.length : Int) - 1))).bind fun t157 => (if t157 = true then (if 0 ≤ a1 then (if a1 < (l0.length : Int) then (if ((rd_T53 l0 a1).f0) = 2 then (if a2.toList = ([] : List UInt8) then (some true) else (some (((rd_T53 l0 a1).f2).toList == a2.toList))) else (some false)) else (none)) else (none)) else (some false))
theorem spec_l8Tag.calls (A0 : Option Addr) (c0 : Nat) (l0 : List (S53)) (a1 : Int) (a2 : ByteArray) (r : Bool) (w : World) (hr0 : Kd.C k53 w A0 l0.length l0) (hc0 : l0.length ≤ c0) (h : spec_l8Tag.f l0 a1 a2 = some r) :
  Calls Tryz.prog 51 #[.slice A0 l0.length c0, .int .i64 a1, .string a2] w fun e w' => e = .returned (.bool r) ∧ Drawn0 w w' := by
 have HR0 := am hr0
 have HC0 := am hc0
 clear hr0 hc0
 have H : ((spec_l1In.f a1 0 (wrap64 ((l0.length : Int) - 1))).bind fun t157 => (if t157 = true then (if 0 ≤ a1 then (if a1 < (l0.length : Int) then (if ((rd_T53 l0 a1).f0) = 2 then (if a2.toList = ([] : List UInt8) then (some true) else (some (((rd_T53 l0 a1).f2).toList == a2.toList))) else (some false)) else (none)) else (none)) else (some false))) = some r := h
 clear h
 replace H := bi_ H; obtain ⟨t157, A4, H⟩ := H
 replace H := ib_ H; rcases H with ⟨rfl, H⟩ | ⟨rfl, H⟩
 ·replace H := iq_ H; obtain ⟨c6b0, H⟩ := H
  replace H := iq_ H; obtain ⟨c7b0, H⟩ := H
  replace H := ie_ H; rcases H with ⟨c8b0, c8b1, H⟩ | ⟨c8, c8b0, c8b1, H⟩
  ·replace H := ie_ H; rcases H with ⟨c9b0, c9b1, H⟩ | ⟨c9, c9b0, c9b1, H⟩
   ·obtain rfl := Option.some.inj H
    go_enter Tryz.func51, Tryz.ntmps51
    go_wp2_with (first | ((with_reducible refine gf_ 77 ?_); refine gc_ Tryz.func77 (spec_l1In.calls a1 0 (wrap64 ((l0.length : Int) - 1)) true _ A4.out) ?_; rintro w' ⟨nd, rfl⟩; have p158 : 0 ≤ (a1 : Int) := of_decide_eq_true ab4; have q158 : a1 < (l0.length : Int) := of_decide_eq_true ab4; obtain ⟨ad158, A158_3, c158_3, A158_6, c158_6, e158, hx158_0, hx158_1, hx158_2, hx158_3, hx158_4, hx158_5, hx158_6, hl158_3, hi158_3, hl158_6, hi158_6⟩ := at_T53 HR0.out a1 p158 q158; cases e158; have HR158_3 := am hi158_3; have HC158_3 := am hl158_3; clear hi158_3 hl158_3; have HR158_6 := am hi158_6; have HC158_6 := am hl158_6; clear hi158_6 hl158_6; replace p158 := eq_true p158; replace q158 := eq_true q158))
    go_ret
    exact ⟨ab6, by repeat (first | exact Drawn0.refl _ | apply Drawn0.step)⟩
   ·obtain rfl := Option.some.inj H
    go_enter Tryz.func51, Tryz.ntmps51
    go_wp2_with (first | ((with_reducible refine gf_ 77 ?_); refine gc_ Tryz.func77 (spec_l1In.calls a1 0 (wrap64 ((l0.length : Int) - 1)) true _ A4.out) ?_; rintro w' ⟨nd, rfl⟩; have p158 : 0 ≤ (a1 : Int) := of_decide_eq_true ab4; have q158 : a1 < (l0.length : Int) := of_decide_eq_true ab4; obtain ⟨ad158, A158_3, c158_3, A158_6, c158_6, e158, hx158_0, hx158_1, hx158_2, hx158_3, hx158_4, hx158_5, hx158_6, hl158_3, hi158_3, hl158_6, hi158_6⟩ := at_T53 HR0.out a1 p158 q158; cases e158; have HR158_3 := am hi158_3; have HC158_3 := am hl158_3; clear hi158_3 hl158_3; have HR158_6 := am hi158_6; have HC158_6 := am hl158_6; clear hi158_6 hl158_6; replace p158 := eq_true p158; replace q158 := eq_true q158; have p159 : 0 ≤ (a1 : Int) := of_decide_eq_true ab4; have q159 : a1 < (l0.length : Int) := of_decide_eq_true ab4; obtain ⟨ad159, A159_3, c159_3, A159_6, c159_6, e159, hx159_0, hx159_1, hx159_2, hx159_3, hx159_4, hx159_5, hx159_6, hl159_3, hi159_3, hl159_6, hi159_6⟩ := at_T53 HR0.out a1 p159 q159; obtain rfl : ad158 = ad159 := (by injection e159); have HR159_3 := am hi159_3; have HC159_3 := am hl159_3; clear hi159_3 hl159_3; have HR159_6 := am hi159_6; have HC159_6 := am hl159_6; clear hi159_6 hl159_6; replace p159 := eq_true p159; replace q159 := eq_true q159; have ea_ := Option.some.inj (hx158_3.symm.trans hx159_3); injection ea_ with ea_ en_ ec_; subst ea_; subst ec_; clear en_; have ea_ := Option.some.inj (hx158_6.symm.trans hx159_6); injection ea_ with ea_ en_ ec_; subst ea_; subst ec_; clear en_))
    go_ret
    exact ⟨ab6, by repeat (first | exact Drawn0.refl _ | apply Drawn0.step)⟩
  ·obtain rfl := Option.some.inj H
   go_enter Tryz.func51, Tryz.ntmps51
   go_wp2_with (first | ((with_reducible refine gf_ 77 ?_); refine gc_ Tryz.func77 (spec_l1In.calls a1 0 (wrap64 ((l0.length : Int) - 1)) true _ A4.out) ?_; rintro w' ⟨nd, rfl⟩; have p158 : 0 ≤ (a1 : Int) := of_decide_eq_true ab4; have q158 : a1 < (l0.length : Int) := of_decide_eq_true ab4; obtain ⟨ad158, A158_3, c158_3, A158_6, c158_6, e158, hx158_0, hx158_1, hx158_2, hx158_3, hx158_4, hx158_5, hx158_6, hl158_3, hi158_3, hl158_6, hi158_6⟩ := at_T53 HR0.out a1 p158 q158; cases e158; have HR158_3 := am hi158_3; have HC158_3 := am hl158_3; clear hi158_3 hl158_3; have HR158_6 := am hi158_6; have HC158_6 := am hl158_6; clear hi158_6 hl158_6; replace p158 := eq_true p158; replace q158 := eq_true q158))
   go_ret
   exact ⟨ab6, by repeat (first | exact Drawn0.refl _ | apply Drawn0.step)⟩
 ·obtain rfl := Option.some.inj H
  go_enter Tryz.func51, Tryz.ntmps51
  go_wp2_with (first | ((with_reducible refine gf_ 77 ?_); refine gc_ Tryz.func77 (spec_l1In.calls a1 0 (wrap64 ((l0.length : Int) - 1)) false _ A4.out) ?_; rintro w' ⟨nd, rfl⟩))
  go_ret
  exact ⟨ab6, by repeat (first | exact Drawn0.refl _ | apply Drawn0.step)⟩
def spec_l7Is.l0 : Nat → ByteArray → List ByteArray → Int → Option (Bool)
 | 0, _, _, _ => none
 | k + 1, x0, x1, x5 => if x5 < (x1.length : Int) then (if 0 ≤ x5 then (if (rdOf ByteArray.empty x1 x5).toList = x0.toList then (some true) else (spec_l7Is.l0 k x0 x1 (wrap64 (x5 + 1)))) else (none)) else (some false)
def spec_l7Is.f (k : Nat) (a0 : ByteArray) (l1 : List ByteArray) : Option (Bool) := spec_l7Is.l0 k a0 l1 0
theorem spec_l7Is.calls (k : Nat) (a0 : ByteArray) (A1 : Option Addr) (c1 : Nat) (l1 : List ByteArray) (r : Bool) (w : World) (hr1 : Kd.C Kd.string w A1 l1.length l1) (hc1 : l1.length ≤ c1) (h : spec_l7Is.f k a0 l1 = some r) :
  Calls Tryz.prog 81 #[.string a0, .slice A1 l1.length c1] w fun e w' => e = .returned (.bool r) ∧ Drawn0 w w' := by
 have HR1 := am hr1
 have HC1 := am hc1
 clear hr1 hc1
 have H : (spec_l7Is.l0 k a0 l1 0) = some r := h
 clear h
 have H' := am H
 clear H
 go_enter Tryz.func81, Tryz.ntmps81
 go_wp2
 go_loopg [5] k (fun kq v5 w' => ∃ (x5_1 : Int), v5 = .int .i64 x5_1 ∧ Aside0 (spec_l7Is.l0 kq a0 l1 x5_1 = some r) ∧ Aside0 (kq ≤ k) ∧ Drawn0 w w')
 case atStart => exact ⟨(0), ab6, H', ⟨Nat.le_refl _⟩, by repeat (first | exact Drawn0.refl _ | apply Drawn0.step)⟩
 case round =>
  clear H'
  (try clear c1); (try clear p2)
  obtain ⟨x5_1, rfl, HA, HK1, ⟨m1, rfl⟩⟩ := hrel
  cases gk with
  | zero => exact absurd HA.out (by simp [spec_l7Is.l0])
  | succ k1 =>
   have H := HA.out
   clear HA
   simp only [spec_l7Is.l0] at H
   replace H := ir_ H; rcases H with ⟨c3b0, H⟩ | ⟨c3b0, H⟩
   ·replace H := iq_ H; obtain ⟨c4b0, H⟩ := H
    replace H := ie_ H; rcases H with ⟨c5b0, c5b1, H⟩ | ⟨c5, c5b0, c5b1, H⟩
    ·obtain rfl := Option.some.inj H
     have p160 : 0 ≤ (x5_1 : Int) := of_decide_eq_true ab4
     have q160 : x5_1 < (l1.length : Int) := of_decide_eq_true ab4
     obtain ⟨ad160, e160, hx160_0⟩ := Kd.at_string HR1.out x5_1 p160 q160
     cases e160
     replace p160 := eq_true p160
     replace q160 := eq_true q160
     go_wp2
     go_ret
     exact ⟨ab6, by repeat (first | exact Drawn0.refl _ | apply Drawn0.step)⟩
    ·have H' := am H
     clear H
     have p160 : 0 ≤ (x5_1 : Int) := of_decide_eq_true ab4
     have q160 : x5_1 < (l1.length : Int) := of_decide_eq_true ab4
     obtain ⟨ad160, e160, hx160_0⟩ := Kd.at_string HR1.out x5_1 p160 q160
     cases e160
     replace p160 := eq_true p160
     replace q160 := eq_true q160
     go_wp2
     go_roundg k1
     case measure => have := HK1.out; omega
     case rel => exact ⟨(wrap64 (x5_1 + 1)), ab6, H', ⟨by have := HK1.out; omega⟩, by repeat (first | exact Drawn0.refl _ | apply Drawn0.step)⟩
   ·obtain rfl := Option.some.inj H
    go_wp2
    go_ret
    exact ⟨ab6, by repeat (first | exact Drawn0.refl _ | apply Drawn0.step)⟩
def spec_Format.f (k : Nat) (a0 : ByteArray) : Option (Bool) := (spec_l7Is.f k a0 (([(⟨#[97]⟩ : ByteArray), (⟨#[98]⟩ : ByteArray), (⟨#[105]⟩ : ByteArray), (⟨#[117]⟩ : ByteArray), (⟨#[101, 109]⟩ : ByteArray), (⟨#[115, 116, 114, 111, 110, 103]⟩ : ByteArray), (⟨#[99, 111, 100, 101]⟩ : ByteArray), (⟨#[115, 109, 97, 108, 108]⟩ : ByteArray)] : List ByteArray))).bind fun t164 => (some t164)
theorem spec_Format.calls (k : Nat) (a0 : ByteArray) (r : Bool) (w : World) (h : spec_Format.f k a0 = some r) :
  Calls Tryz.prog 52 #[.string a0] w fun e w' => e = .returned (.bool r) ∧ Below w.heap.size w w' := by
 have HB := am (Below.refl w.heap.size w)
 have H : ((spec_l7Is.f k a0 (([(⟨#[97]⟩ : ByteArray), (⟨#[98]⟩ : ByteArray), (⟨#[105]⟩ : ByteArray), (⟨#[117]⟩ : ByteArray), (⟨#[101, 109]⟩ : ByteArray), (⟨#[115, 116, 114, 111, 110, 103]⟩ : ByteArray), (⟨#[99, 111, 100, 101]⟩ : ByteArray), (⟨#[115, 109, 97, 108, 108]⟩ : ByteArray)] : List ByteArray))).bind fun t164 => (some t164)) = some r := h
 clear h
 obtain ⟨y161, hy161⟩ : ∃ y_ : List ByteArray, y_ = (([(⟨#[97]⟩ : ByteArray), (⟨#[98]⟩ : ByteArray), (⟨#[105]⟩ : ByteArray), (⟨#[117]⟩ : ByteArray), (⟨#[101, 109]⟩ : ByteArray), (⟨#[115, 116, 114, 111, 110, 103]⟩ : ByteArray), (⟨#[99, 111, 100, 101]⟩ : ByteArray), (⟨#[115, 109, 97, 108, 108]⟩ : ByteArray)] : List ByteArray)) := ⟨_, rfl⟩
 replace H : ((spec_l7Is.f k a0 y161).bind fun t164 => (some t164)) = some r := by first | (rw [hy161]; with_reducible exact H) | (have H2_ := (Option.bind_some _ _).symm.trans H; rw [hy161]; with_reducible exact H2_) | (have H2_ := (Option.bind_some _ _).symm.trans H; with_reducible exact H2_) | with_reducible exact H | (rw [hy161]; exact H) | exact H
 have Ny161 := am hy161
 clear hy161
 replace H := bi_ H; obtain ⟨t164, A2, H⟩ := H
 obtain rfl := Option.some.inj H
 go_enter Tryz.func52, Tryz.ntmps52
 go_wp2_with (first | ((with_reducible refine gate_dst (N := 4) rfl ?_); refine Kd.R_lit Kd.string _ 9 ?hg (N := 4) ?hd (xs := ([(⟨#[97]⟩ : ByteArray), (⟨#[98]⟩ : ByteArray), (⟨#[105]⟩ : ByteArray), (⟨#[117]⟩ : ByteArray), (⟨#[101, 109]⟩ : ByteArray), (⟨#[115, 116, 114, 111, 110, 103]⟩ : ByteArray), (⟨#[99, 111, 100, 101]⟩ : ByteArray), (⟨#[115, 109, 97, 108, 108]⟩ : ByteArray)] : List ByteArray)) (inner := [.string (⟨#[97]⟩ : ByteArray), .string (⟨#[98]⟩ : ByteArray), .string (⟨#[105]⟩ : ByteArray), .string (⟨#[117]⟩ : ByteArray), .string (⟨#[101, 109]⟩ : ByteArray), .string (⟨#[115, 116, 114, 111, 110, 103]⟩ : ByteArray), .string (⟨#[99, 111, 100, 101]⟩ : ByteArray), .string (⟨#[115, 109, 97, 108, 108]⟩ : ByteArray)]) (ok := fun _ => True) (okp := fun _ => True) ?hr ?hp (fun _ hk => hk) trivial (Below.refl _ _) (Nat.le_refl _) (by simp) ?_; (case hd => rfl); (case hg => rfl); (case hr => first | (go_simp; done) | (go_simp; rfl)); (case hp => exact (Reps.one (show Kd.M Kd.string _ _ _ (⟨#[97]⟩ : ByteArray) [.string (⟨#[97]⟩ : ByteArray)] from rfl) (Reps.one (show Kd.M Kd.string _ _ _ (⟨#[98]⟩ : ByteArray) [.string (⟨#[98]⟩ : ByteArray)] from rfl) (Reps.one (show Kd.M Kd.string _ _ _ (⟨#[105]⟩ : ByteArray) [.string (⟨#[105]⟩ : ByteArray)] from rfl) (Reps.one (show Kd.M Kd.string _ _ _ (⟨#[117]⟩ : ByteArray) [.string (⟨#[117]⟩ : ByteArray)] from rfl) (Reps.one (show Kd.M Kd.string _ _ _ (⟨#[101, 109]⟩ : ByteArray) [.string (⟨#[101, 109]⟩ : ByteArray)] from rfl) (Reps.one (show Kd.M Kd.string _ _ _ (⟨#[115, 116, 114, 111, 110, 103]⟩ : ByteArray) [.string (⟨#[115, 116, 114, 111, 110, 103]⟩ : ByteArray)] from rfl) (Reps.one (show Kd.M Kd.string _ _ _ (⟨#[99, 111, 100, 101]⟩ : ByteArray) [.string (⟨#[99, 111, 100, 101]⟩ : ByteArray)] from rfl) (Reps.one (show Kd.M Kd.string _ _ _ (⟨#[115, 109, 97, 108, 108]⟩ : ByteArray) [.string (⟨#[115, 109, 97, 108, 108]⟩ : ByteArray)] from rfl) (Reps.none _ _)))))))))); intro v162 w3 ho4 hb hg_ hnew_; clear hg_ hnew_; (first | rw [← Ny161.out] at ho4 | (simp only [Int.reduceToNat] at ho4; rw [← Ny161.out] at ho4)); have HO163 := am (Kd.R_lower ho4 (below_size ab1)); replace HB := am (below_step ab1 hb); clear hb ho4; obtain ⟨Ao5, co5, eo5⟩ := Kd.R_slice HO163.out; subst eo5) | ((with_reducible refine gf_ 81 ?_); refine gc_ Tryz.func81 (spec_l7Is.calls k a0 _ _ y161 t164 _ ?side1 ((Kd.R_reads' HO163.out).2.1) A2.out) ?_; (case side1 => exact (by repeat (first | exact (Kd.R_reads' HO163.out).2.2 | (with_reducible refine Kd.C_alloc ?_ _) | (with_reducible refine Kd.C_drewN ?_ _) | (with_reducible refine Kd.C_drew ?_)))); rintro w' ⟨nd, rfl⟩))
 go_ret
 exact ⟨ab7, ab1⟩
mutual
def spec_PageOk.j0 : Nat → Bool → List (S53) → List Int → List Int → Int → Int → Option (Bool)
 | 0, _, _, _, _, _, _ => none
 | k + 1, x46, x166000, x166001, x166002, x166003, x166004 => if x46 = true then (some false) else (spec_PageOk.l0 k 0 x166000 x166001 x166002 x166003 x166004)
def spec_PageOk.l0 : Nat → Int → List (S53) → List Int → List Int → Int → Int → Option (Bool)
 | 0, _, _, _, _, _, _ => none
 | k + 1, x3, x166000, x166001, x166002, x166003, x166004 => if x3 < (x166001.length : Int) then (if 0 ≤ x3 then ((spec_l8Tag.f x166000 (rd x166001 x3) (⟨#[]⟩ : ByteArray)).bind fun t171 => (if t171 = true then ((spec_l6Count.f k x166001 (rd x166001 x3)).bind fun t173 => (if t173 = 1 then (spec_PageOk.l0 k (wrap64 (x3 + 1)) x166000 x166001 x166002 x166003 x166004) else (some false))) else (some false))) else (none)) else (spec_PageOk.l1 k 0 x166000 x166001 x166002 x166003 x166004)
def spec_PageOk.l1 : Nat → Int → List (S53) → List Int → List Int → Int → Int → Option (Bool)
 | 0, _, _, _, _, _, _ => none
 | k + 1, x4, x166000, x166001, x166002, x166003, x166004 => if x4 < (x166002.length : Int) then (if 0 ≤ x4 then (if (rd x166002 x4) = (-1) then (spec_PageOk.l1 k (wrap64 (x4 + 1)) x166000 x166001 x166002 x166003 x166004) else ((spec_l8Tag.f x166000 (rd x166002 x4) (⟨#[]⟩ : ByteArray)).bind fun t176 => (if t176 = true then (if 0 ≤ (rd x166002 x4) then (if (rd x166002 x4) < (x166000.length : Int) then ((spec_Format.f k ((rd_T53 x166000 (rd x166002 x4)).f2)).bind fun t179 => (if t179 = true then (spec_PageOk.l1 k (wrap64 (x4 + 1)) x166000 x166001 x166002 x166003 x166004) else (some false))) else (none)) else (none)) else (some false)))) else (none)) else (some true)
end
def spec_PageOk.f (k : Nat) (l0_0 : List (S53)) (l0_1 : List Int) (l0_2 : List Int) (a0_3 : Int) (a0_4 : Int) : Option (Bool) := (spec_TreeOk.f k l0_0).bind fun t166 => (if t166 = true then (if (l0_1.length : Int) > 40 then (spec_PageOk.j0 k true l0_0 l0_1 l0_2 a0_3 a0_4) else (if (l0_2.length : Int) > 120 then (spec_PageOk.j0 k true l0_0 l0_1 l0_2 a0_3 a0_4) else (if a0_3 = 0 then (if a0_4 = 0 then (spec_PageOk.j0 k false l0_0 l0_1 l0_2 a0_3 a0_4) else ((spec_l8Tag.f l0_0 a0_4 (⟨#[98, 111, 100, 121]⟩ : ByteArray)).bind fun t167 => (spec_PageOk.j0 k (!t167) l0_0 l0_1 l0_2 a0_3 a0_4))) else ((spec_l8Tag.f l0_0 a0_3 (⟨#[104, 101, 97, 100]⟩ : ByteArray)).bind fun t168 => (if t168 = true then (if a0_4 = 0 then (spec_PageOk.j0 k false l0_0 l0_1 l0_2 a0_3 a0_4) else ((spec_l8Tag.f l0_0 a0_4 (⟨#[98, 111, 100, 121]⟩ : ByteArray)).bind fun t169 => (spec_PageOk.j0 k (!t169) l0_0 l0_1 l0_2 a0_3 a0_4))) else (spec_PageOk.j0 k true l0_0 l0_1 l0_2 a0_3 a0_4)))))) else (spec_PageOk.j0 k true l0_0 l0_1 l0_2 a0_3 a0_4))
def spec_PageOk.T6 : Bool × List (List Nat × List Nat) := (true, [([], []), ([0], [0]), ([], []), ([2], [2]), ([], []), ([3, 4], [3, 4]), ([5], [5]), ([1, 6], [1, 6]), ([7], [7]), ([8, 7], [8]), ([9], [9]), ([10, 9], [9, 10]), ([9], [9]), ([12, 9], [9, 12]), ([9], [9]), ([13, 14, 9], [9, 13, 14]), ([15, 9], [9, 15]), ([11, 16, 9, 9], [9, 11, 16]), ([17, 9], [9, 17]), ([9, 18], [9, 18])])
def spec_PageOk.B6 : List Nat := [0, 1, 0, 4, 0, 28, 60, 127, 255, 511, 1023, 2047, 1023, 5119, 1023, 29695, 62463, 131071, 262143, 524287]
theorem spec_PageOk.tab6 : rtab .any (opsOf Tryz.f24 6) = spec_PageOk.T6 := by kernel_rfl
theorem spec_PageOk.bits6 : waitsOk spec_PageOk.T6.2 spec_PageOk.B6 = true := by kernel_rfl
def spec_PageOk.T11 : Bool × List (List Nat × List Nat) := (true, [([], []), ([0], [0]), ([], []), ([1, 2], [1, 2]), ([3], [3]), ([4], [4]), ([5], [5]), ([6], [6]), ([7, 6], [6, 7]), ([6], [6]), ([9, 6], [6, 9]), ([6], [6]), ([10, 11, 6], [6, 10, 11]), ([12, 6], [6, 12]), ([8, 13, 6, 6], [6, 8, 13]), ([14, 6], [6, 14]), ([15, 14, 6], [6, 15]), ([16], [16]), ([17, 16], [16, 17]), ([16], [16]), ([19, 16], [16, 19]), ([16], [16]), ([20, 21, 16], [16, 20, 21]), ([22, 16], [16, 22]), ([18, 23, 16], [16, 18, 23]), ([24, 16], [16, 24]), ([25, 16], [16, 25]), ([26, 16, 16], [16, 26]), ([27, 16], [16, 27]), ([16, 28, 6], [6, 16, 28]), ([6, 29], [6, 29])])
def spec_PageOk.B11 : List Nat := [0, 1, 0, 7, 15, 31, 63, 127, 255, 127, 639, 127, 3711, 7807, 16383, 32767, 65535, 131071, 262143, 131071, 655359, 131071, 3801087, 7995391, 16777215, 33554431, 67108863, 134217727, 268435455, 536870911, 1073741823]
theorem spec_PageOk.tab11 : rtab .any (opsOf Tryz.f24 11) = spec_PageOk.T11 := by kernel_rfl
theorem spec_PageOk.bits11 : waitsOk spec_PageOk.T11.2 spec_PageOk.B11 = true := by kernel_rfl
theorem spec_PageOk.calls (k : Nat) (A0_0 : Option Addr) (c0_0 : Nat) (l0_0 : List (S53)) (A0_1 : Option Addr) (c0_1 : Nat) (l0_1 : List Int) (A0_2 : Option Addr) (c0_2 : Nat) (l0_2 : List Int) (a0_3 : Int) (a0_4 : Int) (r : Bool) (w : World) (hr0_0 : Kd.C k53 w A0_0 l0_0.length l0_0) (hc0_0 : l0_0.length ≤ c0_0) (hr0_1 : Kd.C (Kd.int .i64) w A0_1 l0_1.length l0_1) (hc0_1 : l0_1.length ≤ c0_1) (hr0_2 : Kd.C (Kd.int .i64) w A0_2 l0_2.length l0_2) (hc0_2 : l0_2.length ≤ c0_2) (h : spec_PageOk.f k l0_0 l0_1 l0_2 a0_3 a0_4 = some r) :
  Calls Tryz.prog 24 #[.agg #[.slice A0_0 l0_0.length c0_0, .slice A0_1 l0_1.length c0_1, .slice A0_2 l0_2.length c0_2, .int .i64 a0_3, .int .i64 a0_4]] w fun e w' => e = .returned (.bool r) ∧ Below w.heap.size w w' := by
 have hu31 := Tryz.underlying31
 have HR0_0 := am hr0_0
 have HC0_0 := am hc0_0
 clear hr0_0 hc0_0
 have HR0_1 := am hr0_1
 have HC0_1 := am hc0_1
 clear hr0_1 hc0_1
 have HR0_2 := am hr0_2
 have HC0_2 := am hc0_2
 clear hr0_2 hc0_2
 have HB := am (Below.refl w.heap.size w)
 have H : ((spec_TreeOk.f k l0_0).bind fun t166 => (if t166 = true then (if (l0_1.length : Int) > 40 then (spec_PageOk.j0 k true l0_0 l0_1 l0_2 a0_3 a0_4) else (if (l0_2.length : Int) > 120 then (spec_PageOk.j0 k true l0_0 l0_1 l0_2 a0_3 a0_4) else (if a0_3 = 0 then (if a0_4 = 0 then (spec_PageOk.j0 k false l0_0 l0_1 l0_2 a0_3 a0_4) else ((spec_l8Tag.f l0_0 a0_4 (⟨#[98, 111, 100, 121]⟩ : ByteArray)).bind fun t167 => (spec_PageOk.j0 k (!t167) l0_0 l0_1 l0_2 a0_3 a0_4))) else ((spec_l8Tag.f l0_0 a0_3 (⟨#[104, 101, 97, 100]⟩ : ByteArray)).bind fun t168 => (if t168 = true then (if a0_4 = 0 then (spec_PageOk.j0 k false l0_0 l0_1 l0_2 a0_3 a0_4) else ((spec_l8Tag.f l0_0 a0_4 (⟨#[98, 111, 100, 121]⟩ : ByteArray)).bind fun t169 => (spec_PageOk.j0 k (!t169) l0_0 l0_1 l0_2 a0_3 a0_4))) else (spec_PageOk.j0 k true l0_0 l0_1 l0_2 a0_3 a0_4)))))) else (spec_PageOk.j0 k true l0_0 l0_1 l0_2 a0_3 a0_4))) = some r := h
 clear h
 have HC2 := am H
 clear H
 go_enter Tryz.func24, Tryz.ntmps24
 go_upto_region 1 with (first | ((with_reducible refine gd_ 1 ?_); (try (refine gate_guard (by rfl) ?_; dsimp only)); refine bx_ 1 (cs := #[.slice A0_0 l0_0.length c0_0, .slice A0_1 l0_1.length c0_1, .slice A0_2 l0_2.length c0_2, .int .i64 a0_3, .int .i64 a0_4]) 31 ?_; intro gb165 hg w3 hbox hb; have BK165 := am hbox; have GW165 := ge_ (w := w) hg; have GE165 := ge_ (w := w) hg; replace HB := am (below_step ab1 hb); clear hb hbox hg))
 (try simp only [Act.put, List.setIfInBounds_toArray, List.set_cons_zero, List.set_cons_succ])
 go_cut [46] (fun v46 wc => ∃ (kq : Nat) (x46_1 : Bool), v46 = .bool x46_1 ∧ Aside0 (spec_PageOk.j0 kq x46_1 l0_0 l0_1 l0_2 a0_3 a0_4 = some r) ∧ Aside0 (kq ≤ k) ∧ Aside0 (wc.heap[gb165]? = some (.cells #[(.slice A0_0 l0_0.length c0_0), (.slice A0_1 l0_1.length c0_1), (.slice A0_2 l0_2.length c0_2), .int .i64 a0_3, .int .i64 a0_4] 31 (0, 0))) ∧ Aside0 (Below w.heap.size w wc))
 case first =>
  have H := HC2.out
  clear HC2
  replace H := bi_ H; obtain ⟨t166, A4, H⟩ := H
  replace H := ib_ H; rcases H with ⟨rfl, H⟩ | ⟨rfl, H⟩
  ·by_cases c6 : (l0_1.length : Int) > 40
   ·rw [if_pos c6] at H
    have c6b0 : decide (40 < (l0_1.length : Int)) = true := decide_eq_true c6
    have c6b1 : decide (40 < l0_1.length) = true := decide_eq_true (by omega)
    clear c6
    (first | rw [c6b0] | (simp only [i64_w, i32_w]; rw [c6b0]) | skip)
    (try (generalize hgzc6 : decide (40 < (l0_1.length : Int)) = bqc6 at *; subst c6b0; have c6b0 := hgzc6; clear hgzc6))
    have H' := am H
    clear H
    obtain ⟨⟨_, _, _, _, _⟩, _, _, _, _, _⟩ := Op.cells5 BK165.out
    go_wp2_with (first | ((with_reducible refine gf_ 50 ?_); refine gc_ Tryz.func50 (spec_TreeOk.calls k _ _ l0_0 true _ (sc_ HR0_0) HC0_0.out A4.out) ?_; rintro w8 hb; replace BK165 := bl_ BK165 hb; replace HB := am (below_step (ab2 GE165) hb); (try clear hb); obtain ⟨⟨_, _, _, _, _⟩, _, _, _, _, _⟩ := Op.cells5 BK165.out))
    go_meet
    case rel => exact ⟨_, (true), ab6, (by first | exact H' | (have h_ := H'.out; rw [c6b0] at h_; exact ⟨h_⟩)), ⟨by first | omega | exact Nat.le_refl _⟩, ⟨ab3 BK165⟩, ⟨ab2 GE165⟩⟩
   ·rw [if_neg c6] at H
    have c6b0 : decide (40 < (l0_1.length : Int)) = false := decide_eq_false c6
    have c6b1 : decide (40 < l0_1.length) = false := decide_eq_false (by omega)
    clear c6
    (first | rw [c6b0] | (simp only [i64_w, i32_w]; rw [c6b0]) | skip)
    (try (generalize hgzc6 : decide (40 < (l0_1.length : Int)) = bqc6 at *; subst c6b0; have c6b0 := hgzc6; clear hgzc6))
    by_cases c10 : (l0_2.length : Int) > 120
    ·rw [if_pos c10] at H
     have c10b0 : decide (120 < (l0_2.length : Int)) = true := decide_eq_true c10
     have c10b1 : decide (120 < l0_2.length) = true := decide_eq_true (by omega)
     clear c10
     have H' := am H
     clear H
     obtain ⟨⟨_, _, _, _, _⟩, _, _, _, _, _⟩ := Op.cells5 BK165.out
     go_wp2_with (first | ((with_reducible refine gf_ 50 ?_); refine gc_ Tryz.func50 (spec_TreeOk.calls k _ _ l0_0 true _ (sc_ HR0_0) HC0_0.out A4.out) ?_; rintro w12 hb; replace BK165 := bl_ BK165 hb; replace HB := am (below_step (ab2 GE165) hb); (try clear hb); obtain ⟨⟨_, _, _, _, _⟩, _, _, _, _, _⟩ := Op.cells5 BK165.out))
     go_meet
     case rel => exact ⟨_, (true), ab6, (by first | exact H' | (have h_ := H'.out; rw [c6b0] at h_; exact ⟨h_⟩)), ⟨by first | omega | exact Nat.le_refl _⟩, ⟨ab3 BK165⟩, ⟨ab2 GE165⟩⟩
    ·rw [if_neg c10] at H
     have c10b0 : decide (120 < (l0_2.length : Int)) = false := decide_eq_false c10
     have c10b1 : decide (120 < l0_2.length) = false := decide_eq_false (by omega)
     clear c10
     replace H := ie_ H; rcases H with ⟨c14b0, c14b1, H⟩ | ⟨c14, c14b0, c14b1, H⟩
     ·replace H := ie_ H; rcases H with ⟨c15b0, c15b1, H⟩ | ⟨c15, c15b0, c15b1, H⟩
      ·have H' := am H
       clear H
       obtain ⟨⟨_, _, _, _, _⟩, _, _, _, _, _⟩ := Op.cells5 BK165.out
       go_wp2_with (first | ((with_reducible refine gf_ 50 ?_); refine gc_ Tryz.func50 (spec_TreeOk.calls k _ _ l0_0 true _ (sc_ HR0_0) HC0_0.out A4.out) ?_; rintro w17 hb; replace BK165 := bl_ BK165 hb; replace HB := am (below_step (ab2 GE165) hb); (try clear hb); obtain ⟨⟨_, _, _, _, _⟩, _, _, _, _, _⟩ := Op.cells5 BK165.out))
       go_meet
       case rel => exact ⟨_, (false), ab6, (by first | exact H' | (have h_ := H'.out; rw [c6b0] at h_; exact ⟨h_⟩)), ⟨by first | omega | exact Nat.le_refl _⟩, ⟨ab3 BK165⟩, ⟨ab2 GE165⟩⟩
      ·replace H := bi_ H; obtain ⟨t167, A19, H⟩ := H
       replace H : (spec_PageOk.j0 k (!t167) l0_0 l0_1 l0_2 a0_3 a0_4) = some r := by first | exact H | (rw [c6b0]; exact H)
       have H' := am H
       clear H
       obtain ⟨⟨_, _, _, _, _⟩, _, _, _, _, _⟩ := Op.cells5 BK165.out
       go_wp2_with (first | ((with_reducible refine gf_ 50 ?_); refine gc_ Tryz.func50 (spec_TreeOk.calls k _ _ l0_0 true _ (sc_ HR0_0) HC0_0.out A4.out) ?_; rintro w21 hb; replace BK165 := bl_ BK165 hb; replace HB := am (below_step (ab2 GE165) hb); (try clear hb); obtain ⟨⟨_, _, _, _, _⟩, _, _, _, _, _⟩ := Op.cells5 BK165.out) | (go_at_call 51; (with_reducible refine (spec_l8Tag.calls _ _ l0_0 a0_4 (⟨#[98, 111, 100, 121]⟩ : ByteArray) t167 _ (sc_ HR0_0) HC0_0.out A19.out).mono ?_); rintro e w' ⟨rfl, ⟨nd, rfl⟩⟩))
       go_meet
       case rel => exact ⟨_, (!t167), ab6, (by first | exact H' | (have h_ := H'.out; rw [c6b0] at h_; exact ⟨h_⟩)), ⟨by first | omega | exact Nat.le_refl _⟩, ⟨ab3 BK165⟩, ⟨ab2 GE165⟩⟩
     ·replace H := bi_ H; obtain ⟨t168, A23, H⟩ := H
      replace H : (if t168 = true then (if a0_4 = 0 then (spec_PageOk.j0 k false l0_0 l0_1 l0_2 a0_3 a0_4) else ((spec_l8Tag.f l0_0 a0_4 (⟨#[98, 111, 100, 121]⟩ : ByteArray)).bind fun t169 => (spec_PageOk.j0 k (!t169) l0_0 l0_1 l0_2 a0_3 a0_4))) else (spec_PageOk.j0 k true l0_0 l0_1 l0_2 a0_3 a0_4)) = some r := by first | exact H | (rw [c6b0]; exact H)
      replace H := ib_ H; rcases H with ⟨rfl, H⟩ | ⟨rfl, H⟩
      ·replace H := ie_ H; rcases H with ⟨c25b0, c25b1, H⟩ | ⟨c25, c25b0, c25b1, H⟩
       ·have H' := am H
        clear H
        obtain ⟨⟨_, _, _, _, _⟩, _, _, _, _, _⟩ := Op.cells5 BK165.out
        go_wp2_with (first | ((with_reducible refine gf_ 50 ?_); refine gc_ Tryz.func50 (spec_TreeOk.calls k _ _ l0_0 true _ (sc_ HR0_0) HC0_0.out A4.out) ?_; rintro w27 hb; replace BK165 := bl_ BK165 hb; replace HB := am (below_step (ab2 GE165) hb); (try clear hb); obtain ⟨⟨_, _, _, _, _⟩, _, _, _, _, _⟩ := Op.cells5 BK165.out) | (go_at_call 51; (with_reducible refine (spec_l8Tag.calls _ _ l0_0 a0_3 (⟨#[104, 101, 97, 100]⟩ : ByteArray) true _ (sc_ HR0_0) HC0_0.out A23.out).mono ?_); rintro e w' ⟨rfl, ⟨nd, rfl⟩⟩))
        go_meet
        case rel => exact ⟨_, (false), ab6, (by first | exact H' | (have h_ := H'.out; rw [c6b0] at h_; exact ⟨h_⟩)), ⟨by first | omega | exact Nat.le_refl _⟩, ⟨ab3 BK165⟩, ⟨ab2 GE165⟩⟩
       ·replace H := bi_ H; obtain ⟨t169, A29, H⟩ := H
        replace H : (spec_PageOk.j0 k (!t169) l0_0 l0_1 l0_2 a0_3 a0_4) = some r := by first | exact H | (rw [c6b0]; exact H)
        have H' := am H
        clear H
        obtain ⟨⟨_, _, _, _, _⟩, _, _, _, _, _⟩ := Op.cells5 BK165.out
        go_wp2_with (first | ((with_reducible refine gf_ 50 ?_); refine gc_ Tryz.func50 (spec_TreeOk.calls k _ _ l0_0 true _ (sc_ HR0_0) HC0_0.out A4.out) ?_; rintro w31 hb; replace BK165 := bl_ BK165 hb; replace HB := am (below_step (ab2 GE165) hb); (try clear hb); obtain ⟨⟨_, _, _, _, _⟩, _, _, _, _, _⟩ := Op.cells5 BK165.out) | (go_at_call 51; (with_reducible refine (spec_l8Tag.calls _ _ l0_0 a0_3 (⟨#[104, 101, 97, 100]⟩ : ByteArray) true _ (sc_ HR0_0) HC0_0.out A23.out).mono ?_); rintro e w' ⟨rfl, ⟨nd, rfl⟩⟩) | (go_at_call 51; (with_reducible refine (spec_l8Tag.calls _ _ l0_0 a0_4 (⟨#[98, 111, 100, 121]⟩ : ByteArray) t169 _ ?side1 HC0_0.out A29.out).mono ?_); (case side1 => exact (by repeat (first | exact (Kd.C_below HR0_0.out (ab2 GE165)) | (with_reducible refine Kd.C_alloc ?_ _) | (with_reducible refine Kd.C_drewN ?_ _) | (with_reducible refine Kd.C_drew ?_)))); rintro e w' ⟨rfl, ⟨nd, rfl⟩⟩))
        go_meet
        case rel => exact ⟨_, (!t169), ab6, (by first | exact H' | (have h_ := H'.out; rw [c6b0] at h_; exact ⟨h_⟩)), ⟨by first | omega | exact Nat.le_refl _⟩, ⟨ab3 BK165⟩, ⟨ab2 GE165⟩⟩
      ·have H' := am H
       clear H
       obtain ⟨⟨_, _, _, _, _⟩, _, _, _, _, _⟩ := Op.cells5 BK165.out
       go_wp2_with (first | ((with_reducible refine gf_ 50 ?_); refine gc_ Tryz.func50 (spec_TreeOk.calls k _ _ l0_0 true _ (sc_ HR0_0) HC0_0.out A4.out) ?_; rintro w34 hb; replace BK165 := bl_ BK165 hb; replace HB := am (below_step (ab2 GE165) hb); (try clear hb); obtain ⟨⟨_, _, _, _, _⟩, _, _, _, _, _⟩ := Op.cells5 BK165.out) | (go_at_call 51; (with_reducible refine (spec_l8Tag.calls _ _ l0_0 a0_3 (⟨#[104, 101, 97, 100]⟩ : ByteArray) false _ (sc_ HR0_0) HC0_0.out A23.out).mono ?_); rintro e w' ⟨rfl, ⟨nd, rfl⟩⟩))
       go_meet
       case rel => exact ⟨_, (true), ab6, (by first | exact H' | (have h_ := H'.out; rw [c6b0] at h_; exact ⟨h_⟩)), ⟨by first | omega | exact Nat.le_refl _⟩, ⟨ab3 BK165⟩, ⟨ab2 GE165⟩⟩
  ·have H' := am H
   clear H
   obtain ⟨⟨_, _, _, _, _⟩, _, _, _, _, _⟩ := Op.cells5 BK165.out
   go_wp2_with (first | ((with_reducible refine gf_ 50 ?_); refine gc_ Tryz.func50 (spec_TreeOk.calls k _ _ l0_0 false _ (sc_ HR0_0) HC0_0.out A4.out) ?_; rintro w37 hb; replace BK165 := bl_ BK165 hb; replace HB := am (below_step (ab2 GE165) hb); (try clear hb)))
   go_meet
   case rel => exact ⟨_, (true), ab6, H', ⟨by first | omega | exact Nat.le_refl _⟩, ⟨ab3 BK165⟩, ⟨ab2 GE165⟩⟩
 case rest =>
  clear HC2
  (try clear c1); (try clear c2); (try clear p2); (try clear c5); (try clear c6); (try clear c6b0); (try clear c6b1); (try clear c10); (try clear c10b0); (try clear c10b1); (try clear c14); (try clear c14b0); (try clear c14b1); (try clear c15); (try clear c15b0); (try clear c15b1); (try clear c24); (try clear c25); (try clear c25b0); (try clear c25b1); (try clear hcz11_0); (try clear hcz11_1); (try clear hcz11_2); (try clear hcz11_3); (try clear hcz11_4); (try clear hcz13_0); (try clear hcz13_1); (try clear hcz13_2); (try clear hcz13_3); (try clear hcz13_4); (try clear hcz16_0); (try clear hcz16_1); (try clear hcz16_2); (try clear hcz16_3); (try clear hcz16_4); (try clear hcz18_0); (try clear hcz18_1); (try clear hcz18_2); (try clear hcz18_3); (try clear hcz18_4); (try clear hcz20_0); (try clear hcz20_1); (try clear hcz20_2); (try clear hcz20_3); (try clear hcz20_4); (try clear hcz22_0); (try clear hcz22_1); (try clear hcz22_2); (try clear hcz22_3); (try clear hcz22_4); (try clear hcz26_0); (try clear hcz26_1); (try clear hcz26_2); (try clear hcz26_3); (try clear hcz26_4); (try clear hcz28_0); (try clear hcz28_1); (try clear hcz28_2); (try clear hcz28_3); (try clear hcz28_4); (try clear hcz30_0); (try clear hcz30_1); (try clear hcz30_2); (try clear hcz30_3); (try clear hcz30_4); (try clear hcz32_0); (try clear hcz32_1); (try clear hcz32_2); (try clear hcz32_3); (try clear hcz32_4); (try clear hcz33_0); (try clear hcz33_1); (try clear hcz33_2); (try clear hcz33_3); (try clear hcz33_4); (try clear hcz35_0); (try clear hcz35_1); (try clear hcz35_2); (try clear hcz35_3); (try clear hcz35_4); (try clear hcz36_0); (try clear hcz36_1); (try clear hcz36_2); (try clear hcz36_3); (try clear hcz36_4); (try clear hcz7_0); (try clear hcz7_1); (try clear hcz7_2); (try clear hcz7_3); (try clear hcz7_4); (try clear hcz9_0); (try clear hcz9_1); (try clear hcz9_2); (try clear hcz9_3); (try clear hcz9_4); (try clear hfz11_0); (try clear hfz11_1); (try clear hfz11_2); (try clear hfz11_3); (try clear hfz11_4); (try clear hfz13_0); (try clear hfz13_1); (try clear hfz13_2); (try clear hfz13_3); (try clear hfz13_4); (try clear hfz16_0); (try clear hfz16_1); (try clear hfz16_2); (try clear hfz16_3); (try clear hfz16_4); (try clear hfz18_0); (try clear hfz18_1); (try clear hfz18_2); (try clear hfz18_3); (try clear hfz18_4); (try clear hfz20_0); (try clear hfz20_1); (try clear hfz20_2); (try clear hfz20_3); (try clear hfz20_4); (try clear hfz22_0); (try clear hfz22_1); (try clear hfz22_2); (try clear hfz22_3); (try clear hfz22_4); (try clear hfz26_0); (try clear hfz26_1); (try clear hfz26_2); (try clear hfz26_3); (try clear hfz26_4); (try clear hfz28_0); (try clear hfz28_1); (try clear hfz28_2); (try clear hfz28_3); (try clear hfz28_4); (try clear hfz30_0); (try clear hfz30_1); (try clear hfz30_2); (try clear hfz30_3); (try clear hfz30_4); (try clear hfz32_0); (try clear hfz32_1); (try clear hfz32_2); (try clear hfz32_3); (try clear hfz32_4); (try clear hfz33_0); (try clear hfz33_1); (try clear hfz33_2); (try clear hfz33_3); (try clear hfz33_4); (try clear hfz35_0); (try clear hfz35_1); (try clear hfz35_2); (try clear hfz35_3); (try clear hfz35_4); (try clear hfz36_0); (try clear hfz36_1); (try clear hfz36_2); (try clear hfz36_3); (try clear hfz36_4); (try clear hfz7_0); (try clear hfz7_1); (try clear hfz7_2); (try clear hfz7_3); (try clear hfz7_4); (try clear hfz9_0); (try clear hfz9_1); (try clear hfz9_2); (try clear hfz9_3); (try clear hfz9_4)
  obtain ⟨kq, x46_1, rfl, HA, HJ1, BK165, HB⟩ := hcut
  cases kq with
  | zero => exact absurd HA.out (by simp [spec_PageOk.j0])
  | succ kj1 =>
   have H := HA.out
   clear HA
   simp only [spec_PageOk.j0] at H
   replace H := ib_ H; rcases H with ⟨rfl, H⟩ | ⟨rfl, H⟩
   ·obtain rfl := Option.some.inj H
    go_wp2
    go_ret
    exact ⟨ab7, ab2 GE165⟩
   ·have H' := am H
    clear H
    go_wp2
    go_loopg [3] kj1 (fun kq v3 w' => ∃ (x3_2 : Int), v3 = .int .i64 x3_2 ∧ Aside0 (spec_PageOk.l0 kq x3_2 l0_0 l0_1 l0_2 a0_3 a0_4 = some r) ∧ Aside0 (kq ≤ kj1) ∧ Aside0 (w'.heap[gb165]? = some (.cells #[(.slice A0_0 l0_0.length c0_0), (.slice A0_1 l0_1.length c0_1), (.slice A0_2 l0_2.length c0_2), .int .i64 a0_3, .int .i64 a0_4] 31 (0, 0))) ∧ Aside0 (Below w.heap.size w w'))
    case atStart => exact ⟨(0), ab6, H', ⟨Nat.le_refl _⟩, ⟨ab3 BK165⟩, ⟨ab2 GE165⟩⟩
    case round =>
     clear H'
     (try clear c1); (try clear c2); (try clear p2); (try clear c3); (try clear c5); (try clear c6); (try clear c6b0); (try clear c6b1); (try clear c10); (try clear c10b0); (try clear c10b1); (try clear c14); (try clear c14b0); (try clear c14b1); (try clear c15); (try clear c15b0); (try clear c15b1); (try clear c24); (try clear c25); (try clear c25b0); (try clear c25b1); (try clear c38); (try clear hcz11_0); (try clear hcz11_1); (try clear hcz11_2); (try clear hcz11_3); (try clear hcz11_4); (try clear hcz13_0); (try clear hcz13_1); (try clear hcz13_2); (try clear hcz13_3); (try clear hcz13_4); (try clear hcz16_0); (try clear hcz16_1); (try clear hcz16_2); (try clear hcz16_3); (try clear hcz16_4); (try clear hcz18_0); (try clear hcz18_1); (try clear hcz18_2); (try clear hcz18_3); (try clear hcz18_4); (try clear hcz20_0); (try clear hcz20_1); (try clear hcz20_2); (try clear hcz20_3); (try clear hcz20_4); (try clear hcz22_0); (try clear hcz22_1); (try clear hcz22_2); (try clear hcz22_3); (try clear hcz22_4); (try clear hcz26_0); (try clear hcz26_1); (try clear hcz26_2); (try clear hcz26_3); (try clear hcz26_4); (try clear hcz28_0); (try clear hcz28_1); (try clear hcz28_2); (try clear hcz28_3); (try clear hcz28_4); (try clear hcz30_0); (try clear hcz30_1); (try clear hcz30_2); (try clear hcz30_3); (try clear hcz30_4); (try clear hcz32_0); (try clear hcz32_1); (try clear hcz32_2); (try clear hcz32_3); (try clear hcz32_4); (try clear hcz33_0); (try clear hcz33_1); (try clear hcz33_2); (try clear hcz33_3); (try clear hcz33_4); (try clear hcz35_0); (try clear hcz35_1); (try clear hcz35_2); (try clear hcz35_3); (try clear hcz35_4); (try clear hcz36_0); (try clear hcz36_1); (try clear hcz36_2); (try clear hcz36_3); (try clear hcz36_4); (try clear hcz7_0); (try clear hcz7_1); (try clear hcz7_2); (try clear hcz7_3); (try clear hcz7_4); (try clear hcz9_0); (try clear hcz9_1); (try clear hcz9_2); (try clear hcz9_3); (try clear hcz9_4); (try clear hfz11_0); (try clear hfz11_1); (try clear hfz11_2); (try clear hfz11_3); (try clear hfz11_4); (try clear hfz13_0); (try clear hfz13_1); (try clear hfz13_2); (try clear hfz13_3); (try clear hfz13_4); (try clear hfz16_0); (try clear hfz16_1); (try clear hfz16_2); (try clear hfz16_3); (try clear hfz16_4); (try clear hfz18_0); (try clear hfz18_1); (try clear hfz18_2); (try clear hfz18_3); (try clear hfz18_4); (try clear hfz20_0); (try clear hfz20_1); (try clear hfz20_2); (try clear hfz20_3); (try clear hfz20_4); (try clear hfz22_0); (try clear hfz22_1); (try clear hfz22_2); (try clear hfz22_3); (try clear hfz22_4); (try clear hfz26_0); (try clear hfz26_1); (try clear hfz26_2); (try clear hfz26_3); (try clear hfz26_4); (try clear hfz28_0); (try clear hfz28_1); (try clear hfz28_2); (try clear hfz28_3); (try clear hfz28_4); (try clear hfz30_0); (try clear hfz30_1); (try clear hfz30_2); (try clear hfz30_3); (try clear hfz30_4); (try clear hfz32_0); (try clear hfz32_1); (try clear hfz32_2); (try clear hfz32_3); (try clear hfz32_4); (try clear hfz33_0); (try clear hfz33_1); (try clear hfz33_2); (try clear hfz33_3); (try clear hfz33_4); (try clear hfz35_0); (try clear hfz35_1); (try clear hfz35_2); (try clear hfz35_3); (try clear hfz35_4); (try clear hfz36_0); (try clear hfz36_1); (try clear hfz36_2); (try clear hfz36_3); (try clear hfz36_4); (try clear hfz7_0); (try clear hfz7_1); (try clear hfz7_2); (try clear hfz7_3); (try clear hfz7_4); (try clear hfz9_0); (try clear hfz9_1); (try clear hfz9_2); (try clear hfz9_3); (try clear hfz9_4); (try clear p2)
     obtain ⟨x3_2, rfl, HA, HK2, BK165, HB⟩ := hrel
     cases gk with
     | zero => exact absurd HA.out (by simp [spec_PageOk.l0])
     | succ k2 =>
      have H := HA.out
      clear HA
      simp only [spec_PageOk.l0] at H
      replace H := ir_ H; rcases H with ⟨c39b0, H⟩ | ⟨c39b0, H⟩
      ·replace H := iq_ H; obtain ⟨c40b0, H⟩ := H
       replace H := bi_ H; obtain ⟨t171, A41, H⟩ := H
       replace H := ib_ H; rcases H with ⟨rfl, H⟩ | ⟨rfl, H⟩
       ·replace H := bi_ H; obtain ⟨t173, A43, H⟩ := H
        replace H := ie_ H; rcases H with ⟨c44b0, c44b1, H⟩ | ⟨c44, c44b0, c44b1, H⟩
        ·have H' := am H
         clear H
         obtain ⟨⟨_, _, _, _, _⟩, _, _, _, _, _⟩ := Op.cells5 BK165.out
         try go_wp2
         replace BK165 := am (blk_drew BK165.out)
         replace HB := am (below_drew1 HB.out)
         have p170 : 0 ≤ (x3_2 : Int) := of_decide_eq_true ab4
         have q170 : x3_2 < (l0_1.length : Int) := of_decide_eq_true ab4
         obtain ⟨ad170, e170, hx170_0⟩ := Kd.at_int HR0_1.out x3_2 p170 q170
         have hw170_0 := hx170_0
         cases e170
         replace hx170_0 := pc_ HB hx170_0
         replace p170 := eq_true p170
         replace q170 := eq_true q170
         have p172 : 0 ≤ (x3_2 : Int) := of_decide_eq_true ab4
         have q172 : x3_2 < (l0_1.length : Int) := of_decide_eq_true ab4
         obtain ⟨ad172, e172, hx172_0⟩ := Kd.at_int HR0_1.out x3_2 p172 q172
         have hw172_0 := hx172_0
         obtain rfl : ad170 = ad172 := (by injection e172)
         replace hx172_0 := pc_ HB hx172_0
         replace p172 := eq_true p172
         replace q172 := eq_true q172
         refine start_ (n := 20) (S := fun w' => w'.cell? ⟨gb165, 0, none⟩ = some (.slice A0_0 l0_0.length c0_0) ∧ w'.cell? ⟨gb165, 1, none⟩ = some (.slice (some ad170) l0_1.length c0_1) ∧ w'.cell? ⟨gb165, 2, none⟩ = some (.slice A0_2 l0_2.length c0_2) ∧ w'.cell? ⟨gb165, 3, none⟩ = some (.int .i64 a0_3) ∧ w'.cell? ⟨gb165, 4, none⟩ = some (.int .i64 a0_4) ∧ w'.cell? (ad170.add (x3_2).toNat) = some (.int .i64 (rd l0_1 x3_2)) ∧ w'.cell? (ad170.add (x3_2).toNat) = some (.int .i64 (rd l0_1 x3_2))) (ds := []) #[false, false, false, false, false, false, false, false, false, false, false, false, false, false, false, false, false, false, false, false] (by kernel_rfl) rfl rfl ⟨(blk_cell BK165.out 0).trans rfl, (blk_cell BK165.out 1).trans rfl, (blk_cell BK165.out 2).trans rfl, (blk_cell BK165.out 3).trans rfl, (blk_cell BK165.out 4).trans rfl, (pc_ HB hw170_0 :), (pc_ HB hw172_0 :)⟩ (fun hHeld => ?_); refine with_tabW spec_PageOk.tab6 spec_PageOk.bits6 (fun HT_ HW_ => ?_)
         generalize wr.drew = w46 at BK165 HB hx170_0 hx172_0 hHeld ⊢
         refine pa_ 0 54 HT_ ?_
         refine pa_ 2 56 HT_ ?_
         refine pa_ 4 58 HT_ ?_
         refine tk_ 1 55 HT_ HW_ hHeld ?_
         refine tk_ 3 57 HT_ HW_ hHeld ?_
         refine pa_ 5 59 HT_ ?_
         refine tk_ 6 60 HT_ HW_ hHeld ?_
         refine on_ 7 61 HT_ fun K hK => ?_
         refine goes_ Tryz.func51 (by kernel_rfl) rfl #[.slice A0_0 l0_0.length c0_0, .int .i64 (rd l0_1 x3_2), .string (⟨#[]⟩ : ByteArray)] (by rfl) rfl rfl ab5 ?_
         with_reducible refine (spec_l8Tag.calls _ _ l0_0 (rd l0_1 x3_2) (⟨#[]⟩ : ByteArray) true _ ?side1 ?side2 A41.out).mono ?_
         (case side1 => repeat (first | exact (Kd.C_below HR0_0.out HB.out) | (with_reducible refine Kd.C_alloc ?_ _) | (with_reducible refine Kd.C_drewN ?_ _) | (with_reducible refine Kd.C_drew ?_)))
         (case side2 => exact HC0_0.out)
         rintro e w' ⟨rfl, ⟨nd, rfl⟩⟩
         refine ⟨_, rfl, ?_⟩
         refine hK.out _ _ ⟨(blk_cell BK165.out 0).trans rfl, (blk_cell BK165.out 1).trans rfl, (blk_cell BK165.out 2).trans rfl, (blk_cell BK165.out 3).trans rfl, (blk_cell BK165.out 4).trans rfl, (pc_ HB hw170_0 :), (pc_ HB hw172_0 :)⟩ (fun hHeld => ?_)
         clear hK K
         refine nm_ ?_
         refine pa_ 8 62 HT_ ?_
         refine pa_ 9 63 HT_ ?_
         refine pa_ 10 64 HT_ ?_
         refine pa_ 12 66 HT_ ?_
         refine pa_ 14 68 HT_ ?_
         refine tk_ 11 65 HT_ HW_ hHeld ?_
         refine tk_ 13 67 HT_ HW_ hHeld ?_
         refine pa_ 15 69 HT_ ?_
         refine tk_ 16 70 HT_ HW_ hHeld ?_
         refine on_ 17 71 HT_ fun K hK => ?_
         refine goes_ Tryz.func43 (by kernel_rfl) rfl #[.slice (some ad170) l0_1.length c0_1, .int .i64 (rd l0_1 x3_2)] (by rfl) rfl rfl ab5 ?_
         with_reducible refine (spec_l6Count.calls k2 _ _ l0_1 (rd l0_1 x3_2) t173 _ ?side1 ?side2 A43.out).mono ?_
         (case side1 => repeat (first | exact (Kd.C_below HR0_1.out (ab2 GE165)) | (with_reducible refine Kd.C_alloc ?_ _) | (with_reducible refine Kd.C_drewN ?_ _) | (with_reducible refine Kd.C_drew ?_)))
         (case side2 => exact HC0_1.out)
         rintro e w' ⟨rfl, ⟨nd, rfl⟩⟩
         refine ⟨_, rfl, ?_⟩
         refine hK.out _ _ ⟨(blk_cell BK165.out 0).trans rfl, (blk_cell BK165.out 1).trans rfl, (blk_cell BK165.out 2).trans rfl, (blk_cell BK165.out 3).trans rfl, (blk_cell BK165.out 4).trans rfl, (pc_ HB hw170_0 :), (pc_ HB hw172_0 :)⟩ (fun hHeld => ?_)
         clear hK K
         refine nm_ ?_
         refine pa_ 18 72 HT_ ?_
         refine pa_ 19 73 HT_ ?_
         refine dn_ HT_ ?_
         try go_wp2
         go_roundg k2
         case measure => have := HJ1.out; have := HK2.out; omega
         case rel => exact ⟨(wrap64 (x3_2 + 1)), ab6, H', ⟨by have := HJ1.out; have := HK2.out; omega⟩, ⟨ab3 BK165⟩, ⟨ab2 GE165⟩⟩
        ·obtain rfl := Option.some.inj H
         obtain ⟨⟨_, _, _, _, _⟩, _, _, _, _, _⟩ := Op.cells5 BK165.out
         try go_wp2
         replace BK165 := am (blk_drew BK165.out)
         replace HB := am (below_drew1 HB.out)
         have p170 : 0 ≤ (x3_2 : Int) := of_decide_eq_true ab4
         have q170 : x3_2 < (l0_1.length : Int) := of_decide_eq_true ab4
         obtain ⟨ad170, e170, hx170_0⟩ := Kd.at_int HR0_1.out x3_2 p170 q170
         have hw170_0 := hx170_0
         cases e170
         replace hx170_0 := pc_ HB hx170_0
         replace p170 := eq_true p170
         replace q170 := eq_true q170
         have p172 : 0 ≤ (x3_2 : Int) := of_decide_eq_true ab4
         have q172 : x3_2 < (l0_1.length : Int) := of_decide_eq_true ab4
         obtain ⟨ad172, e172, hx172_0⟩ := Kd.at_int HR0_1.out x3_2 p172 q172
         have hw172_0 := hx172_0
         obtain rfl : ad170 = ad172 := (by injection e172)
         replace hx172_0 := pc_ HB hx172_0
         replace p172 := eq_true p172
         replace q172 := eq_true q172
         refine start_ (n := 20) (S := fun w' => w'.cell? ⟨gb165, 0, none⟩ = some (.slice A0_0 l0_0.length c0_0) ∧ w'.cell? ⟨gb165, 1, none⟩ = some (.slice (some ad170) l0_1.length c0_1) ∧ w'.cell? ⟨gb165, 2, none⟩ = some (.slice A0_2 l0_2.length c0_2) ∧ w'.cell? ⟨gb165, 3, none⟩ = some (.int .i64 a0_3) ∧ w'.cell? ⟨gb165, 4, none⟩ = some (.int .i64 a0_4) ∧ w'.cell? (ad170.add (x3_2).toNat) = some (.int .i64 (rd l0_1 x3_2)) ∧ w'.cell? (ad170.add (x3_2).toNat) = some (.int .i64 (rd l0_1 x3_2))) (ds := []) #[false, false, false, false, false, false, false, false, false, false, false, false, false, false, false, false, false, false, false, false] (by kernel_rfl) rfl rfl ⟨(blk_cell BK165.out 0).trans rfl, (blk_cell BK165.out 1).trans rfl, (blk_cell BK165.out 2).trans rfl, (blk_cell BK165.out 3).trans rfl, (blk_cell BK165.out 4).trans rfl, (pc_ HB hw170_0 :), (pc_ HB hw172_0 :)⟩ (fun hHeld => ?_); refine with_tabW spec_PageOk.tab6 spec_PageOk.bits6 (fun HT_ HW_ => ?_)
         generalize wr.drew = w48 at BK165 HB hx170_0 hx172_0 hHeld ⊢
         refine pa_ 0 54 HT_ ?_
         refine pa_ 2 56 HT_ ?_
         refine pa_ 4 58 HT_ ?_
         refine tk_ 1 55 HT_ HW_ hHeld ?_
         refine tk_ 3 57 HT_ HW_ hHeld ?_
         refine pa_ 5 59 HT_ ?_
         refine tk_ 6 60 HT_ HW_ hHeld ?_
         refine on_ 7 61 HT_ fun K hK => ?_
         refine goes_ Tryz.func51 (by kernel_rfl) rfl #[.slice A0_0 l0_0.length c0_0, .int .i64 (rd l0_1 x3_2), .string (⟨#[]⟩ : ByteArray)] (by rfl) rfl rfl ab5 ?_
         with_reducible refine (spec_l8Tag.calls _ _ l0_0 (rd l0_1 x3_2) (⟨#[]⟩ : ByteArray) true _ ?side1 ?side2 A41.out).mono ?_
         (case side1 => repeat (first | exact (Kd.C_below HR0_0.out HB.out) | (with_reducible refine Kd.C_alloc ?_ _) | (with_reducible refine Kd.C_drewN ?_ _) | (with_reducible refine Kd.C_drew ?_)))
         (case side2 => exact HC0_0.out)
         rintro e w' ⟨rfl, ⟨nd, rfl⟩⟩
         refine ⟨_, rfl, ?_⟩
         refine hK.out _ _ ⟨(blk_cell BK165.out 0).trans rfl, (blk_cell BK165.out 1).trans rfl, (blk_cell BK165.out 2).trans rfl, (blk_cell BK165.out 3).trans rfl, (blk_cell BK165.out 4).trans rfl, (pc_ HB hw170_0 :), (pc_ HB hw172_0 :)⟩ (fun hHeld => ?_)
         clear hK K
         refine nm_ ?_
         refine pa_ 8 62 HT_ ?_
         refine pa_ 9 63 HT_ ?_
         refine pa_ 10 64 HT_ ?_
         refine pa_ 12 66 HT_ ?_
         refine pa_ 14 68 HT_ ?_
         refine tk_ 11 65 HT_ HW_ hHeld ?_
         refine tk_ 13 67 HT_ HW_ hHeld ?_
         refine pa_ 15 69 HT_ ?_
         refine tk_ 16 70 HT_ HW_ hHeld ?_
         refine on_ 17 71 HT_ fun K hK => ?_
         refine goes_ Tryz.func43 (by kernel_rfl) rfl #[.slice (some ad170) l0_1.length c0_1, .int .i64 (rd l0_1 x3_2)] (by rfl) rfl rfl ab5 ?_
         with_reducible refine (spec_l6Count.calls k2 _ _ l0_1 (rd l0_1 x3_2) t173 _ ?side1 ?side2 A43.out).mono ?_
         (case side1 => repeat (first | exact (Kd.C_below HR0_1.out (ab2 GE165)) | (with_reducible refine Kd.C_alloc ?_ _) | (with_reducible refine Kd.C_drewN ?_ _) | (with_reducible refine Kd.C_drew ?_)))
         (case side2 => exact HC0_1.out)
         rintro e w' ⟨rfl, ⟨nd, rfl⟩⟩
         refine ⟨_, rfl, ?_⟩
         refine hK.out _ _ ⟨(blk_cell BK165.out 0).trans rfl, (blk_cell BK165.out 1).trans rfl, (blk_cell BK165.out 2).trans rfl, (blk_cell BK165.out 3).trans rfl, (blk_cell BK165.out 4).trans rfl, (pc_ HB hw170_0 :), (pc_ HB hw172_0 :)⟩ (fun hHeld => ?_)
         clear hK K
         refine nm_ ?_
         refine pa_ 18 72 HT_ ?_
         refine pa_ 19 73 HT_ ?_
         refine dn_ HT_ ?_
         try go_wp2
         go_ret
         exact ⟨ab7, ab2 GE165⟩
       ·obtain rfl := Option.some.inj H
        obtain ⟨⟨_, _, _, _, _⟩, _, _, _, _, _⟩ := Op.cells5 BK165.out
        try go_wp2
        replace BK165 := am (blk_drew BK165.out)
        replace HB := am (below_drew1 HB.out)
        have p170 : 0 ≤ (x3_2 : Int) := of_decide_eq_true ab4
        have q170 : x3_2 < (l0_1.length : Int) := of_decide_eq_true ab4
        obtain ⟨ad170, e170, hx170_0⟩ := Kd.at_int HR0_1.out x3_2 p170 q170
        have hw170_0 := hx170_0
        cases e170
        replace hx170_0 := pc_ HB hx170_0
        replace p170 := eq_true p170
        replace q170 := eq_true q170
        refine start_ (n := 20) (S := fun w' => w'.cell? ⟨gb165, 0, none⟩ = some (.slice A0_0 l0_0.length c0_0) ∧ w'.cell? ⟨gb165, 1, none⟩ = some (.slice (some ad170) l0_1.length c0_1) ∧ w'.cell? ⟨gb165, 2, none⟩ = some (.slice A0_2 l0_2.length c0_2) ∧ w'.cell? ⟨gb165, 3, none⟩ = some (.int .i64 a0_3) ∧ w'.cell? ⟨gb165, 4, none⟩ = some (.int .i64 a0_4) ∧ w'.cell? (ad170.add (x3_2).toNat) = some (.int .i64 (rd l0_1 x3_2))) (ds := []) #[false, false, false, false, false, false, false, false, false, false, false, false, false, false, false, false, false, false, false, false] (by kernel_rfl) rfl rfl ⟨(blk_cell BK165.out 0).trans rfl, (blk_cell BK165.out 1).trans rfl, (blk_cell BK165.out 2).trans rfl, (blk_cell BK165.out 3).trans rfl, (blk_cell BK165.out 4).trans rfl, (pc_ HB hw170_0 :)⟩ (fun hHeld => ?_); refine with_tabW spec_PageOk.tab6 spec_PageOk.bits6 (fun HT_ HW_ => ?_)
        generalize wr.drew = w50 at BK165 HB hx170_0 hHeld ⊢
        refine pa_ 0 54 HT_ ?_
        refine pa_ 2 56 HT_ ?_
        refine pa_ 4 58 HT_ ?_
        refine tk_ 1 55 HT_ HW_ hHeld ?_
        refine tk_ 3 57 HT_ HW_ hHeld ?_
        refine pa_ 5 59 HT_ ?_
        refine tk_ 6 60 HT_ HW_ hHeld ?_
        refine on_ 7 61 HT_ fun K hK => ?_
        refine goes_ Tryz.func51 (by kernel_rfl) rfl #[.slice A0_0 l0_0.length c0_0, .int .i64 (rd l0_1 x3_2), .string (⟨#[]⟩ : ByteArray)] (by rfl) rfl rfl ab5 ?_
        with_reducible refine (spec_l8Tag.calls _ _ l0_0 (rd l0_1 x3_2) (⟨#[]⟩ : ByteArray) false _ ?side1 ?side2 A41.out).mono ?_
        (case side1 => repeat (first | exact (Kd.C_below HR0_0.out HB.out) | (with_reducible refine Kd.C_alloc ?_ _) | (with_reducible refine Kd.C_drewN ?_ _) | (with_reducible refine Kd.C_drew ?_)))
        (case side2 => exact HC0_0.out)
        rintro e w' ⟨rfl, ⟨nd, rfl⟩⟩
        refine ⟨_, rfl, ?_⟩
        refine hK.out _ _ ⟨(blk_cell BK165.out 0).trans rfl, (blk_cell BK165.out 1).trans rfl, (blk_cell BK165.out 2).trans rfl, (blk_cell BK165.out 3).trans rfl, (blk_cell BK165.out 4).trans rfl, (pc_ HB hw170_0 :)⟩ (fun hHeld => ?_)
        clear hK K
        refine nm_ ?_
        refine pa_ 8 62 HT_ ?_
        refine pa_ 9 63 HT_ ?_
        refine pu_ 10 64 HT_ ?_
        refine pu_ 11 65 HT_ ?_
        refine pu_ 12 66 HT_ ?_
        refine pu_ 13 67 HT_ ?_
        refine pu_ 14 68 HT_ ?_
        refine pu_ 15 69 HT_ ?_
        refine pu_ 16 70 HT_ ?_
        refine pu_ 17 71 HT_ ?_
        refine pu_ 18 72 HT_ ?_
        refine pa_ 19 73 HT_ ?_
        refine dn_ HT_ ?_
        try go_wp2
        go_ret
        exact ⟨ab7, ab2 GE165⟩
      ·have H' := am H
       clear H
       obtain ⟨⟨_, _, _, _, _⟩, _, _, _, _, _⟩ := Op.cells5 BK165.out
       go_wp2
       go_loopg [4] k2 (fun kq v4 w' => ∃ (x4_3 : Int), v4 = .int .i64 x4_3 ∧ Aside0 (spec_PageOk.l1 kq x4_3 l0_0 l0_1 l0_2 a0_3 a0_4 = some r) ∧ Aside0 (kq ≤ k2) ∧ Aside0 (w'.heap[gb165]? = some (.cells #[(.slice A0_0 l0_0.length c0_0), (.slice A0_1 l0_1.length c0_1), (.slice A0_2 l0_2.length c0_2), .int .i64 a0_3, .int .i64 a0_4] 31 (0, 0))) ∧ Aside0 (Below w.heap.size w w'))
       case atStart => exact ⟨(0), ab6, H', ⟨Nat.le_refl _⟩, ⟨ab3 BK165⟩, ⟨ab2 GE165⟩⟩
       case round =>
        clear H'
        (try clear p1); (try clear q1); (try clear hx1); (try clear p2); (try clear c3); (try clear c4); (try clear c5); (try clear p6); (try clear p17); (try clear q17); (try clear hx17); (try clear c39); (try clear c39b0); (try clear c40); (try clear c42); (try clear c43); (try clear c44); (try clear c44b0); (try clear c44b1); (try clear c51); (try clear hcz47_0); (try clear hcz47_1); (try clear hcz47_2); (try clear hcz47_3); (try clear hcz47_4); (try clear hcz49_0); (try clear hcz49_1); (try clear hcz49_2); (try clear hcz49_3); (try clear hcz49_4); (try clear hcz51_0); (try clear hcz51_1); (try clear hcz51_2); (try clear hcz51_3); (try clear hcz51_4); (try clear hfz47_0); (try clear hfz47_1); (try clear hfz47_2); (try clear hfz47_3); (try clear hfz47_4); (try clear hfz49_0); (try clear hfz49_1); (try clear hfz49_2); (try clear hfz49_3); (try clear hfz49_4); (try clear hfz51_0); (try clear hfz51_1); (try clear hfz51_2); (try clear hfz51_3); (try clear hfz51_4); (try clear hx170_0); (try clear hx172_0); (try clear p170); (try clear p172); (try clear q170); (try clear q172)
        obtain ⟨x4_3, rfl, HA, HK3, BK165, HB⟩ := hrel
        cases gk with
        | zero => exact absurd HA.out (by simp [spec_PageOk.l1])
        | succ k3 =>
         have H := HA.out
         clear HA
         simp only [spec_PageOk.l1] at H
         replace H := ir_ H; rcases H with ⟨c52b0, H⟩ | ⟨c52b0, H⟩
         ·replace H := iq_ H; obtain ⟨c53b0, H⟩ := H
          replace H := ie_ H; rcases H with ⟨c54b0, c54b1, H⟩ | ⟨c54, c54b0, c54b1, H⟩
          ·have H' := am H
           clear H
           obtain ⟨⟨_, _, _, _, _⟩, _, _, _, _, _⟩ := Op.cells5 BK165.out
           try go_wp2
           replace BK165 := am (blk_drew BK165.out)
           replace HB := am (below_drew1 HB.out)
           have p174 : 0 ≤ (x4_3 : Int) := of_decide_eq_true ab4
           have q174 : x4_3 < (l0_2.length : Int) := of_decide_eq_true ab4
           obtain ⟨ad174, e174, hx174_0⟩ := Kd.at_int HR0_2.out x4_3 p174 q174
           have hw174_0 := hx174_0
           cases e174
           replace hx174_0 := pc_ HB hx174_0
           replace p174 := eq_true p174
           replace q174 := eq_true q174
           refine start_ (n := 31) (S := fun w' => w'.cell? ⟨gb165, 0, none⟩ = some (.slice A0_0 l0_0.length c0_0) ∧ w'.cell? ⟨gb165, 1, none⟩ = some (.slice A0_1 l0_1.length c0_1) ∧ w'.cell? ⟨gb165, 2, none⟩ = some (.slice (some ad174) l0_2.length c0_2) ∧ w'.cell? ⟨gb165, 3, none⟩ = some (.int .i64 a0_3) ∧ w'.cell? ⟨gb165, 4, none⟩ = some (.int .i64 a0_4) ∧ w'.cell? (ad174.add (x4_3).toNat) = some (.int .i64 (rd l0_2 x4_3))) (ds := []) #[false, false, false, false, false, false, false, false, false, false, false, false, false, false, false, false, false, false, false, false, false, false, false, false, false, false, false, false, false, false, false] (by kernel_rfl) rfl rfl ⟨(blk_cell BK165.out 0).trans rfl, (blk_cell BK165.out 1).trans rfl, (blk_cell BK165.out 2).trans rfl, (blk_cell BK165.out 3).trans rfl, (blk_cell BK165.out 4).trans rfl, (pc_ HB hw174_0 :)⟩ (fun hHeld => ?_); refine with_tabW spec_PageOk.tab11 spec_PageOk.bits11 (fun HT_ HW_ => ?_)
           generalize wr.drew = w56 at BK165 HB hx174_0 hHeld ⊢
           refine pa_ 0 81 HT_ ?_
           refine pa_ 2 83 HT_ ?_
           refine tk_ 1 82 HT_ HW_ hHeld ?_
           refine pa_ 3 84 HT_ ?_
           refine tk_ 4 85 HT_ HW_ hHeld ?_
           refine pa_ 5 86 HT_ ?_
           refine pa_ 6 87 HT_ ?_
           refine pu_ 7 88 HT_ ?_
           refine pu_ 8 89 HT_ ?_
           refine pu_ 9 90 HT_ ?_
           refine pu_ 10 91 HT_ ?_
           refine pu_ 11 92 HT_ ?_
           refine pu_ 12 93 HT_ ?_
           refine pu_ 13 94 HT_ ?_
           refine pu_ 14 95 HT_ ?_
           refine pu_ 15 96 HT_ ?_
           refine pu_ 16 97 HT_ ?_
           refine pu_ 17 98 HT_ ?_
           refine pu_ 18 99 HT_ ?_
           refine pu_ 19 100 HT_ ?_
           refine pu_ 20 101 HT_ ?_
           refine pu_ 21 102 HT_ ?_
           refine pu_ 22 103 HT_ ?_
           refine pu_ 23 104 HT_ ?_
           refine pu_ 24 105 HT_ ?_
           refine pu_ 25 106 HT_ ?_
           refine pu_ 26 107 HT_ ?_
           refine pu_ 27 108 HT_ ?_
           refine pu_ 28 109 HT_ ?_
           refine pu_ 29 110 HT_ ?_
           refine pa_ 30 111 HT_ ?_
           refine dn_ HT_ ?_
           try go_wp2
           go_roundg k3
           case measure => have := HJ1.out; have := HK2.out; have := HK3.out; omega
           case rel => exact ⟨(wrap64 (x4_3 + 1)), ab6, H', ⟨by have := HJ1.out; have := HK2.out; have := HK3.out; omega⟩, ⟨ab3 BK165⟩, ⟨ab2 GE165⟩⟩
          ·replace H := bi_ H; obtain ⟨t176, A57, H⟩ := H
           replace H := ib_ H; rcases H with ⟨rfl, H⟩ | ⟨rfl, H⟩
           ·replace H := iq_ H; obtain ⟨c59b0, H⟩ := H
            replace H := iq_ H; obtain ⟨c60b0, H⟩ := H
            replace H := bi_ H; obtain ⟨t179, A61, H⟩ := H
            replace H := ib_ H; rcases H with ⟨rfl, H⟩ | ⟨rfl, H⟩
            ·have H' := am H
             clear H
             obtain ⟨⟨_, _, _, _, _⟩, _, _, _, _, _⟩ := Op.cells5 BK165.out
             try go_wp2
             replace BK165 := am (blk_drew BK165.out)
             replace HB := am (below_drew1 HB.out)
             have p174 : 0 ≤ (x4_3 : Int) := of_decide_eq_true ab4
             have q174 : x4_3 < (l0_2.length : Int) := of_decide_eq_true ab4
             obtain ⟨ad174, e174, hx174_0⟩ := Kd.at_int HR0_2.out x4_3 p174 q174
             have hw174_0 := hx174_0
             cases e174
             replace hx174_0 := pc_ HB hx174_0
             replace p174 := eq_true p174
             replace q174 := eq_true q174
             have p175 : 0 ≤ (x4_3 : Int) := of_decide_eq_true ab4
             have q175 : x4_3 < (l0_2.length : Int) := of_decide_eq_true ab4
             obtain ⟨ad175, e175, hx175_0⟩ := Kd.at_int HR0_2.out x4_3 p175 q175
             have hw175_0 := hx175_0
             obtain rfl : ad174 = ad175 := (by injection e175)
             replace hx175_0 := pc_ HB hx175_0
             replace p175 := eq_true p175
             replace q175 := eq_true q175
             have p177 : 0 ≤ (x4_3 : Int) := of_decide_eq_true ab4
             have q177 : x4_3 < (l0_2.length : Int) := of_decide_eq_true ab4
             obtain ⟨ad177, e177, hx177_0⟩ := Kd.at_int HR0_2.out x4_3 p177 q177
             have hw177_0 := hx177_0
             obtain rfl : ad174 = ad177 := (by injection e177)
             replace hx177_0 := pc_ HB hx177_0
             replace p177 := eq_true p177
             replace q177 := eq_true q177
             obtain ⟨p178, q178, ad178, A178_3, c178_3, A178_6, c178_6, rfl, hx178_0, hx178_1, hx178_2, hx178_3, hx178_4, hx178_5, hx178_6, HC178_3, HR178_3, HC178_6, HR178_6, hw178⟩ := osT53 HB HR0_0.out (rd l0_2 x4_3) (of_decide_eq_true ab4) (of_decide_eq_true ab4)
             refine start_ (n := 31) (S := fun w' => w'.cell? ⟨gb165, 0, none⟩ = some (.slice (some ad178) l0_0.length c0_0) ∧ w'.cell? ⟨gb165, 1, none⟩ = some (.slice A0_1 l0_1.length c0_1) ∧ w'.cell? ⟨gb165, 2, none⟩ = some (.slice (some ad174) l0_2.length c0_2) ∧ w'.cell? ⟨gb165, 3, none⟩ = some (.int .i64 a0_3) ∧ w'.cell? ⟨gb165, 4, none⟩ = some (.int .i64 a0_4) ∧ w'.cell? (ad174.add (x4_3).toNat) = some (.int .i64 (rd l0_2 x4_3)) ∧ w'.cell? (ad174.add (x4_3).toNat) = some (.int .i64 (rd l0_2 x4_3)) ∧ w'.cell? (ad174.add (x4_3).toNat) = some (.int .i64 (rd l0_2 x4_3)) ∧ sT53 (ad178.add (((rd l0_2 x4_3)).toNat * 7)) (rd_T53 l0_0 (rd l0_2 x4_3)) A178_3 c178_3 A178_6 c178_6 Tr w') (ds := []) #[false, false, false, false, false, false, false, false, false, false, false, false, false, false, false, false, false, false, false, false, false, false, false, false, false, false, false, false, false, false, false] (by kernel_rfl) rfl rfl ⟨(blk_cell BK165.out 0).trans rfl, (blk_cell BK165.out 1).trans rfl, (blk_cell BK165.out 2).trans rfl, (blk_cell BK165.out 3).trans rfl, (blk_cell BK165.out 4).trans rfl, (pc_ HB hw174_0 :), (pc_ HB hw175_0 :), (pc_ HB hw177_0 :), (spT53 HB hw178 tr_ :)⟩ (fun hHeld => ?_); refine with_tabW spec_PageOk.tab11 spec_PageOk.bits11 (fun HT_ HW_ => ?_)
             generalize wr.drew = w64 at BK165 HB HR178_3 HR178_6 hx174_0 hx175_0 hx177_0 hx178_0 hx178_1 hx178_2 hx178_3 hx178_4 hx178_5 hx178_6 hHeld ⊢
             refine pa_ 0 81 HT_ ?_
             refine pa_ 2 83 HT_ ?_
             refine tk_ 1 82 HT_ HW_ hHeld ?_
             refine pa_ 3 84 HT_ ?_
             refine tk_ 4 85 HT_ HW_ hHeld ?_
             refine pa_ 5 86 HT_ ?_
             refine pa_ 6 87 HT_ ?_
             refine pa_ 7 88 HT_ ?_
             refine pa_ 9 90 HT_ ?_
             refine pa_ 11 92 HT_ ?_
             refine tk_ 8 89 HT_ HW_ hHeld ?_
             refine tk_ 10 91 HT_ HW_ hHeld ?_
             refine pa_ 12 93 HT_ ?_
             refine tk_ 13 94 HT_ HW_ hHeld ?_
             refine on_ 14 95 HT_ fun K hK => ?_
             refine goes_ Tryz.func51 (by kernel_rfl) rfl #[.slice (some ad178) l0_0.length c0_0, .int .i64 (rd l0_2 x4_3), .string (⟨#[]⟩ : ByteArray)] (by rfl) rfl rfl ab5 ?_
             with_reducible refine (spec_l8Tag.calls _ _ l0_0 (rd l0_2 x4_3) (⟨#[]⟩ : ByteArray) true _ ?side1 ?side2 A57.out).mono ?_
             (case side1 => repeat (first | exact (Kd.C_below HR0_0.out HB.out) | (with_reducible refine Kd.C_alloc ?_ _) | (with_reducible refine Kd.C_drewN ?_ _) | (with_reducible refine Kd.C_drew ?_)))
             (case side2 => exact HC0_0.out)
             rintro e w' ⟨rfl, ⟨nd, rfl⟩⟩
             refine ⟨_, rfl, ?_⟩
             refine hK.out _ _ ⟨(blk_cell BK165.out 0).trans rfl, (blk_cell BK165.out 1).trans rfl, (blk_cell BK165.out 2).trans rfl, (blk_cell BK165.out 3).trans rfl, (blk_cell BK165.out 4).trans rfl, (pc_ HB hw174_0 :), (pc_ HB hw175_0 :), (pc_ HB hw177_0 :), (spT53 HB hw178 tr_ :)⟩ (fun hHeld => ?_)
             clear hK K
             refine nm_ ?_
             refine pa_ 15 96 HT_ ?_
             refine pa_ 16 97 HT_ ?_
             refine pa_ 17 98 HT_ ?_
             refine pa_ 19 100 HT_ ?_
             refine pa_ 21 102 HT_ ?_
             refine tk_ 18 99 HT_ HW_ hHeld ?_
             refine tk_ 20 101 HT_ HW_ hHeld ?_
             refine pa_ 22 103 HT_ ?_
             refine tk_ 23 104 HT_ HW_ hHeld ?_
             refine pa_ 24 105 HT_ ?_
             refine pa_ 25 106 HT_ ?_
             refine tk_ 26 107 HT_ HW_ hHeld ?_
             refine on_ 27 108 HT_ fun K hK => ?_
             refine goes_ Tryz.func52 (by kernel_rfl) rfl #[.string ((rd_T53 l0_0 (rd l0_2 x4_3)).f2)] (by rfl) rfl rfl ab5 ?_
             with_reducible refine (spec_Format.calls k3 ((rd_T53 l0_0 (rd l0_2 x4_3)).f2) true _ A61.out).mono ?_
             rintro e w65 ⟨rfl, hb⟩
             refine ⟨_, rfl, ?_⟩
             replace BK165 := bl_ BK165 hb
             replace HB := am (below_step (ab2 GE165) hb)
             (try clear hb)
             refine hK.out _ _ ⟨(blk_cell BK165.out 0).trans rfl, (blk_cell BK165.out 1).trans rfl, (blk_cell BK165.out 2).trans rfl, (blk_cell BK165.out 3).trans rfl, (blk_cell BK165.out 4).trans rfl, (pc_ HB hw174_0 :), (pc_ HB hw175_0 :), (pc_ HB hw177_0 :), (spT53 HB hw178 tr_ :)⟩ (fun hHeld => ?_)
             clear hK K
             refine nm_ ?_
             refine pa_ 28 109 HT_ ?_
             refine pa_ 29 110 HT_ ?_
             refine pa_ 30 111 HT_ ?_
             refine dn_ HT_ ?_
             try go_wp2
             go_roundg k3
             case measure => have := HJ1.out; have := HK2.out; have := HK3.out; omega
             case rel => exact ⟨(wrap64 (x4_3 + 1)), ab6, H', ⟨by have := HJ1.out; have := HK2.out; have := HK3.out; omega⟩, ⟨ab3 BK165⟩, ⟨ab2 GE165⟩⟩
            ·obtain rfl := Option.some.inj H
             obtain ⟨⟨_, _, _, _, _⟩, _, _, _, _, _⟩ := Op.cells5 BK165.out
             try go_wp2
             replace BK165 := am (blk_drew BK165.out)
             replace HB := am (below_drew1 HB.out)
             have p174 : 0 ≤ (x4_3 : Int) := of_decide_eq_true ab4
             have q174 : x4_3 < (l0_2.length : Int) := of_decide_eq_true ab4
             obtain ⟨ad174, e174, hx174_0⟩ := Kd.at_int HR0_2.out x4_3 p174 q174
             have hw174_0 := hx174_0
             cases e174
             replace hx174_0 := pc_ HB hx174_0
             replace p174 := eq_true p174
             replace q174 := eq_true q174
             have p175 : 0 ≤ (x4_3 : Int) := of_decide_eq_true ab4
             have q175 : x4_3 < (l0_2.length : Int) := of_decide_eq_true ab4
             obtain ⟨ad175, e175, hx175_0⟩ := Kd.at_int HR0_2.out x4_3 p175 q175
             have hw175_0 := hx175_0
             obtain rfl : ad174 = ad175 := (by injection e175)
             replace hx175_0 := pc_ HB hx175_0
             replace p175 := eq_true p175
             replace q175 := eq_true q175
             have p177 : 0 ≤ (x4_3 : Int) := of_decide_eq_true ab4
             have q177 : x4_3 < (l0_2.length : Int) := of_decide_eq_true ab4
             obtain ⟨ad177, e177, hx177_0⟩ := Kd.at_int HR0_2.out x4_3 p177 q177
             have hw177_0 := hx177_0
             obtain rfl : ad174 = ad177 := (by injection e177)
             replace hx177_0 := pc_ HB hx177_0
             replace p177 := eq_true p177
             replace q177 := eq_true q177
             obtain ⟨p178, q178, ad178, A178_3, c178_3, A178_6, c178_6, rfl, hx178_0, hx178_1, hx178_2, hx178_3, hx178_4, hx178_5, hx178_6, HC178_3, HR178_3, HC178_6, HR178_6, hw178⟩ := osT53 HB HR0_0.out (rd l0_2 x4_3) (of_decide_eq_true ab4) (of_decide_eq_true ab4)
             refine start_ (n := 31) (S := fun w' => w'.cell? ⟨gb165, 0, none⟩ = some (.slice (some ad178) l0_0.length c0_0) ∧ w'.cell? ⟨gb165, 1, none⟩ = some (.slice A0_1 l0_1.length c0_1) ∧ w'.cell? ⟨gb165, 2, none⟩ = some (.slice (some ad174) l0_2.length c0_2) ∧ w'.cell? ⟨gb165, 3, none⟩ = some (.int .i64 a0_3) ∧ w'.cell? ⟨gb165, 4, none⟩ = some (.int .i64 a0_4) ∧ w'.cell? (ad174.add (x4_3).toNat) = some (.int .i64 (rd l0_2 x4_3)) ∧ w'.cell? (ad174.add (x4_3).toNat) = some (.int .i64 (rd l0_2 x4_3)) ∧ w'.cell? (ad174.add (x4_3).toNat) = some (.int .i64 (rd l0_2 x4_3)) ∧ sT53 (ad178.add (((rd l0_2 x4_3)).toNat * 7)) (rd_T53 l0_0 (rd l0_2 x4_3)) A178_3 c178_3 A178_6 c178_6 Tr w') (ds := []) #[false, false, false, false, false, false, false, false, false, false, false, false, false, false, false, false, false, false, false, false, false, false, false, false, false, false, false, false, false, false, false] (by kernel_rfl) rfl rfl ⟨(blk_cell BK165.out 0).trans rfl, (blk_cell BK165.out 1).trans rfl, (blk_cell BK165.out 2).trans rfl, (blk_cell BK165.out 3).trans rfl, (blk_cell BK165.out 4).trans rfl, (pc_ HB hw174_0 :), (pc_ HB hw175_0 :), (pc_ HB hw177_0 :), (spT53 HB hw178 tr_ :)⟩ (fun hHeld => ?_); refine with_tabW spec_PageOk.tab11 spec_PageOk.bits11 (fun HT_ HW_ => ?_)
             generalize wr.drew = w67 at BK165 HB HR178_3 HR178_6 hx174_0 hx175_0 hx177_0 hx178_0 hx178_1 hx178_2 hx178_3 hx178_4 hx178_5 hx178_6 hHeld ⊢
             refine pa_ 0 81 HT_ ?_
             refine pa_ 2 83 HT_ ?_
             refine tk_ 1 82 HT_ HW_ hHeld ?_
             refine pa_ 3 84 HT_ ?_
             refine tk_ 4 85 HT_ HW_ hHeld ?_
             refine pa_ 5 86 HT_ ?_
             refine pa_ 6 87 HT_ ?_
             refine pa_ 7 88 HT_ ?_
             refine pa_ 9 90 HT_ ?_
             refine pa_ 11 92 HT_ ?_
             refine tk_ 8 89 HT_ HW_ hHeld ?_
             refine tk_ 10 91 HT_ HW_ hHeld ?_
             refine pa_ 12 93 HT_ ?_
             refine tk_ 13 94 HT_ HW_ hHeld ?_
             refine on_ 14 95 HT_ fun K hK => ?_
             refine goes_ Tryz.func51 (by kernel_rfl) rfl #[.slice (some ad178) l0_0.length c0_0, .int .i64 (rd l0_2 x4_3), .string (⟨#[]⟩ : ByteArray)] (by rfl) rfl rfl ab5 ?_
             with_reducible refine (spec_l8Tag.calls _ _ l0_0 (rd l0_2 x4_3) (⟨#[]⟩ : ByteArray) true _ ?side1 ?side2 A57.out).mono ?_
             (case side1 => repeat (first | exact (Kd.C_below HR0_0.out HB.out) | (with_reducible refine Kd.C_alloc ?_ _) | (with_reducible refine Kd.C_drewN ?_ _) | (with_reducible refine Kd.C_drew ?_)))
             (case side2 => exact HC0_0.out)
             rintro e w' ⟨rfl, ⟨nd, rfl⟩⟩
             refine ⟨_, rfl, ?_⟩
             refine hK.out _ _ ⟨(blk_cell BK165.out 0).trans rfl, (blk_cell BK165.out 1).trans rfl, (blk_cell BK165.out 2).trans rfl, (blk_cell BK165.out 3).trans rfl, (blk_cell BK165.out 4).trans rfl, (pc_ HB hw174_0 :), (pc_ HB hw175_0 :), (pc_ HB hw177_0 :), (spT53 HB hw178 tr_ :)⟩ (fun hHeld => ?_)
             clear hK K
             refine nm_ ?_
             refine pa_ 15 96 HT_ ?_
             refine pa_ 16 97 HT_ ?_
             refine pa_ 17 98 HT_ ?_
             refine pa_ 19 100 HT_ ?_
             refine pa_ 21 102 HT_ ?_
             refine tk_ 18 99 HT_ HW_ hHeld ?_
             refine tk_ 20 101 HT_ HW_ hHeld ?_
             refine pa_ 22 103 HT_ ?_
             refine tk_ 23 104 HT_ HW_ hHeld ?_
             refine pa_ 24 105 HT_ ?_
             refine pa_ 25 106 HT_ ?_
             refine tk_ 26 107 HT_ HW_ hHeld ?_
             refine on_ 27 108 HT_ fun K hK => ?_
             refine goes_ Tryz.func52 (by kernel_rfl) rfl #[.string ((rd_T53 l0_0 (rd l0_2 x4_3)).f2)] (by rfl) rfl rfl ab5 ?_
             with_reducible refine (spec_Format.calls k3 ((rd_T53 l0_0 (rd l0_2 x4_3)).f2) false _ A61.out).mono ?_
             rintro e w68 ⟨rfl, hb⟩
             refine ⟨_, rfl, ?_⟩
             replace BK165 := bl_ BK165 hb
             replace HB := am (below_step (ab2 GE165) hb)
             (try clear hb)
             refine hK.out _ _ ⟨(blk_cell BK165.out 0).trans rfl, (blk_cell BK165.out 1).trans rfl, (blk_cell BK165.out 2).trans rfl, (blk_cell BK165.out 3).trans rfl, (blk_cell BK165.out 4).trans rfl, (pc_ HB hw174_0 :), (pc_ HB hw175_0 :), (pc_ HB hw177_0 :), (spT53 HB hw178 tr_ :)⟩ (fun hHeld => ?_)
             clear hK K
             refine nm_ ?_
             refine pa_ 28 109 HT_ ?_
             refine pa_ 29 110 HT_ ?_
             refine pa_ 30 111 HT_ ?_
             refine dn_ HT_ ?_
             try go_wp2
             go_ret
             exact ⟨ab7, ab2 GE165⟩
           ·obtain rfl := Option.some.inj H
            obtain ⟨⟨_, _, _, _, _⟩, _, _, _, _, _⟩ := Op.cells5 BK165.out
            try go_wp2
            replace BK165 := am (blk_drew BK165.out)
            replace HB := am (below_drew1 HB.out)
            have p174 : 0 ≤ (x4_3 : Int) := of_decide_eq_true ab4
            have q174 : x4_3 < (l0_2.length : Int) := of_decide_eq_true ab4
            obtain ⟨ad174, e174, hx174_0⟩ := Kd.at_int HR0_2.out x4_3 p174 q174
            have hw174_0 := hx174_0
            cases e174
            replace hx174_0 := pc_ HB hx174_0
            replace p174 := eq_true p174
            replace q174 := eq_true q174
            have p175 : 0 ≤ (x4_3 : Int) := of_decide_eq_true ab4
            have q175 : x4_3 < (l0_2.length : Int) := of_decide_eq_true ab4
            obtain ⟨ad175, e175, hx175_0⟩ := Kd.at_int HR0_2.out x4_3 p175 q175
            have hw175_0 := hx175_0
            obtain rfl : ad174 = ad175 := (by injection e175)
            replace hx175_0 := pc_ HB hx175_0
            replace p175 := eq_true p175
            replace q175 := eq_true q175
            refine start_ (n := 31) (S := fun w' => w'.cell? ⟨gb165, 0, none⟩ = some (.slice A0_0 l0_0.length c0_0) ∧ w'.cell? ⟨gb165, 1, none⟩ = some (.slice A0_1 l0_1.length c0_1) ∧ w'.cell? ⟨gb165, 2, none⟩ = some (.slice (some ad174) l0_2.length c0_2) ∧ w'.cell? ⟨gb165, 3, none⟩ = some (.int .i64 a0_3) ∧ w'.cell? ⟨gb165, 4, none⟩ = some (.int .i64 a0_4) ∧ w'.cell? (ad174.add (x4_3).toNat) = some (.int .i64 (rd l0_2 x4_3)) ∧ w'.cell? (ad174.add (x4_3).toNat) = some (.int .i64 (rd l0_2 x4_3))) (ds := []) #[false, false, false, false, false, false, false, false, false, false, false, false, false, false, false, false, false, false, false, false, false, false, false, false, false, false, false, false, false, false, false] (by kernel_rfl) rfl rfl ⟨(blk_cell BK165.out 0).trans rfl, (blk_cell BK165.out 1).trans rfl, (blk_cell BK165.out 2).trans rfl, (blk_cell BK165.out 3).trans rfl, (blk_cell BK165.out 4).trans rfl, (pc_ HB hw174_0 :), (pc_ HB hw175_0 :)⟩ (fun hHeld => ?_); refine with_tabW spec_PageOk.tab11 spec_PageOk.bits11 (fun HT_ HW_ => ?_)
            generalize wr.drew = w70 at BK165 HB hx174_0 hx175_0 hHeld ⊢
            refine pa_ 0 81 HT_ ?_
            refine pa_ 2 83 HT_ ?_
            refine tk_ 1 82 HT_ HW_ hHeld ?_
            refine pa_ 3 84 HT_ ?_
            refine tk_ 4 85 HT_ HW_ hHeld ?_
            refine pa_ 5 86 HT_ ?_
            refine pa_ 6 87 HT_ ?_
            refine pa_ 7 88 HT_ ?_
            refine pa_ 9 90 HT_ ?_
            refine pa_ 11 92 HT_ ?_
            refine tk_ 8 89 HT_ HW_ hHeld ?_
            refine tk_ 10 91 HT_ HW_ hHeld ?_
            refine pa_ 12 93 HT_ ?_
            refine tk_ 13 94 HT_ HW_ hHeld ?_
            refine on_ 14 95 HT_ fun K hK => ?_
            refine goes_ Tryz.func51 (by kernel_rfl) rfl #[.slice A0_0 l0_0.length c0_0, .int .i64 (rd l0_2 x4_3), .string (⟨#[]⟩ : ByteArray)] (by rfl) rfl rfl ab5 ?_
            with_reducible refine (spec_l8Tag.calls _ _ l0_0 (rd l0_2 x4_3) (⟨#[]⟩ : ByteArray) false _ ?side1 ?side2 A57.out).mono ?_
            (case side1 => repeat (first | exact (Kd.C_below HR0_0.out HB.out) | (with_reducible refine Kd.C_alloc ?_ _) | (with_reducible refine Kd.C_drewN ?_ _) | (with_reducible refine Kd.C_drew ?_)))
            (case side2 => exact HC0_0.out)
            rintro e w' ⟨rfl, ⟨nd, rfl⟩⟩
            refine ⟨_, rfl, ?_⟩
            refine hK.out _ _ ⟨(blk_cell BK165.out 0).trans rfl, (blk_cell BK165.out 1).trans rfl, (blk_cell BK165.out 2).trans rfl, (blk_cell BK165.out 3).trans rfl, (blk_cell BK165.out 4).trans rfl, (pc_ HB hw174_0 :), (pc_ HB hw175_0 :)⟩ (fun hHeld => ?_)
            clear hK K
            refine nm_ ?_
            refine pa_ 15 96 HT_ ?_
            refine pa_ 16 97 HT_ ?_
            refine pu_ 17 98 HT_ ?_
            refine pu_ 18 99 HT_ ?_
            refine pu_ 19 100 HT_ ?_
            refine pu_ 20 101 HT_ ?_
            refine pu_ 21 102 HT_ ?_
            refine pu_ 22 103 HT_ ?_
            refine pu_ 23 104 HT_ ?_
            refine pu_ 24 105 HT_ ?_
            refine pu_ 25 106 HT_ ?_
            refine pu_ 26 107 HT_ ?_
            refine pu_ 27 108 HT_ ?_
            refine pu_ 28 109 HT_ ?_
            refine pa_ 29 110 HT_ ?_
            refine pa_ 30 111 HT_ ?_
            refine dn_ HT_ ?_
            try go_wp2
            go_ret
            exact ⟨ab7, ab2 GE165⟩
         ·obtain rfl := Option.some.inj H
          obtain ⟨⟨_, _, _, _, _⟩, _, _, _, _, _⟩ := Op.cells5 BK165.out
          go_wp2
          go_ret
          exact ⟨ab7, ab2 GE165⟩
end Go.Proofs.YtekkalnafngfeaaGreat.P
