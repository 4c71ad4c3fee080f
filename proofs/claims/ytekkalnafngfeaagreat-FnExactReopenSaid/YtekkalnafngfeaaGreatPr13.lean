-- WRITTEN BY this session's own programs
import Derived.Test.YtekkalnafngfeaaGreatPr2
import Derived.Test.YtekkalnafngfeaaGreatPr10
namespace Go.Proofs.YtekkalnafngfeaaGreat.P
open Go.RowKit Go.Proofs.YtekkalnafngfeaaGreatW.PrintWords Go.Proofs.YtekkalnafngfeaaGreatW.PrintLast Go.Proofs.YtekkalnafngfeaaGreatW.PrintMore
set_option linter.unusedVariables false
set_option linter.unusedSimpArgs false
set_option maxHeartbeats 8000000
set_option maxRecDepth 100000
attribute [local go_sem] max2_int min2_int max_two min_two max_three min_three max_four min_four
mutual
def spec_TreeOk.j0 : Nat → List (S53) → Bool → Option (Bool)
 | 0, _, _ => none
 | k + 1, x0, x14 => if x14 = true then (some false) else (spec_TreeOk.l0 k x0 0)
def spec_TreeOk.l0 : Nat → List (S53) → Int → Option (Bool)
 | 0, _, _ => none
 | k + 1, x0, x3 => if x3 < (x0.length : Int) then (if 0 ≤ x3 then ((spec_l6Plain.f k ((rd_T53 x0 x3).f0) ((rd_T53 x0 x3).f1) ((rd_T53 x0 x3).f2) ((rd_T53 x0 x3).f3) ((rd_T53 x0 x3).f4) ((rd_T53 x0 x3).f5) ((rd_T53 x0 x3).f6)).bind fun t247 => (if t247 = true then (if x3 > 0 then (if ((rd_T53 x0 x3).f0) = 1 then (some false) else (spec_TreeOk.l0 k x0 (wrap64 (x3 + 1)))) else (spec_TreeOk.l0 k x0 (wrap64 (x3 + 1)))) else (some false))) else (none)) else ((spec_l6Links.f k x0).bind fun t249 => (if t249 = true then ((spec_l6Order.f k x0 0 (([] : List Int))).bind fun t253 => (some ((t253.length : Int) == (x0.length : Int)))) else (some false)))
end
def spec_TreeOk.f (k : Nat) (l0 : List (S53)) : Option (Bool) := (spec_l1In.f (l0.length : Int) 1 3000).bind fun t244 => (if t244 = true then (if 0 < (l0.length : Int) then (spec_TreeOk.j0 k l0 (((rd_T53 l0 0).f0) != 1)) else (none)) else (spec_TreeOk.j0 k l0 true))
theorem spec_TreeOk.calls (k : Nat) (A0 : Option Addr) (c0 : Nat) (l0 : List (S53)) (r : Bool) (w : World) (hr0 : Kd.C k53 w A0 l0.length l0) (hc0 : l0.length ≤ c0) (h : spec_TreeOk.f k l0 = some r) :
  Calls Tryz.prog 50 #[.slice A0 l0.length c0] w fun e w' => e = .returned (.bool r) ∧ Below w.heap.size w w' := by
 have hu53 := Tryz.underlying53
 have HR0 := am hr0
 have HC0 := am hc0
 clear hr0 hc0
 have HB := am (Below.refl w.heap.size w)
 have H : ((spec_l1In.f (l0.length : Int) 1 3000).bind fun t244 => (if t244 = true then (if 0 < (l0.length : Int) then (spec_TreeOk.j0 k l0 (((rd_T53 l0 0).f0) != 1)) else (none)) else (spec_TreeOk.j0 k l0 true))) = some r := h
 clear h
 have HC2 := am H
 clear H
 go_enter Tryz.func50, Tryz.ntmps50
 go_upto_region 1 with (fail)
 go_cut [14] (fun v14 wc => ∃ (kq : Nat) (x14_1 : Bool), v14 = .bool x14_1 ∧ Aside0 (spec_TreeOk.j0 kq l0 x14_1 = some r) ∧ Aside0 (kq ≤ k) ∧ Aside0 (Below w.heap.size w wc))
 case first =>
  have H := HC2.out
  clear HC2
  replace H := bi_ H; obtain ⟨t244, A3, H⟩ := H
  replace H := ib_ H; rcases H with ⟨rfl, H⟩ | ⟨rfl, H⟩
  ·by_cases c5 : 0 < (l0.length : Int)
   case neg => rw [if_neg c5] at H; exact absurd H (by simp)
   rw [if_pos c5] at H
   have c5b0 := decide_eq_true c5
   have c5b1 : decide (0 < l0.length) = true := decide_eq_true (by omega)
   clear c5
   (first | rw [c5b0] | (simp only [i64_w, i32_w]; rw [c5b0]) | skip)
   (try (generalize hgzc5 : decide (0 < (l0.length : Int)) = bqc5 at *; subst c5b0; have c5b0 := hgzc5; clear hgzc5))
   have H' := am H
   clear H
   go_wp2_with (first | ((with_reducible refine gf_ 77 ?_); refine gc_ Tryz.func77 (spec_l1In.calls (l0.length : Int) 1 3000 true _ A3.out) ?_; rintro w' ⟨nd, rfl⟩; have p245 : 0 ≤ (0 : Int) := (by omega); have q245 : 0 < (l0.length : Int) := of_decide_eq_true ab4; obtain ⟨ad245, A245_3, c245_3, A245_6, c245_6, e245, hx245_0, hx245_1, hx245_2, hx245_3, hx245_4, hx245_5, hx245_6, hl245_3, hi245_3, hl245_6, hi245_6⟩ := at_T53 HR0.out 0 p245 q245; cases e245; have qi245 : (0 < l0.length) = True := eq_true (by omega); (try rw [show ((0 : Int)).toNat = 0 from rfl] at hx245_0); (try rw [show 0 * 7 = 0 from rfl] at hx245_0); (try rw [Addr.add_zero'] at hx245_0); (try rw [show ((0 : Int)).toNat = 0 from rfl] at hx245_1); (try rw [show 0 * 7 = 0 from rfl] at hx245_1); (try rw [Addr.add_zero'] at hx245_1); (try rw [show ((0 : Int)).toNat = 0 from rfl] at hx245_2); (try rw [show 0 * 7 = 0 from rfl] at hx245_2); (try rw [Addr.add_zero'] at hx245_2); (try rw [show ((0 : Int)).toNat = 0 from rfl] at hx245_3); (try rw [show 0 * 7 = 0 from rfl] at hx245_3); (try rw [Addr.add_zero'] at hx245_3); (try rw [show ((0 : Int)).toNat = 0 from rfl] at hx245_4); (try rw [show 0 * 7 = 0 from rfl] at hx245_4); (try rw [Addr.add_zero'] at hx245_4); (try rw [show ((0 : Int)).toNat = 0 from rfl] at hx245_5); (try rw [show 0 * 7 = 0 from rfl] at hx245_5); (try rw [Addr.add_zero'] at hx245_5); (try rw [show ((0 : Int)).toNat = 0 from rfl] at hx245_6); (try rw [show 0 * 7 = 0 from rfl] at hx245_6); (try rw [Addr.add_zero'] at hx245_6); replace hx245_0 := pc_ HB hx245_0; replace hx245_1 := pc_ HB hx245_1; replace hx245_2 := pc_ HB hx245_2; replace hx245_3 := pc_ HB hx245_3; replace hx245_4 := pc_ HB hx245_4; replace hx245_5 := pc_ HB hx245_5; replace hx245_6 := pc_ HB hx245_6; have HR245_3 := am hi245_3; have HC245_3 := am hl245_3; clear hi245_3 hl245_3; have HR245_6 := am hi245_6; have HC245_6 := am hl245_6; clear hi245_6 hl245_6; replace p245 := eq_true p245; replace q245 := eq_true q245))
   go_meet
   case rel => exact ⟨_, ((((rd_T53 l0 0).f0) != 1)), ab6, (by first | exact H' | (have h_ := H'.out; rw [c5b0] at h_; exact ⟨h_⟩)), ⟨by first | omega | exact Nat.le_refl _⟩, ⟨ab1⟩⟩
  ·have H' := am H
   clear H
   go_wp2_with (first | ((with_reducible refine gf_ 77 ?_); refine gc_ Tryz.func77 (spec_l1In.calls (l0.length : Int) 1 3000 false _ A3.out) ?_; rintro w' ⟨nd, rfl⟩))
   go_meet
   case rel => exact ⟨_, (true), ab6, H', ⟨by first | omega | exact Nat.le_refl _⟩, ⟨ab1⟩⟩
 case rest =>
  clear HC2
  (try clear c2); (try clear p2); (try clear q2); (try clear hx2); (try clear qi2); (try clear c4); (try clear c5); (try clear c5b0); (try clear c5b1); (try clear hx245_0); (try clear hx245_1); (try clear hx245_2); (try clear hx245_3); (try clear hx245_4); (try clear hx245_5); (try clear hx245_6); (try clear p245); (try clear q245)
  obtain ⟨kq, x14_1, rfl, HA, HJ1, HB⟩ := hcut
  cases kq with
  | zero => exact absurd HA.out (by simp [spec_TreeOk.j0])
  | succ kj1 =>
   have H := HA.out
   clear HA
   simp only [spec_TreeOk.j0] at H
   replace H := ib_ H; rcases H with ⟨rfl, H⟩ | ⟨rfl, H⟩
   ·obtain rfl := Option.some.inj H
    go_wp2
    go_ret
    exact ⟨ab7, ab1⟩
   ·have H' := am H
    clear H
    go_wp2
    go_loopg [3] kj1 (fun kq v3 w' => ∃ (x3_2 : Int), v3 = .int .i64 x3_2 ∧ Aside0 (spec_TreeOk.l0 kq l0 x3_2 = some r) ∧ Aside0 (kq ≤ kj1) ∧ Aside0 (Below w.heap.size w w'))
    case atStart => exact ⟨(0), ab6, H', ⟨Nat.le_refl _⟩, ⟨ab1⟩⟩
    case round =>
     clear H'
     (try clear c2); (try clear p2); (try clear q2); (try clear hx2); (try clear qi2); (try clear c4); (try clear c5); (try clear c5b0); (try clear c5b1); (try clear c6); (try clear hx245_0); (try clear hx245_1); (try clear hx245_2); (try clear hx245_3); (try clear hx245_4); (try clear hx245_5); (try clear hx245_6); (try clear p2); (try clear p245); (try clear q2); (try clear q245)
     obtain ⟨x3_2, rfl, HA, HK2, HB⟩ := hrel
     cases gk with
     | zero => exact absurd HA.out (by simp [spec_TreeOk.l0])
     | succ k2 =>
      have H := HA.out
      clear HA
      simp only [spec_TreeOk.l0] at H
      replace H := ir_ H; rcases H with ⟨c7b0, H⟩ | ⟨c7b0, H⟩
      ·replace H := iq_ H; obtain ⟨c8b0, H⟩ := H
       replace H := bi_ H; obtain ⟨t247, A9, H⟩ := H
       replace H := ib_ H; rcases H with ⟨rfl, H⟩ | ⟨rfl, H⟩
       ·by_cases c11 : x3_2 > 0
        ·rw [if_pos c11] at H
         have c11b0 : decide (0 < x3_2) = true := decide_eq_true c11
         clear c11
         replace H := ie_ H; rcases H with ⟨c12b0, c12b1, H⟩ | ⟨c12, c12b0, c12b1, H⟩
         ·obtain rfl := Option.some.inj H
          obtain ⟨p246, q246, ad246, A246_3, c246_3, A246_6, c246_6, rfl, hx246_0, hx246_1, hx246_2, hx246_3, hx246_4, hx246_5, hx246_6, HC246_3, HR246_3, HC246_6, HR246_6⟩ := otT53 HB HR0.out x3_2 (of_decide_eq_true ab4) (of_decide_eq_true ab4)
          go_wp2_with (first | ((with_reducible refine gf_ 78 ?_); refine gc_ Tryz.func78 (spec_l6Plain.calls k2 ((rd_T53 l0 x3_2).f0) ((rd_T53 l0 x3_2).f1) ((rd_T53 l0 x3_2).f2) _ _ ((rd_T53 l0 x3_2).f3) ((rd_T53 l0 x3_2).f4) ((rd_T53 l0 x3_2).f5) _ _ ((rd_T53 l0 x3_2).f6) true _ (sc_ HR246_3) HC246_3.out (sc_ HR246_6) HC246_6.out A9.out) ?_; rintro w13 hb; replace HB := am (below_step ab1 hb); (try clear hb); have p248 : 0 ≤ (x3_2 : Int) := of_decide_eq_true ab4; have q248 : x3_2 < (l0.length : Int) := of_decide_eq_true ab4; obtain ⟨ad248, A248_3, c248_3, A248_6, c248_6, e248, hx248_0, hx248_1, hx248_2, hx248_3, hx248_4, hx248_5, hx248_6, hl248_3, hi248_3, hl248_6, hi248_6⟩ := at_T53 HR0.out x3_2 p248 q248; obtain rfl : ad246 = ad248 := (by injection e248); replace hx248_0 := pc_ HB hx248_0; replace hx248_1 := pc_ HB hx248_1; replace hx248_2 := pc_ HB hx248_2; replace hx248_3 := pc_ HB hx248_3; replace hx248_4 := pc_ HB hx248_4; replace hx248_5 := pc_ HB hx248_5; replace hx248_6 := pc_ HB hx248_6; have HR248_3 := am hi248_3; have HC248_3 := am hl248_3; clear hi248_3 hl248_3; have HR248_6 := am hi248_6; have HC248_6 := am hl248_6; clear hi248_6 hl248_6; replace p248 := eq_true p248; replace q248 := eq_true q248))
          go_ret
          exact ⟨ab7, ab1⟩
         ·have H' := am H
          clear H
          obtain ⟨p246, q246, ad246, A246_3, c246_3, A246_6, c246_6, rfl, hx246_0, hx246_1, hx246_2, hx246_3, hx246_4, hx246_5, hx246_6, HC246_3, HR246_3, HC246_6, HR246_6⟩ := otT53 HB HR0.out x3_2 (of_decide_eq_true ab4) (of_decide_eq_true ab4)
          go_wp2_with (first | ((with_reducible refine gf_ 78 ?_); refine gc_ Tryz.func78 (spec_l6Plain.calls k2 ((rd_T53 l0 x3_2).f0) ((rd_T53 l0 x3_2).f1) ((rd_T53 l0 x3_2).f2) _ _ ((rd_T53 l0 x3_2).f3) ((rd_T53 l0 x3_2).f4) ((rd_T53 l0 x3_2).f5) _ _ ((rd_T53 l0 x3_2).f6) true _ (sc_ HR246_3) HC246_3.out (sc_ HR246_6) HC246_6.out A9.out) ?_; rintro w14 hb; replace HB := am (below_step ab1 hb); (try clear hb); have p248 : 0 ≤ (x3_2 : Int) := of_decide_eq_true ab4; have q248 : x3_2 < (l0.length : Int) := of_decide_eq_true ab4; obtain ⟨ad248, A248_3, c248_3, A248_6, c248_6, e248, hx248_0, hx248_1, hx248_2, hx248_3, hx248_4, hx248_5, hx248_6, hl248_3, hi248_3, hl248_6, hi248_6⟩ := at_T53 HR0.out x3_2 p248 q248; obtain rfl : ad246 = ad248 := (by injection e248); replace hx248_0 := pc_ HB hx248_0; replace hx248_1 := pc_ HB hx248_1; replace hx248_2 := pc_ HB hx248_2; replace hx248_3 := pc_ HB hx248_3; replace hx248_4 := pc_ HB hx248_4; replace hx248_5 := pc_ HB hx248_5; replace hx248_6 := pc_ HB hx248_6; have HR248_3 := am hi248_3; have HC248_3 := am hl248_3; clear hi248_3 hl248_3; have HR248_6 := am hi248_6; have HC248_6 := am hl248_6; clear hi248_6 hl248_6; replace p248 := eq_true p248; replace q248 := eq_true q248))
          go_roundg k2
          case measure => have := HJ1.out; have := HK2.out; omega
          case rel => exact ⟨(wrap64 (x3_2 + 1)), ab6, H', ⟨by have := HJ1.out; have := HK2.out; omega⟩, ⟨ab1⟩⟩
        ·rw [if_neg c11] at H
         have c11b0 : decide (0 < x3_2) = false := decide_eq_false c11
         clear c11
         have H' := am H
         clear H
         obtain ⟨p246, q246, ad246, A246_3, c246_3, A246_6, c246_6, rfl, hx246_0, hx246_1, hx246_2, hx246_3, hx246_4, hx246_5, hx246_6, HC246_3, HR246_3, HC246_6, HR246_6⟩ := otT53 HB HR0.out x3_2 (of_decide_eq_true ab4) (of_decide_eq_true ab4)
         go_wp2_with (first | ((with_reducible refine gf_ 78 ?_); refine gc_ Tryz.func78 (spec_l6Plain.calls k2 ((rd_T53 l0 x3_2).f0) ((rd_T53 l0 x3_2).f1) ((rd_T53 l0 x3_2).f2) _ _ ((rd_T53 l0 x3_2).f3) ((rd_T53 l0 x3_2).f4) ((rd_T53 l0 x3_2).f5) _ _ ((rd_T53 l0 x3_2).f6) true _ (sc_ HR246_3) HC246_3.out (sc_ HR246_6) HC246_6.out A9.out) ?_; rintro w15 hb; replace HB := am (below_step ab1 hb); (try clear hb)))
         go_roundg k2
         case measure => have := HJ1.out; have := HK2.out; omega
         case rel => exact ⟨(wrap64 (x3_2 + 1)), ab6, H', ⟨by have := HJ1.out; have := HK2.out; omega⟩, ⟨ab1⟩⟩
       ·obtain rfl := Option.some.inj H
        obtain ⟨p246, q246, ad246, A246_3, c246_3, A246_6, c246_6, rfl, hx246_0, hx246_1, hx246_2, hx246_3, hx246_4, hx246_5, hx246_6, HC246_3, HR246_3, HC246_6, HR246_6⟩ := otT53 HB HR0.out x3_2 (of_decide_eq_true ab4) (of_decide_eq_true ab4)
        go_wp2_with (first | ((with_reducible refine gf_ 78 ?_); refine gc_ Tryz.func78 (spec_l6Plain.calls k2 ((rd_T53 l0 x3_2).f0) ((rd_T53 l0 x3_2).f1) ((rd_T53 l0 x3_2).f2) _ _ ((rd_T53 l0 x3_2).f3) ((rd_T53 l0 x3_2).f4) ((rd_T53 l0 x3_2).f5) _ _ ((rd_T53 l0 x3_2).f6) false _ (sc_ HR246_3) HC246_3.out (sc_ HR246_6) HC246_6.out A9.out) ?_; rintro w16 hb; replace HB := am (below_step ab1 hb); (try clear hb)))
        go_ret
        exact ⟨ab7, ab1⟩
      ·replace H := bi_ H; obtain ⟨t249, A17, H⟩ := H
       replace H := ib_ H; rcases H with ⟨rfl, H⟩ | ⟨rfl, H⟩
       ·obtain ⟨y250, hy250⟩ : ∃ y_ : List Int, y_ = (([] : List Int)) := ⟨_, rfl⟩
        replace H : ((spec_l6Order.f k2 l0 0 y250).bind fun t253 => (some ((t253.length : Int) == (l0.length : Int)))) = some r := by first | (rw [hy250]; with_reducible exact H) | (have H2_ := (Option.bind_some _ _).symm.trans H; rw [hy250]; with_reducible exact H2_) | (have H2_ := (Option.bind_some _ _).symm.trans H; with_reducible exact H2_) | with_reducible exact H | (rw [hy250]; exact H) | exact H
        have Ny250 := am hy250
        clear hy250
        replace H := bi_ H; obtain ⟨t253, A19, H⟩ := H
        obtain rfl := Option.some.inj H
        go_wp2_with (first | ((with_reducible refine gf_ 79 ?_); refine gc_ Tryz.func79 (spec_l6Links.calls k2 _ _ l0 true _ (sc_ HR0) HC0.out A17.out) ?_; rintro w' ⟨nd, rfl⟩) | ((with_reducible refine gate_dst (N := 43) rfl ?_); (try (refine gate_guard (by rfl) ?_; dsimp only)); refine Kd.R_lit (Kd.int .i64) _ 3 ?hg (N := 43) ?hd (xs := ([] : List Int)) (inner := []) (ok := fun _ => True) (okp := fun _ => True) ?hr ?hp (fun _ hk => hk) trivial (Below.refl _ _) (Nat.le_refl _) (by simp) ?_; (case hd => rfl); (case hg => rfl); (case hr => first | (go_simp; done) | (go_simp; rfl)); (case hp => exact (Reps.none _ _)); intro v251 w20 ho21 hb hg_ hnew_; clear hg_ hnew_; (first | rw [← Ny250.out] at ho21 | (simp only [Int.reduceToNat] at ho21; rw [← Ny250.out] at ho21)); have HO252 := am (Kd.R_lower ho21 (below_size ab1)); replace HB := am (below_step ab1 hb); clear hb ho21; obtain ⟨Ao22, co22, eo22⟩ := Kd.R_slice HO252.out; subst eo22) | (go_at_call 80; (with_reducible refine (spec_l6Order.calls k2 _ _ l0 0 (fun k_ => some k_ = (.slice Ao22 y250.length co22 : Value).ownBlock) (.slice Ao22 y250.length co22) y250 t253 w _ ?side1 (Kd.C_kept_came k53_heap HR0.out ab1 (fun k_ hs_ => (fun e_ => Kd.R_base HO252.out k_ e_.symm) hs_)) HC0.out (Kd.R_tight rfl HO252.out) A19.out).mono ?_); (case side1 => exact (by repeat (first | (with_reducible first | exact HB.out | apply below_alloc | apply pw_below_drewN | apply below_drew1) | exact HB.out))); rintro e w23 ⟨v254, rfl, ho0, hb, hkp⟩; have HO255 := am (Kd.R_mono (ok' := fun k_ => True) ho0 (fun k_ hk_ => trivial)); replace HB := am hb; clear HO252; (try clear hb); (try clear hkp); (try clear ho0); obtain ⟨Ao24, co24, eo24⟩ := Kd.R_slice HO255.out; subst eo24))
        go_ret
        exact ⟨ab7, ab1⟩
       ·obtain rfl := Option.some.inj H
        go_wp2_with (first | ((with_reducible refine gf_ 79 ?_); refine gc_ Tryz.func79 (spec_l6Links.calls k2 _ _ l0 false _ (sc_ HR0) HC0.out A17.out) ?_; rintro w' ⟨nd, rfl⟩))
        go_ret
        exact ⟨ab7, ab1⟩
def spec_l8Tag.f (l0 : List (S53)) (a1 : Int) (a2 : ByteArray) : Option (Bool) := (spec_l1In.f a1 0 (wrap64 ((l0.length : Int) - 1))).bind fun t256 => (if t256 = true then (if 0 ≤ a1 then (if a1 < (l0.length : Int) then (if ((rd_T53 l0 a1).f0) = 2 then (if a2.toList = ([] : List UInt8) then (some true) else (some (((rd_T53 l0 a1).f2).toList == a2.toList))) else (some false)) else (none)) else (none)) else (some false))
theorem spec_l8Tag.calls (A0 : Option Addr) (c0 : Nat) (l0 : List (S53)) (a1 : Int) (a2 : ByteArray) (r : Bool) (w : World) (hr0 : Kd.C k53 w A0 l0.length l0) (hc0 : l0.length ≤ c0) (h : spec_l8Tag.f l0 a1 a2 = some r) :
  Calls Tryz.prog 51 #[.slice A0 l0.length c0, .int .i64 a1, .string a2] w fun e w' => e = .returned (.bool r) ∧ Drawn0 w w' := by
 have HR0 := am hr0
 have HC0 := am hc0
 clear hr0 hc0
 have H : ((spec_l1In.f a1 0 (wrap64 ((l0.length : Int) - 1))).bind fun t256 => (if t256 = true then (if 0 ≤ a1 then (if a1 < (l0.length : Int) then (if ((rd_T53 l0 a1).f0) = 2 then (if a2.toList = ([] : List UInt8) then (some true) else (some (((rd_T53 l0 a1).f2).toList == a2.toList))) else (some false)) else (none)) else (none)) else (some false))) = some r := h
 clear h
 replace H := bi_ H; obtain ⟨t256, A4, H⟩ := H
 replace H := ib_ H; rcases H with ⟨rfl, H⟩ | ⟨rfl, H⟩
 ·replace H := iq_ H; obtain ⟨c6b0, H⟩ := H
  replace H := iq_ H; obtain ⟨c7b0, H⟩ := H
  replace H := ie_ H; rcases H with ⟨c8b0, c8b1, H⟩ | ⟨c8, c8b0, c8b1, H⟩
  ·replace H := ie_ H; rcases H with ⟨c9b0, c9b1, H⟩ | ⟨c9, c9b0, c9b1, H⟩
   ·obtain rfl := Option.some.inj H
    go_enter Tryz.func51, Tryz.ntmps51
    go_wp2_with (first | ((with_reducible refine gf_ 77 ?_); refine gc_ Tryz.func77 (spec_l1In.calls a1 0 (wrap64 ((l0.length : Int) - 1)) true _ A4.out) ?_; rintro w' ⟨nd, rfl⟩; have p257 : 0 ≤ (a1 : Int) := of_decide_eq_true ab4; have q257 : a1 < (l0.length : Int) := of_decide_eq_true ab4; obtain ⟨ad257, A257_3, c257_3, A257_6, c257_6, e257, hx257_0, hx257_1, hx257_2, hx257_3, hx257_4, hx257_5, hx257_6, hl257_3, hi257_3, hl257_6, hi257_6⟩ := at_T53 HR0.out a1 p257 q257; cases e257; have HR257_3 := am hi257_3; have HC257_3 := am hl257_3; clear hi257_3 hl257_3; have HR257_6 := am hi257_6; have HC257_6 := am hl257_6; clear hi257_6 hl257_6; replace p257 := eq_true p257; replace q257 := eq_true q257))
    go_ret
    exact ⟨ab6, by repeat (first | exact Drawn0.refl _ | apply Drawn0.step)⟩
   ·obtain rfl := Option.some.inj H
    go_enter Tryz.func51, Tryz.ntmps51
    go_wp2_with (first | ((with_reducible refine gf_ 77 ?_); refine gc_ Tryz.func77 (spec_l1In.calls a1 0 (wrap64 ((l0.length : Int) - 1)) true _ A4.out) ?_; rintro w' ⟨nd, rfl⟩; have p257 : 0 ≤ (a1 : Int) := of_decide_eq_true ab4; have q257 : a1 < (l0.length : Int) := of_decide_eq_true ab4; obtain ⟨ad257, A257_3, c257_3, A257_6, c257_6, e257, hx257_0, hx257_1, hx257_2, hx257_3, hx257_4, hx257_5, hx257_6, hl257_3, hi257_3, hl257_6, hi257_6⟩ := at_T53 HR0.out a1 p257 q257; cases e257; have HR257_3 := am hi257_3; have HC257_3 := am hl257_3; clear hi257_3 hl257_3; have HR257_6 := am hi257_6; have HC257_6 := am hl257_6; clear hi257_6 hl257_6; replace p257 := eq_true p257; replace q257 := eq_true q257; have p258 : 0 ≤ (a1 : Int) := of_decide_eq_true ab4; have q258 : a1 < (l0.length : Int) := of_decide_eq_true ab4; obtain ⟨ad258, A258_3, c258_3, A258_6, c258_6, e258, hx258_0, hx258_1, hx258_2, hx258_3, hx258_4, hx258_5, hx258_6, hl258_3, hi258_3, hl258_6, hi258_6⟩ := at_T53 HR0.out a1 p258 q258; obtain rfl : ad257 = ad258 := (by injection e258); have HR258_3 := am hi258_3; have HC258_3 := am hl258_3; clear hi258_3 hl258_3; have HR258_6 := am hi258_6; have HC258_6 := am hl258_6; clear hi258_6 hl258_6; replace p258 := eq_true p258; replace q258 := eq_true q258; have ea_ := Option.some.inj (hx257_3.symm.trans hx258_3); injection ea_ with ea_ en_ ec_; subst ea_; subst ec_; clear en_; have ea_ := Option.some.inj (hx257_6.symm.trans hx258_6); injection ea_ with ea_ en_ ec_; subst ea_; subst ec_; clear en_))
    go_ret
    exact ⟨ab6, by repeat (first | exact Drawn0.refl _ | apply Drawn0.step)⟩
  ·obtain rfl := Option.some.inj H
   go_enter Tryz.func51, Tryz.ntmps51
   go_wp2_with (first | ((with_reducible refine gf_ 77 ?_); refine gc_ Tryz.func77 (spec_l1In.calls a1 0 (wrap64 ((l0.length : Int) - 1)) true _ A4.out) ?_; rintro w' ⟨nd, rfl⟩; have p257 : 0 ≤ (a1 : Int) := of_decide_eq_true ab4; have q257 : a1 < (l0.length : Int) := of_decide_eq_true ab4; obtain ⟨ad257, A257_3, c257_3, A257_6, c257_6, e257, hx257_0, hx257_1, hx257_2, hx257_3, hx257_4, hx257_5, hx257_6, hl257_3, hi257_3, hl257_6, hi257_6⟩ := at_T53 HR0.out a1 p257 q257; cases e257; have HR257_3 := am hi257_3; have HC257_3 := am hl257_3; clear hi257_3 hl257_3; have HR257_6 := am hi257_6; have HC257_6 := am hl257_6; clear hi257_6 hl257_6; replace p257 := eq_true p257; replace q257 := eq_true q257))
   go_ret
   exact ⟨ab6, by repeat (first | exact Drawn0.refl _ | apply Drawn0.step)⟩
 ·obtain rfl := Option.some.inj H
  go_enter Tryz.func51, Tryz.ntmps51
  go_wp2_with (first | ((with_reducible refine gf_ 77 ?_); refine gc_ Tryz.func77 (spec_l1In.calls a1 0 (wrap64 ((l0.length : Int) - 1)) false _ A4.out) ?_; rintro w' ⟨nd, rfl⟩))
  go_ret
  exact ⟨ab6, by repeat (first | exact Drawn0.refl _ | apply Drawn0.step)⟩
def spec_l7Is.l0 : Nat → ByteArray → List ByteArray → Int → Option (Bool)
 | 0, _, _, _ => none
 | k + 1, x0, x1, x5 => if x5 < (x1.length : Int) then (if 0 ≤ x5 then (if (rdOf ByteArray.empty x1 x5).toList = x0.toList then (some true) else (spec_l7Is.l0 k x0 x1 (wrap64 (x5 + 1)))) else (none)) else (some false)
def spec_l7Is.f (k : Nat) (a0 : ByteArray) (l1 : List ByteArray) : Option (Bool) := spec_l7Is.l0 k a0 l1 0
theorem spec_l7Is.calls (k : Nat) (a0 : ByteArray) (A1 : Option Addr) (c1 : Nat) (l1 : List ByteArray) (r : Bool) (w : World) (hr1 : Kd.C Kd.string w A1 l1.length l1) (hc1 : l1.length ≤ c1) (h : spec_l7Is.f k a0 l1 = some r) :
  Calls Tryz.prog 81 #[.string a0, .slice A1 l1.length c1] w fun e w' => e = .returned (.bool r) ∧ Drawn0 w w' := by
 have HR1 := am hr1
 have HC1 := am hc1
 clear hr1 hc1
 have H : (spec_l7Is.l0 k a0 l1 0) = some r := h
 clear h
 have H' := am H
 clear H
 go_enter Tryz.func81, Tryz.ntmps81
 go_wp2
 go_loopg [5] k (fun kq v5 w' => ∃ (x5_1 : Int), v5 = .int .i64 x5_1 ∧ Aside0 (spec_l7Is.l0 kq a0 l1 x5_1 = some r) ∧ Aside0 (kq ≤ k) ∧ Drawn0 w w')
 case atStart => exact ⟨(0), ab6, H', ⟨Nat.le_refl _⟩, by repeat (first | exact Drawn0.refl _ | apply Drawn0.step)⟩
 case round =>
  clear H'
  (try clear c1); (try clear p2)
  obtain ⟨x5_1, rfl, HA, HK1, ⟨m1, rfl⟩⟩ := hrel
  cases gk with
  | zero => exact absurd HA.out (by simp [spec_l7Is.l0])
  | succ k1 =>
   have H := HA.out
   clear HA
   simp only [spec_l7Is.l0] at H
   replace H := ir_ H; rcases H with ⟨c3b0, H⟩ | ⟨c3b0, H⟩
   ·replace H := iq_ H; obtain ⟨c4b0, H⟩ := H
    replace H := ie_ H; rcases H with ⟨c5b0, c5b1, H⟩ | ⟨c5, c5b0, c5b1, H⟩
    ·obtain rfl := Option.some.inj H
     have p259 : 0 ≤ (x5_1 : Int) := of_decide_eq_true ab4
     have q259 : x5_1 < (l1.length : Int) := of_decide_eq_true ab4
     obtain ⟨ad259, e259, hx259_0⟩ := Kd.at_string HR1.out x5_1 p259 q259
     cases e259
     replace p259 := eq_true p259
     replace q259 := eq_true q259
     go_wp2
     go_ret
     exact ⟨ab6, by repeat (first | exact Drawn0.refl _ | apply Drawn0.step)⟩
    ·have H' := am H
     clear H
     have p259 : 0 ≤ (x5_1 : Int) := of_decide_eq_true ab4
     have q259 : x5_1 < (l1.length : Int) := of_decide_eq_true ab4
     obtain ⟨ad259, e259, hx259_0⟩ := Kd.at_string HR1.out x5_1 p259 q259
     cases e259
     replace p259 := eq_true p259
     replace q259 := eq_true q259
     go_wp2
     go_roundg k1
     case measure => have := HK1.out; omega
     case rel => exact ⟨(wrap64 (x5_1 + 1)), ab6, H', ⟨by have := HK1.out; omega⟩, by repeat (first | exact Drawn0.refl _ | apply Drawn0.step)⟩
   ·obtain rfl := Option.some.inj H
    go_wp2
    go_ret
    exact ⟨ab6, by repeat (first | exact Drawn0.refl _ | apply Drawn0.step)⟩
def spec_Format.f (k : Nat) (a0 : ByteArray) : Option (Bool) := (spec_l7Is.f k a0 (([(⟨#[97]⟩ : ByteArray), (⟨#[98]⟩ : ByteArray), (⟨#[105]⟩ : ByteArray), (⟨#[117]⟩ : ByteArray), (⟨#[101, 109]⟩ : ByteArray), (⟨#[115, 116, 114, 111, 110, 103]⟩ : ByteArray), (⟨#[99, 111, 100, 101]⟩ : ByteArray), (⟨#[115, 109, 97, 108, 108]⟩ : ByteArray)] : List ByteArray))).bind fun t263 => (some t263)
theorem spec_Format.calls (k : Nat) (a0 : ByteArray) (r : Bool) (w : World) (h : spec_Format.f k a0 = some r) :
  Calls Tryz.prog 52 #[.string a0] w fun e w' => e = .returned (.bool r) ∧ Below w.heap.size w w' := by
 have HB := am (Below.refl w.heap.size w)
 have H : ((spec_l7Is.f k a0 (([(⟨#[97]⟩ : ByteArray), (⟨#[98]⟩ : ByteArray), (⟨#[105]⟩ : ByteArray), (⟨#[117]⟩ : ByteArray), (⟨#[101, 109]⟩ : ByteArray), (⟨#[115, 116, 114, 111, 110, 103]⟩ : ByteArray), (⟨#[99, 111, 100, 101]⟩ : ByteArray), (⟨#[115, 109, 97, 108, 108]⟩ : ByteArray)] : List ByteArray))).bind fun t263 => (some t263)) = some r := h
 clear h
 obtain ⟨y260, hy260⟩ : ∃ y_ : List ByteArray, y_ = (([(⟨#[97]⟩ : ByteArray), (⟨#[98]⟩ : ByteArray), (⟨#[105]⟩ : ByteArray), (⟨#[117]⟩ : ByteArray), (⟨#[101, 109]⟩ : ByteArray), (⟨#[115, 116, 114, 111, 110, 103]⟩ : ByteArray), (⟨#[99, 111, 100, 101]⟩ : ByteArray), (⟨#[115, 109, 97, 108, 108]⟩ : ByteArray)] : List ByteArray)) := ⟨_, rfl⟩
 replace H : ((spec_l7Is.f k a0 y260).bind fun t263 => (some t263)) = some r := by first | (rw [hy260]; with_reducible exact H) | (have H2_ := (Option.bind_some _ _).symm.trans H; rw [hy260]; with_reducible exact H2_) | (have H2_ := (Option.bind_some _ _).symm.trans H; with_reducible exact H2_) | with_reducible exact H | (rw [hy260]; exact H) | exact H
 have Ny260 := am hy260
 clear hy260
 replace H := bi_ H; obtain ⟨t263, A2, H⟩ := H
 obtain rfl := Option.some.inj H
 go_enter Tryz.func52, Tryz.ntmps52
 go_wp2_with (first | ((with_reducible refine gate_dst (N := 4) rfl ?_); refine Kd.R_lit Kd.string _ 9 ?hg (N := 4) ?hd (xs := ([(⟨#[97]⟩ : ByteArray), (⟨#[98]⟩ : ByteArray), (⟨#[105]⟩ : ByteArray), (⟨#[117]⟩ : ByteArray), (⟨#[101, 109]⟩ : ByteArray), (⟨#[115, 116, 114, 111, 110, 103]⟩ : ByteArray), (⟨#[99, 111, 100, 101]⟩ : ByteArray), (⟨#[115, 109, 97, 108, 108]⟩ : ByteArray)] : List ByteArray)) (inner := [.string (⟨#[97]⟩ : ByteArray), .string (⟨#[98]⟩ : ByteArray), .string (⟨#[105]⟩ : ByteArray), .string (⟨#[117]⟩ : ByteArray), .string (⟨#[101, 109]⟩ : ByteArray), .string (⟨#[115, 116, 114, 111, 110, 103]⟩ : ByteArray), .string (⟨#[99, 111, 100, 101]⟩ : ByteArray), .string (⟨#[115, 109, 97, 108, 108]⟩ : ByteArray)]) (ok := fun _ => True) (okp := fun _ => True) ?hr ?hp (fun _ hk => hk) trivial (Below.refl _ _) (Nat.le_refl _) (by simp) ?_; (case hd => rfl); (case hg => rfl); (case hr => first | (go_simp; done) | (go_simp; rfl)); (case hp => exact (Reps.one (show Kd.M Kd.string _ _ _ (⟨#[97]⟩ : ByteArray) [.string (⟨#[97]⟩ : ByteArray)] from rfl) (Reps.one (show Kd.M Kd.string _ _ _ (⟨#[98]⟩ : ByteArray) [.string (⟨#[98]⟩ : ByteArray)] from rfl) (Reps.one (show Kd.M Kd.string _ _ _ (⟨#[105]⟩ : ByteArray) [.string (⟨#[105]⟩ : ByteArray)] from rfl) (Reps.one (show Kd.M Kd.string _ _ _ (⟨#[117]⟩ : ByteArray) [.string (⟨#[117]⟩ : ByteArray)] from rfl) (Reps.one (show Kd.M Kd.string _ _ _ (⟨#[101, 109]⟩ : ByteArray) [.string (⟨#[101, 109]⟩ : ByteArray)] from rfl) (Reps.one (show Kd.M Kd.string _ _ _ (⟨#[115, 116, 114, 111, 110, 103]⟩ : ByteArray) [.string (⟨#[115, 116, 114, 111, 110, 103]⟩ : ByteArray)] from rfl) (Reps.one (show Kd.M Kd.string _ _ _ (⟨#[99, 111, 100, 101]⟩ : ByteArray) [.string (⟨#[99, 111, 100, 101]⟩ : ByteArray)] from rfl) (Reps.one (show Kd.M Kd.string _ _ _ (⟨#[115, 109, 97, 108, 108]⟩ : ByteArray) [.string (⟨#[115, 109, 97, 108, 108]⟩ : ByteArray)] from rfl) (Reps.none _ _)))))))))); intro v261 w3 ho4 hb hg_ hnew_; clear hg_ hnew_; (first | rw [← Ny260.out] at ho4 | (simp only [Int.reduceToNat] at ho4; rw [← Ny260.out] at ho4)); have HO262 := am (Kd.R_lower ho4 (below_size ab1)); replace HB := am (below_step ab1 hb); clear hb ho4; obtain ⟨Ao5, co5, eo5⟩ := Kd.R_slice HO262.out; subst eo5) | ((with_reducible refine gf_ 81 ?_); refine gc_ Tryz.func81 (spec_l7Is.calls k a0 _ _ y260 t263 _ ?side1 ((Kd.R_reads' HO262.out).2.1) A2.out) ?_; (case side1 => exact (by repeat (first | exact (Kd.R_reads' HO262.out).2.2 | (with_reducible refine Kd.C_alloc ?_ _) | (with_reducible refine Kd.C_drewN ?_ _) | (with_reducible refine Kd.C_drew ?_)))); rintro w' ⟨nd, rfl⟩))
 go_ret
 exact ⟨ab7, ab1⟩
mutual
def spec_PageOk.j0 : Nat → Bool → List (S53) → List Int → List Int → Int → Int → Option (Bool)
 | 0, _, _, _, _, _, _ => none
 | k + 1, x46, x265000, x265001, x265002, x265003, x265004 => if x46 = true then (some false) else (spec_PageOk.l0 k 0 x265000 x265001 x265002 x265003 x265004)
def spec_PageOk.l0 : Nat → Int → List (S53) → List Int → List Int → Int → Int → Option (Bool)
 | 0, _, _, _, _, _, _ => none
 | k + 1, x3, x265000, x265001, x265002, x265003, x265004 => if x3 < (x265001.length : Int) then (if 0 ≤ x3 then ((spec_l8Tag.f x265000 (rd x265001 x3) (⟨#[]⟩ : ByteArray)).bind fun t270 => (if t270 = true then ((spec_l6Count.f k x265001 (rd x265001 x3)).bind fun t272 => (if t272 = 1 then (spec_PageOk.l0 k (wrap64 (x3 + 1)) x265000 x265001 x265002 x265003 x265004) else (some false))) else (some false))) else (none)) else (spec_PageOk.l1 k 0 x265000 x265001 x265002 x265003 x265004)
def spec_PageOk.l1 : Nat → Int → List (S53) → List Int → List Int → Int → Int → Option (Bool)
 | 0, _, _, _, _, _, _ => none
 | k + 1, x4, x265000, x265001, x265002, x265003, x265004 => if x4 < (x265002.length : Int) then (if 0 ≤ x4 then (if (rd x265002 x4) = (-1) then (spec_PageOk.l1 k (wrap64 (x4 + 1)) x265000 x265001 x265002 x265003 x265004) else ((spec_l8Tag.f x265000 (rd x265002 x4) (⟨#[]⟩ : ByteArray)).bind fun t275 => (if t275 = true then (if 0 ≤ (rd x265002 x4) then (if (rd x265002 x4) < (x265000.length : Int) then ((spec_Format.f k ((rd_T53 x265000 (rd x265002 x4)).f2)).bind fun t278 => (if t278 = true then (spec_PageOk.l1 k (wrap64 (x4 + 1)) x265000 x265001 x265002 x265003 x265004) else (some false))) else (none)) else (none)) else (some false)))) else (none)) else (some true)
end
def spec_PageOk.f (k : Nat) (l0_0 : List (S53)) (l0_1 : List Int) (l0_2 : List Int) (a0_3 : Int) (a0_4 : Int) : Option (Bool) := (spec_TreeOk.f k l0_0).bind fun t265 => (if t265 = true then (if (l0_1.length : Int) > 40 then (spec_PageOk.j0 k true l0_0 l0_1 l0_2 a0_3 a0_4) else (if (l0_2.length : Int) > 120 then (spec_PageOk.j0 k true l0_0 l0_1 l0_2 a0_3 a0_4) else (if a0_3 = 0 then (if a0_4 = 0 then (spec_PageOk.j0 k false l0_0 l0_1 l0_2 a0_3 a0_4) else ((spec_l8Tag.f l0_0 a0_4 (⟨#[98, 111, 100, 121]⟩ : ByteArray)).bind fun t266 => (spec_PageOk.j0 k (!t266) l0_0 l0_1 l0_2 a0_3 a0_4))) else ((spec_l8Tag.f l0_0 a0_3 (⟨#[104, 101, 97, 100]⟩ : ByteArray)).bind fun t267 => (if t267 = true then (if a0_4 = 0 then (spec_PageOk.j0 k false l0_0 l0_1 l0_2 a0_3 a0_4) else ((spec_l8Tag.f l0_0 a0_4 (⟨#[98, 111, 100, 121]⟩ : ByteArray)).bind fun t268 => (spec_PageOk.j0 k (!t268) l0_0 l0_1 l0_2 a0_3 a0_4))) else (spec_PageOk.j0 k true l0_0 l0_1 l0_2 a0_3 a0_4)))))) else (spec_PageOk.j0 k true l0_0 l0_1 l0_2 a0_3 a0_4))
def spec_PageOk.T6 : Bool × List (List Nat × List Nat) := (true, [([], []), ([0], [0]), ([], []), ([2], [2]), ([], []), ([3, 4], [3, 4]), ([5], [5]), ([1, 6], [1, 6]), ([7], [7]), ([8, 7], [8]), ([9], [9]), ([10, 9], [9, 10]), ([9], [9]), ([12, 9], [9, 12]), ([9], [9]), ([13, 14, 9], [9, 13, 14]), ([15, 9], [9, 15]), ([11, 16, 9, 9], [9, 11, 16]), ([17, 9], [9, 17]), ([9, 18], [9, 18])])
def spec_PageOk.B6 : List Nat := [0, 1, 0, 4, 0, 28, 60, 127, 255, 511, 1023, 2047, 1023, 5119, 1023, 29695, 62463, 131071, 262143, 524287]
theorem spec_PageOk.tab6 : rtab .any (opsOf Tryz.f24 6) = spec_PageOk.T6 := by kernel_rfl
theorem spec_PageOk.bits6 : waitsOk spec_PageOk.T6.2 spec_PageOk.B6 = true := by kernel_rfl
def spec_PageOk.T11 : Bool × List (List Nat × List Nat) := (true, [([], []), ([0], [0]), ([], []), ([1, 2], [1, 2]), ([3], [3]), ([4], [4]), ([5], [5]), ([6], [6]), ([7, 6], [6, 7]), ([6], [6]), ([9, 6], [6, 9]), ([6], [6]), ([10, 11, 6], [6, 10, 11]), ([12, 6], [6, 12]), ([8, 13, 6, 6], [6, 8, 13]), ([14, 6], [6, 14]), ([15, 14, 6], [6, 15]), ([16], [16]), ([17, 16], [16, 17]), ([16], [16]), ([19, 16], [16, 19]), ([16], [16]), ([20, 21, 16], [16, 20, 21]), ([22, 16], [16, 22]), ([18, 23, 16], [16, 18, 23]), ([24, 16], [16, 24]), ([25, 16], [16, 25]), ([26, 16, 16], [16, 26]), ([27, 16], [16, 27]), ([16, 28, 6], [6, 16, 28]), ([6, 29], [6, 29])])
def spec_PageOk.B11 : List Nat := [0, 1, 0, 7, 15, 31, 63, 127, 255, 127, 639, 127, 3711, 7807, 16383, 32767, 65535, 131071, 262143, 131071, 655359, 131071, 3801087, 7995391, 16777215, 33554431, 67108863, 134217727, 268435455, 536870911, 1073741823]
theorem spec_PageOk.tab11 : rtab .any (opsOf Tryz.f24 11) = spec_PageOk.T11 := by kernel_rfl
theorem spec_PageOk.bits11 : waitsOk spec_PageOk.T11.2 spec_PageOk.B11 = true := by kernel_rfl
theorem spec_PageOk.calls (k : Nat) (A0_0 : Option Addr) (c0_0 : Nat) (l0_0 : List (S53)) (A0_1 : Option Addr) (c0_1 : Nat) (l0_1 : List Int) (A0_2 : Option Addr) (c0_2 : Nat) (l0_2 : List Int) (a0_3 : Int) (a0_4 : Int) (r : Bool) (w : World) (hr0_0 : Kd.C k53 w A0_0 l0_0.length l0_0) (hc0_0 : l0_0.length ≤ c0_0) (hr0_1 : Kd.C (Kd.int .i64) w A0_1 l0_1.length l0_1) (hc0_1 : l0_1.length ≤ c0_1) (hr0_2 : Kd.C (Kd.int .i64) w A0_2 l0_2.length l0_2) (hc0_2 : l0_2.length ≤ c0_2) (h : spec_PageOk.f k l0_0 l0_1 l0_2 a0_3 a0_4 = some r) :
  Calls Tryz.prog 24 #[.agg #[.slice A0_0 l0_0.length c0_0, .slice A0_1 l0_1.length c0_1, .slice A0_2 l0_2.length c0_2, .int .i64 a0_3, .int .i64 a0_4]] w fun e w' => e = .returned (.bool r) ∧ Below w.heap.size w w' := by
 have hu31 := Tryz.underlying31
 have HR0_0 := am hr0_0
 have HC0_0 := am hc0_0
 clear hr0_0 hc0_0
 have HR0_1 := am hr0_1
 have HC0_1 := am hc0_1
 clear hr0_1 hc0_1
 have HR0_2 := am hr0_2
 have HC0_2 := am hc0_2
 clear hr0_2 hc0_2
 have HB := am (Below.refl w.heap.size w)
 have H : ((spec_TreeOk.f k l0_0).bind fun t265 => (if t265 = true then (if (l0_1.length : Int) > 40 then (spec_PageOk.j0 k true l0_0 l0_1 l0_2 a0_3 a0_4) else (if (l0_2.length : Int) > 120 then (spec_PageOk.j0 k true l0_0 l0_1 l0_2 a0_3 a0_4) else (if a0_3 = 0 then (if a0_4 = 0 then (spec_PageOk.j0 k false l0_0 l0_1 l0_2 a0_3 a0_4) else ((spec_l8Tag.f l0_0 a0_4 (⟨#[98, 111, 100, 121]⟩ : ByteArray)).bind fun t266 => (spec_PageOk.j0 k (!t266) l0_0 l0_1 l0_2 a0_3 a0_4))) else ((spec_l8Tag.f l0_0 a0_3 (⟨#[104, 101, 97, 100]⟩ : ByteArray)).bind fun t267 => (if t267 = true then (if a0_4 = 0 then (spec_PageOk.j0 k false l0_0 l0_1 l0_2 a0_3 a0_4) else ((spec_l8Tag.f l0_0 a0_4 (⟨#[98, 111, 100, 121]⟩ : ByteArray)).bind fun t268 => (spec_PageOk.j0 k (!t268) l0_0 l0_1 l0_2 a0_3 a0_4))) else (spec_PageOk.j0 k true l0_0 l0_1 l0_2 a0_3 a0_4)))))) else (spec_PageOk.j0 k true l0_0 l0_1 l0_2 a0_3 a0_4))) = some r := h
 clear h
 have HC2 := am H
 clear H
 go_enter Tryz.func24, Tryz.ntmps24
 go_upto_region 1 with (first | ((with_reducible refine gd_ 1 ?_); (try (refine gate_guard (by rfl) ?_; dsimp only)); refine bx_ 1 (cs := #[.slice A0_0 l0_0.length c0_0, .slice A0_1 l0_1.length c0_1, .slice A0_2 l0_2.length c0_2, .int .i64 a0_3, .int .i64 a0_4]) 31 ?_; intro gb264 hg w3 hbox hb; have BK264 := am hbox; have GW264 := ge_ (w := w) hg; have GE264 := ge_ (w := w) hg; replace HB := am (below_step ab1 hb); clear hb hbox hg))
 (try simp only [Act.put, List.setIfInBounds_toArray, List.set_cons_zero, List.set_cons_succ])
 go_cut [46] (fun v46 wc => ∃ (kq : Nat) (x46_1 : Bool), v46 = .bool x46_1 ∧ Aside0 (spec_PageOk.j0 kq x46_1 l0_0 l0_1 l0_2 a0_3 a0_4 = some r) ∧ Aside0 (kq ≤ k) ∧ Aside0 (wc.heap[gb264]? = some (.cells #[(.slice A0_0 l0_0.length c0_0), (.slice A0_1 l0_1.length c0_1), (.slice A0_2 l0_2.length c0_2), .int .i64 a0_3, .int .i64 a0_4] 31 (0, 0))) ∧ Aside0 (Below w.heap.size w wc))
 case first =>
  have H := HC2.out
  clear HC2
  replace H := bi_ H; obtain ⟨t265, A4, H⟩ := H
  replace H := ib_ H; rcases H with ⟨rfl, H⟩ | ⟨rfl, H⟩
  ·by_cases c6 : (l0_1.length : Int) > 40
   ·rw [if_pos c6] at H
    have c6b0 : decide (40 < (l0_1.length : Int)) = true := decide_eq_true c6
    have c6b1 : decide (40 < l0_1.length) = true := decide_eq_true (by omega)
    clear c6
    (first | rw [c6b0] | (simp only [i64_w, i32_w]; rw [c6b0]) | skip)
    (try (generalize hgzc6 : decide (40 < (l0_1.length : Int)) = bqc6 at *; subst c6b0; have c6b0 := hgzc6; clear hgzc6))
    have H' := am H
    clear H
    obtain ⟨⟨_, _, _, _, _⟩, _, _, _, _, _⟩ := Op.cells5 BK264.out
    go_wp2_with (first | ((with_reducible refine gf_ 50 ?_); refine gc_ Tryz.func50 (spec_TreeOk.calls k _ _ l0_0 true _ (sc_ HR0_0) HC0_0.out A4.out) ?_; rintro w8 hb; replace BK264 := bl_ BK264 hb; replace HB := am (below_step (ab2 GE264) hb); (try clear hb); obtain ⟨⟨_, _, _, _, _⟩, _, _, _, _, _⟩ := Op.cells5 BK264.out))
    go_meet
    case rel => exact ⟨_, (true), ab6, (by first | exact H' | (have h_ := H'.out; rw [c6b0] at h_; exact ⟨h_⟩)), ⟨by first | omega | exact Nat.le_refl _⟩, ⟨ab3 BK264⟩, ⟨ab2 GE264⟩⟩
   ·rw [if_neg c6] at H
    have c6b0 : decide (40 < (l0_1.length : Int)) = false := decide_eq_false c6
    have c6b1 : decide (40 < l0_1.length) = false := decide_eq_false (by omega)
    clear c6
    (first | rw [c6b0] | (simp only [i64_w, i32_w]; rw [c6b0]) | skip)
    (try (generalize hgzc6 : decide (40 < (l0_1.length : Int)) = bqc6 at *; subst c6b0; have c6b0 := hgzc6; clear hgzc6))
    by_cases c10 : (l0_2.length : Int) > 120
    ·rw [if_pos c10] at H
     have c10b0 : decide (120 < (l0_2.length : Int)) = true := decide_eq_true c10
     have c10b1 : decide (120 < l0_2.length) = true := decide_eq_true (by omega)
     clear c10
     have H' := am H
     clear H
     obtain ⟨⟨_, _, _, _, _⟩, _, _, _, _, _⟩ := Op.cells5 BK264.out
     go_wp2_with (first | ((with_reducible refine gf_ 50 ?_); refine gc_ Tryz.func50 (spec_TreeOk.calls k _ _ l0_0 true _ (sc_ HR0_0) HC0_0.out A4.out) ?_; rintro w12 hb; replace BK264 := bl_ BK264 hb; replace HB := am (below_step (ab2 GE264) hb); (try clear hb); obtain ⟨⟨_, _, _, _, _⟩, _, _, _, _, _⟩ := Op.cells5 BK264.out))
     go_meet
     case rel => exact ⟨_, (true), ab6, (by first | exact H' | (have h_ := H'.out; rw [c6b0] at h_; exact ⟨h_⟩)), ⟨by first | omega | exact Nat.le_refl _⟩, ⟨ab3 BK264⟩, ⟨ab2 GE264⟩⟩
    ·rw [if_neg c10] at H
     have c10b0 : decide (120 < (l0_2.length : Int)) = false := decide_eq_false c10
     have c10b1 : decide (120 < l0_2.length) = false := decide_eq_false (by omega)
     clear c10
     replace H := ie_ H; rcases H with ⟨c14b0, c14b1, H⟩ | ⟨c14, c14b0, c14b1, H⟩
     ·replace H := ie_ H; rcases H with ⟨c15b0, c15b1, H⟩ | ⟨c15, c15b0, c15b1, H⟩
      ·have H' := am H
       clear H
       obtain ⟨⟨_, _, _, _, _⟩, _, _, _, _, _⟩ := Op.cells5 BK264.out
       go_wp2_with (first | ((with_reducible refine gf_ 50 ?_); refine gc_ Tryz.func50 (spec_TreeOk.calls k _ _ l0_0 true _ (sc_ HR0_0) HC0_0.out A4.out) ?_; rintro w17 hb; replace BK264 := bl_ BK264 hb; replace HB := am (below_step (ab2 GE264) hb); (try clear hb); obtain ⟨⟨_, _, _, _, _⟩, _, _, _, _, _⟩ := Op.cells5 BK264.out))
       go_meet
       case rel => exact ⟨_, (false), ab6, (by first | exact H' | (have h_ := H'.out; rw [c6b0] at h_; exact ⟨h_⟩)), ⟨by first | omega | exact Nat.le_refl _⟩, ⟨ab3 BK264⟩, ⟨ab2 GE264⟩⟩
      ·replace H := bi_ H; obtain ⟨t266, A19, H⟩ := H
       replace H : (spec_PageOk.j0 k (!t266) l0_0 l0_1 l0_2 a0_3 a0_4) = some r := by first | exact H | (rw [c6b0]; exact H)
       have H' := am H
       clear H
       obtain ⟨⟨_, _, _, _, _⟩, _, _, _, _, _⟩ := Op.cells5 BK264.out
       go_wp2_with (first | ((with_reducible refine gf_ 50 ?_); refine gc_ Tryz.func50 (spec_TreeOk.calls k _ _ l0_0 true _ (sc_ HR0_0) HC0_0.out A4.out) ?_; rintro w21 hb; replace BK264 := bl_ BK264 hb; replace HB := am (below_step (ab2 GE264) hb); (try clear hb); obtain ⟨⟨_, _, _, _, _⟩, _, _, _, _, _⟩ := Op.cells5 BK264.out) | (go_at_call 51; (with_reducible refine (spec_l8Tag.calls _ _ l0_0 a0_4 (⟨#[98, 111, 100, 121]⟩ : ByteArray) t266 _ (sc_ HR0_0) HC0_0.out A19.out).mono ?_); rintro e w' ⟨rfl, ⟨nd, rfl⟩⟩))
       go_meet
       case rel => exact ⟨_, (!t266), ab6, (by first | exact H' | (have h_ := H'.out; rw [c6b0] at h_; exact ⟨h_⟩)), ⟨by first | omega | exact Nat.le_refl _⟩, ⟨ab3 BK264⟩, ⟨ab2 GE264⟩⟩
     ·replace H := bi_ H; obtain ⟨t267, A23, H⟩ := H
      replace H : (if t267 = true then (if a0_4 = 0 then (spec_PageOk.j0 k false l0_0 l0_1 l0_2 a0_3 a0_4) else ((spec_l8Tag.f l0_0 a0_4 (⟨#[98, 111, 100, 121]⟩ : ByteArray)).bind fun t268 => (spec_PageOk.j0 k (!t268) l0_0 l0_1 l0_2 a0_3 a0_4))) else (spec_PageOk.j0 k true l0_0 l0_1 l0_2 a0_3 a0_4)) = some r := by first | exact H | (rw [c6b0]; exact H)
      replace H := ib_ H; rcases H with ⟨rfl, H⟩ | ⟨rfl, H⟩
      ·replace H := ie_ H; rcases H with ⟨c25b0, c25b1, H⟩ | ⟨c25, c25b0, c25b1, H⟩
       ·have H' := am H
        clear H
        obtain ⟨⟨_, _, _, _, _⟩, _, _, _, _, _⟩ := Op.cells5 BK264.out
        go_wp2_with (first | ((with_reducible refine gf_ 50 ?_); refine gc_ Tryz.func50 (spec_TreeOk.calls k _ _ l0_0 true _ (sc_ HR0_0) HC0_0.out A4.out) ?_; rintro w27 hb; replace BK264 := bl_ BK264 hb; replace HB := am (below_step (ab2 GE264) hb); (try clear hb); obtain ⟨⟨_, _, _, _, _⟩, _, _, _, _, _⟩ := Op.cells5 BK264.out) | (go_at_call 51; (with_reducible refine (spec_l8Tag.calls _ _ l0_0 a0_3 (⟨#[104, 101, 97, 100]⟩ : ByteArray) true _ (sc_ HR0_0) HC0_0.out A23.out).mono ?_); rintro e w' ⟨rfl, ⟨nd, rfl⟩⟩))
        go_meet
        case rel => exact ⟨_, (false), ab6, (by first | exact H' | (have h_ := H'.out; rw [c6b0] at h_; exact ⟨h_⟩)), ⟨by first | omega | exact Nat.le_refl _⟩, ⟨ab3 BK264⟩, ⟨ab2 GE264⟩⟩
       ·replace H := bi_ H; obtain ⟨t268, A29, H⟩ := H
        replace H : (spec_PageOk.j0 k (!t268) l0_0 l0_1 l0_2 a0_3 a0_4) = some r := by first | exact H | (rw [c6b0]; exact H)
        have H' := am H
        clear H
        obtain ⟨⟨_, _, _, _, _⟩, _, _, _, _, _⟩ := Op.cells5 BK264.out
        go_wp2_with (first | ((with_reducible refine gf_ 50 ?_); refine gc_ Tryz.func50 (spec_TreeOk.calls k _ _ l0_0 true _ (sc_ HR0_0) HC0_0.out A4.out) ?_; rintro w31 hb; replace BK264 := bl_ BK264 hb; replace HB := am (below_step (ab2 GE264) hb); (try clear hb); obtain ⟨⟨_, _, _, _, _⟩, _, _, _, _, _⟩ := Op.cells5 BK264.out) | (go_at_call 51; (with_reducible refine (spec_l8Tag.calls _ _ l0_0 a0_3 (⟨#[104, 101, 97, 100]⟩ : ByteArray) true _ (sc_ HR0_0) HC0_0.out A23.out).mono ?_); rintro e w' ⟨rfl, ⟨nd, rfl⟩⟩) | (go_at_call 51; (with_reducible refine (spec_l8Tag.calls _ _ l0_0 a0_4 (⟨#[98, 111, 100, 121]⟩ : ByteArray) t268 _ ?side1 HC0_0.out A29.out).mono ?_); (case side1 => exact (by repeat (first | exact (Kd.C_below HR0_0.out (ab2 GE264)) | (with_reducible refine Kd.C_alloc ?_ _) | (with_reducible refine Kd.C_drewN ?_ _) | (with_reducible refine Kd.C_drew ?_)))); rintro e w' ⟨rfl, ⟨nd, rfl⟩⟩))
        go_meet
        case rel => exact ⟨_, (!t268), ab6, (by first | exact H' | (have h_ := H'.out; rw [c6b0] at h_; exact ⟨h_⟩)), ⟨by first | omega | exact Nat.le_refl _⟩, ⟨ab3 BK264⟩, ⟨ab2 GE264⟩⟩
      ·have H' := am H
       clear H
       obtain ⟨⟨_, _, _, _, _⟩, _, _, _, _, _⟩ := Op.cells5 BK264.out
       go_wp2_with (first | ((with_reducible refine gf_ 50 ?_); refine gc_ Tryz.func50 (spec_TreeOk.calls k _ _ l0_0 true _ (sc_ HR0_0) HC0_0.out A4.out) ?_; rintro w34 hb; replace BK264 := bl_ BK264 hb; replace HB := am (below_step (ab2 GE264) hb); (try clear hb); obtain ⟨⟨_, _, _, _, _⟩, _, _, _, _, _⟩ := Op.cells5 BK264.out) | (go_at_call 51; (with_reducible refine (spec_l8Tag.calls _ _ l0_0 a0_3 (⟨#[104, 101, 97, 100]⟩ : ByteArray) false _ (sc_ HR0_0) HC0_0.out A23.out).mono ?_); rintro e w' ⟨rfl, ⟨nd, rfl⟩⟩))
       go_meet
       case rel => exact ⟨_, (true), ab6, (by first | exact H' | (have h_ := H'.out; rw [c6b0] at h_; exact ⟨h_⟩)), ⟨by first | omega | exact Nat.le_refl _⟩, ⟨ab3 BK264⟩, ⟨ab2 GE264⟩⟩
  ·have H' := am H
   clear H
   obtain ⟨⟨_, _, _, _, _⟩, _, _, _, _, _⟩ := Op.cells5 BK264.out
   go_wp2_with (first | ((with_reducible refine gf_ 50 ?_); refine gc_ Tryz.func50 (spec_TreeOk.calls k _ _ l0_0 false _ (sc_ HR0_0) HC0_0.out A4.out) ?_; rintro w37 hb; replace BK264 := bl_ BK264 hb; replace HB := am (below_step (ab2 GE264) hb); (try clear hb)))
   go_meet
   case rel => exact ⟨_, (true), ab6, H', ⟨by first | omega | exact Nat.le_refl _⟩, ⟨ab3 BK264⟩, ⟨ab2 GE264⟩⟩
 case rest =>
  clear HC2
  (try clear c1); (try clear c2); (try clear p2); (try clear c5); (try clear c6); (try clear c6b0); (try clear c6b1); (try clear c10); (try clear c10b0); (try clear c10b1); (try clear c14); (try clear c14b0); (try clear c14b1); (try clear c15); (try clear c15b0); (try clear c15b1); (try clear c24); (try clear c25); (try clear c25b0); (try clear c25b1); (try clear hcz11_0); (try clear hcz11_1); (try clear hcz11_2); (try clear hcz11_3); (try clear hcz11_4); (try clear hcz13_0); (try clear hcz13_1); (try clear hcz13_2); (try clear hcz13_3); (try clear hcz13_4); (try clear hcz16_0); (try clear hcz16_1); (try clear hcz16_2); (try clear hcz16_3); (try clear hcz16_4); (try clear hcz18_0); (try clear hcz18_1); (try clear hcz18_2); (try clear hcz18_3); (try clear hcz18_4); (try clear hcz20_0); (try clear hcz20_1); (try clear hcz20_2); (try clear hcz20_3); (try clear hcz20_4); (try clear hcz22_0); (try clear hcz22_1); (try clear hcz22_2); (try clear hcz22_3); (try clear hcz22_4); (try clear hcz26_0); (try clear hcz26_1); (try clear hcz26_2); (try clear hcz26_3); (try clear hcz26_4); (try clear hcz28_0); (try clear hcz28_1); (try clear hcz28_2); (try clear hcz28_3); (try clear hcz28_4); (try clear hcz30_0); (try clear hcz30_1); (try clear hcz30_2); (try clear hcz30_3); (try clear hcz30_4); (try clear hcz32_0); (try clear hcz32_1); (try clear hcz32_2); (try clear hcz32_3); (try clear hcz32_4); (try clear hcz33_0); (try clear hcz33_1); (try clear hcz33_2); (try clear hcz33_3); (try clear hcz33_4); (try clear hcz35_0); (try clear hcz35_1); (try clear hcz35_2); (try clear hcz35_3); (try clear hcz35_4); (try clear hcz36_0); (try clear hcz36_1); (try clear hcz36_2); (try clear hcz36_3); (try clear hcz36_4); (try clear hcz7_0); (try clear hcz7_1); (try clear hcz7_2); (try clear hcz7_3); (try clear hcz7_4); (try clear hcz9_0); (try clear hcz9_1); (try clear hcz9_2); (try clear hcz9_3); (try clear hcz9_4); (try clear hfz11_0); (try clear hfz11_1); (try clear hfz11_2); (try clear hfz11_3); (try clear hfz11_4); (try clear hfz13_0); (try clear hfz13_1); (try clear hfz13_2); (try clear hfz13_3); (try clear hfz13_4); (try clear hfz16_0); (try clear hfz16_1); (try clear hfz16_2); (try clear hfz16_3); (try clear hfz16_4); (try clear hfz18_0); (try clear hfz18_1); (try clear hfz18_2); (try clear hfz18_3); (try clear hfz18_4); (try clear hfz20_0); (try clear hfz20_1); (try clear hfz20_2); (try clear hfz20_3); (try clear hfz20_4); (try clear hfz22_0); (try clear hfz22_1); (try clear hfz22_2); (try clear hfz22_3); (try clear hfz22_4); (try clear hfz26_0); (try clear hfz26_1); (try clear hfz26_2); (try clear hfz26_3); (try clear hfz26_4); (try clear hfz28_0); (try clear hfz28_1); (try clear hfz28_2); (try clear hfz28_3); (try clear hfz28_4); (try clear hfz30_0); (try clear hfz30_1); (try clear hfz30_2); (try clear hfz30_3); (try clear hfz30_4); (try clear hfz32_0); (try clear hfz32_1); (try clear hfz32_2); (try clear hfz32_3); (try clear hfz32_4); (try clear hfz33_0); (try clear hfz33_1); (try clear hfz33_2); (try clear hfz33_3); (try clear hfz33_4); (try clear hfz35_0); (try clear hfz35_1); (try clear hfz35_2); (try clear hfz35_3); (try clear hfz35_4); (try clear hfz36_0); (try clear hfz36_1); (try clear hfz36_2); (try clear hfz36_3); (try clear hfz36_4); (try clear hfz7_0); (try clear hfz7_1); (try clear hfz7_2); (try clear hfz7_3); (try clear hfz7_4); (try clear hfz9_0); (try clear hfz9_1); (try clear hfz9_2); (try clear hfz9_3); (try clear hfz9_4)
  obtain ⟨kq, x46_1, rfl, HA, HJ1, BK264, HB⟩ := hcut
  cases kq with
  | zero => exact absurd HA.out (by simp [spec_PageOk.j0])
  | succ kj1 =>
   have H := HA.out
   clear HA
   simp only [spec_PageOk.j0] at H
   replace H := ib_ H; rcases H with ⟨rfl, H⟩ | ⟨rfl, H⟩
   ·obtain rfl := Option.some.inj H
    go_wp2
    go_ret
    exact ⟨ab7, ab2 GE264⟩
   ·have H' := am H
    clear H
    go_wp2
    go_loopg [3] kj1 (fun kq v3 w' => ∃ (x3_2 : Int), v3 = .int .i64 x3_2 ∧ Aside0 (spec_PageOk.l0 kq x3_2 l0_0 l0_1 l0_2 a0_3 a0_4 = some r) ∧ Aside0 (kq ≤ kj1) ∧ Aside0 (w'.heap[gb264]? = some (.cells #[(.slice A0_0 l0_0.length c0_0), (.slice A0_1 l0_1.length c0_1), (.slice A0_2 l0_2.length c0_2), .int .i64 a0_3, .int .i64 a0_4] 31 (0, 0))) ∧ Aside0 (Below w.heap.size w w'))
    case atStart => exact ⟨(0), ab6, H', ⟨Nat.le_refl _⟩, ⟨ab3 BK264⟩, ⟨ab2 GE264⟩⟩
    case round =>
     clear H'
     (try clear c1); (try clear c2); (try clear p2); (try clear c3); (try clear c5); (try clear c6); (try clear c6b0); (try clear c6b1); (try clear c10); (try clear c10b0); (try clear c10b1); (try clear c14); (try clear c14b0); (try clear c14b1); (try clear c15); (try clear c15b0); (try clear c15b1); (try clear c24); (try clear c25); (try clear c25b0); (try clear c25b1); (try clear c38); (try clear hcz11_0); (try clear hcz11_1); (try clear hcz11_2); (try clear hcz11_3); (try clear hcz11_4); (try clear hcz13_0); (try clear hcz13_1); (try clear hcz13_2); (try clear hcz13_3); (try clear hcz13_4); (try clear hcz16_0); (try clear hcz16_1); (try clear hcz16_2); (try clear hcz16_3); (try clear hcz16_4); (try clear hcz18_0); (try clear hcz18_1); (try clear hcz18_2); (try clear hcz18_3); (try clear hcz18_4); (try clear hcz20_0); (try clear hcz20_1); (try clear hcz20_2); (try clear hcz20_3); (try clear hcz20_4); (try clear hcz22_0); (try clear hcz22_1); (try clear hcz22_2); (try clear hcz22_3); (try clear hcz22_4); (try clear hcz26_0); (try clear hcz26_1); (try clear hcz26_2); (try clear hcz26_3); (try clear hcz26_4); (try clear hcz28_0); (try clear hcz28_1); (try clear hcz28_2); (try clear hcz28_3); (try clear hcz28_4); (try clear hcz30_0); (try clear hcz30_1); (try clear hcz30_2); (try clear hcz30_3); (try clear hcz30_4); (try clear hcz32_0); (try clear hcz32_1); (try clear hcz32_2); (try clear hcz32_3); (try clear hcz32_4); (try clear hcz33_0); (try clear hcz33_1); (try clear hcz33_2); (try clear hcz33_3); (try clear hcz33_4); (try clear hcz35_0); (try clear hcz35_1); (try clear hcz35_2); (try clear hcz35_3); (try clear hcz35_4); (try clear hcz36_0); (try clear hcz36_1); (try clear hcz36_2); (try clear hcz36_3); (try clear hcz36_4); (try clear hcz7_0); (try clear hcz7_1); (try clear hcz7_2); (try clear hcz7_3); (try clear hcz7_4); (try clear hcz9_0); (try clear hcz9_1); (try clear hcz9_2); (try clear hcz9_3); (try clear hcz9_4); (try clear hfz11_0); (try clear hfz11_1); (try clear hfz11_2); (try clear hfz11_3); (try clear hfz11_4); (try clear hfz13_0); (try clear hfz13_1); (try clear hfz13_2); (try clear hfz13_3); (try clear hfz13_4); (try clear hfz16_0); (try clear hfz16_1); (try clear hfz16_2); (try clear hfz16_3); (try clear hfz16_4); (try clear hfz18_0); (try clear hfz18_1); (try clear hfz18_2); (try clear hfz18_3); (try clear hfz18_4); (try clear hfz20_0); (try clear hfz20_1); (try clear hfz20_2); (try clear hfz20_3); (try clear hfz20_4); (try clear hfz22_0); (try clear hfz22_1); (try clear hfz22_2); (try clear hfz22_3); (try clear hfz22_4); (try clear hfz26_0); (try clear hfz26_1); (try clear hfz26_2); (try clear hfz26_3); (try clear hfz26_4); (try clear hfz28_0); (try clear hfz28_1); (try clear hfz28_2); (try clear hfz28_3); (try clear hfz28_4); (try clear hfz30_0); (try clear hfz30_1); (try clear hfz30_2); (try clear hfz30_3); (try clear hfz30_4); (try clear hfz32_0); (try clear hfz32_1); (try clear hfz32_2); (try clear hfz32_3); (try clear hfz32_4); (try clear hfz33_0); (try clear hfz33_1); (try clear hfz33_2); (try clear hfz33_3); (try clear hfz33_4); (try clear hfz35_0); (try clear hfz35_1); (try clear hfz35_2); (try clear hfz35_3); (try clear hfz35_4); (try clear hfz36_0); (try clear hfz36_1); (try clear hfz36_2); (try clear hfz36_3); (try clear hfz36_4); (try clear hfz7_0); (try clear hfz7_1); (try clear hfz7_2); (try clear hfz7_3); (try clear hfz7_4); (try clear hfz9_0); (try clear hfz9_1); (try clear hfz9_2); (try clear hfz9_3); (try clear hfz9_4); (try clear p2)
     obtain ⟨x3_2, rfl, HA, HK2, BK264, HB⟩ := hrel
     cases gk with
     | zero => exact absurd HA.out (by simp [spec_PageOk.l0])
     | succ k2 =>
      have H := HA.out
      clear HA
      simp only [spec_PageOk.l0] at H
      replace H := ir_ H; rcases H with ⟨c39b0, H⟩ | ⟨c39b0, H⟩
      ·replace H := iq_ H; obtain ⟨c40b0, H⟩ := H
       replace H := bi_ H; obtain ⟨t270, A41, H⟩ := H
       replace H := ib_ H; rcases H with ⟨rfl, H⟩ | ⟨rfl, H⟩
       ·replace H := bi_ H; obtain ⟨t272, A43, H⟩ := H
        replace H := ie_ H; rcases H with ⟨c44b0, c44b1, H⟩ | ⟨c44, c44b0, c44b1, H⟩
        ·have H' := am H
         clear H
         obtain ⟨⟨_, _, _, _, _⟩, _, _, _, _, _⟩ := Op.cells5 BK264.out
         try go_wp2
         replace BK264 := am (blk_drew BK264.out)
         replace HB := am (below_drew1 HB.out)
         have p269 : 0 ≤ (x3_2 : Int) := of_decide_eq_true ab4
         have q269 : x3_2 < (l0_1.length : Int) := of_decide_eq_true ab4
         obtain ⟨ad269, e269, hx269_0⟩ := Kd.at_int HR0_1.out x3_2 p269 q269
         have hw269_0 := hx269_0
         cases e269
         replace hx269_0 := pc_ HB hx269_0
         replace p269 := eq_true p269
         replace q269 := eq_true q269
         have p271 : 0 ≤ (x3_2 : Int) := of_decide_eq_true ab4
         have q271 : x3_2 < (l0_1.length : Int) := of_decide_eq_true ab4
         obtain ⟨ad271, e271, hx271_0⟩ := Kd.at_int HR0_1.out x3_2 p271 q271
         have hw271_0 := hx271_0
         obtain rfl : ad269 = ad271 := (by injection e271)
         replace hx271_0 := pc_ HB hx271_0
         replace p271 := eq_true p271
         replace q271 := eq_true q271
         refine start_ (n := 20) (S := fun w' => w'.cell? ⟨gb264, 0, none⟩ = some (.slice A0_0 l0_0.length c0_0) ∧ w'.cell? ⟨gb264, 1, none⟩ = some (.slice (some ad269) l0_1.length c0_1) ∧ w'.cell? ⟨gb264, 2, none⟩ = some (.slice A0_2 l0_2.length c0_2) ∧ w'.cell? ⟨gb264, 3, none⟩ = some (.int .i64 a0_3) ∧ w'.cell? ⟨gb264, 4, none⟩ = some (.int .i64 a0_4) ∧ w'.cell? (ad269.add (x3_2).toNat) = some (.int .i64 (rd l0_1 x3_2)) ∧ w'.cell? (ad269.add (x3_2).toNat) = some (.int .i64 (rd l0_1 x3_2))) (ds := []) #[false, false, false, false, false, false, false, false, false, false, false, false, false, false, false, false, false, false, false, false] (by kernel_rfl) rfl rfl ⟨(blk_cell BK264.out 0).trans rfl, (blk_cell BK264.out 1).trans rfl, (blk_cell BK264.out 2).trans rfl, (blk_cell BK264.out 3).trans rfl, (blk_cell BK264.out 4).trans rfl, (pc_ HB hw269_0 :), (pc_ HB hw271_0 :)⟩ (fun hHeld => ?_); refine with_tabW spec_PageOk.tab6 spec_PageOk.bits6 (fun HT_ HW_ => ?_)
         generalize wr.drew = w46 at BK264 HB hx269_0 hx271_0 hHeld ⊢
         refine pa_ 0 54 HT_ ?_
         refine pa_ 2 56 HT_ ?_
         refine pa_ 4 58 HT_ ?_
         refine tk_ 1 55 HT_ HW_ hHeld ?_
         refine tk_ 3 57 HT_ HW_ hHeld ?_
         refine pa_ 5 59 HT_ ?_
         refine tk_ 6 60 HT_ HW_ hHeld ?_
         refine on_ 7 61 HT_ fun K hK => ?_
         refine goes_ Tryz.func51 (by kernel_rfl) rfl #[.slice A0_0 l0_0.length c0_0, .int .i64 (rd l0_1 x3_2), .string (⟨#[]⟩ : ByteArray)] (by rfl) rfl rfl ab5 ?_
         with_reducible refine (spec_l8Tag.calls _ _ l0_0 (rd l0_1 x3_2) (⟨#[]⟩ : ByteArray) true _ ?side1 ?side2 A41.out).mono ?_
         (case side1 => repeat (first | exact (Kd.C_below HR0_0.out HB.out) | (with_reducible refine Kd.C_alloc ?_ _) | (with_reducible refine Kd.C_drewN ?_ _) | (with_reducible refine Kd.C_drew ?_)))
         (case side2 => exact HC0_0.out)
         rintro e w' ⟨rfl, ⟨nd, rfl⟩⟩
         refine ⟨_, rfl, ?_⟩
         refine hK.out _ _ ⟨(blk_cell BK264.out 0).trans rfl, (blk_cell BK264.out 1).trans rfl, (blk_cell BK264.out 2).trans rfl, (blk_cell BK264.out 3).trans rfl, (blk_cell BK264.out 4).trans rfl, (pc_ HB hw269_0 :), (pc_ HB hw271_0 :)⟩ (fun hHeld => ?_)
         clear hK K
         refine nm_ ?_
         refine pa_ 8 62 HT_ ?_
         refine pa_ 9 63 HT_ ?_
         refine pa_ 10 64 HT_ ?_
         refine pa_ 12 66 HT_ ?_
         refine pa_ 14 68 HT_ ?_
         refine tk_ 11 65 HT_ HW_ hHeld ?_
         refine tk_ 13 67 HT_ HW_ hHeld ?_
         refine pa_ 15 69 HT_ ?_
         refine tk_ 16 70 HT_ HW_ hHeld ?_
         refine on_ 17 71 HT_ fun K hK => ?_
         refine goes_ Tryz.func43 (by kernel_rfl) rfl #[.slice (some ad269) l0_1.length c0_1, .int .i64 (rd l0_1 x3_2)] (by rfl) rfl rfl ab5 ?_
         with_reducible refine (spec_l6Count.calls k2 _ _ l0_1 (rd l0_1 x3_2) t272 _ ?side1 ?side2 A43.out).mono ?_
         (case side1 => repeat (first | exact (Kd.C_below HR0_1.out (ab2 GE264)) | (with_reducible refine Kd.C_alloc ?_ _) | (with_reducible refine Kd.C_drewN ?_ _) | (with_reducible refine Kd.C_drew ?_)))
         (case side2 => exact HC0_1.out)
         rintro e w' ⟨rfl, ⟨nd, rfl⟩⟩
         refine ⟨_, rfl, ?_⟩
         refine hK.out _ _ ⟨(blk_cell BK264.out 0).trans rfl, (blk_cell BK264.out 1).trans rfl, (blk_cell BK264.out 2).trans rfl, (blk_cell BK264.out 3).trans rfl, (blk_cell BK264.out 4).trans rfl, (pc_ HB hw269_0 :), (pc_ HB hw271_0 :)⟩ (fun hHeld => ?_)
         clear hK K
         refine nm_ ?_
         refine pa_ 18 72 HT_ ?_
         refine pa_ 19 73 HT_ ?_
         refine dn_ HT_ ?_
         try go_wp2
         go_roundg k2
         case measure => have := HJ1.out; have := HK2.out; omega
         case rel => exact ⟨(wrap64 (x3_2 + 1)), ab6, H', ⟨by have := HJ1.out; have := HK2.out; omega⟩, ⟨ab3 BK264⟩, ⟨ab2 GE264⟩⟩
        ·obtain rfl := Option.some.inj H
         obtain ⟨⟨_, _, _, _, _⟩, _, _, _, _, _⟩ := Op.cells5 BK264.out
         try go_wp2
         replace BK264 := am (blk_drew BK264.out)
         replace HB := am (below_drew1 HB.out)
         have p269 : 0 ≤ (x3_2 : Int) := of_decide_eq_true ab4
         have q269 : x3_2 < (l0_1.length : Int) := of_decide_eq_true ab4
         obtain ⟨ad269, e269, hx269_0⟩ := Kd.at_int HR0_1.out x3_2 p269 q269
         have hw269_0 := hx269_0
         cases e269
         replace hx269_0 := pc_ HB hx269_0
         replace p269 := eq_true p269
         replace q269 := eq_true q269
         have p271 : 0 ≤ (x3_2 : Int) := of_decide_eq_true ab4
         have q271 : x3_2 < (l0_1.length : Int) := of_decide_eq_true ab4
         obtain ⟨ad271, e271, hx271_0⟩ := Kd.at_int HR0_1.out x3_2 p271 q271
         have hw271_0 := hx271_0
         obtain rfl : ad269 = ad271 := (by injection e271)
         replace hx271_0 := pc_ HB hx271_0
         replace p271 := eq_true p271
         replace q271 := eq_true q271
         refine start_ (n := 20) (S := fun w' => w'.cell? ⟨gb264, 0, none⟩ = some (.slice A0_0 l0_0.length c0_0) ∧ w'.cell? ⟨gb264, 1, none⟩ = some (.slice (some ad269) l0_1.length c0_1) ∧ w'.cell? ⟨gb264, 2, none⟩ = some (.slice A0_2 l0_2.length c0_2) ∧ w'.cell? ⟨gb264, 3, none⟩ = some (.int .i64 a0_3) ∧ w'.cell? ⟨gb264, 4, none⟩ = some (.int .i64 a0_4) ∧ w'.cell? (ad269.add (x3_2).toNat) = some (.int .i64 (rd l0_1 x3_2)) ∧ w'.cell? (ad269.add (x3_2).toNat) = some (.int .i64 (rd l0_1 x3_2))) (ds := []) #[false, false, false, false, false, false, false, false, false, false, false, false, false, false, false, false, false, false, false, false] (by kernel_rfl) rfl rfl ⟨(blk_cell BK264.out 0).trans rfl, (blk_cell BK264.out 1).trans rfl, (blk_cell BK264.out 2).trans rfl, (blk_cell BK264.out 3).trans rfl, (blk_cell BK264.out 4).trans rfl, (pc_ HB hw269_0 :), (pc_ HB hw271_0 :)⟩ (fun hHeld => ?_); refine with_tabW spec_PageOk.tab6 spec_PageOk.bits6 (fun HT_ HW_ => ?_)
         generalize wr.drew = w48 at BK264 HB hx269_0 hx271_0 hHeld ⊢
         refine pa_ 0 54 HT_ ?_
         refine pa_ 2 56 HT_ ?_
         refine pa_ 4 58 HT_ ?_
         refine tk_ 1 55 HT_ HW_ hHeld ?_
         refine tk_ 3 57 HT_ HW_ hHeld ?_
         refine pa_ 5 59 HT_ ?_
         refine tk_ 6 60 HT_ HW_ hHeld ?_
         refine on_ 7 61 HT_ fun K hK => ?_
         refine goes_ Tryz.func51 (by kernel_rfl) rfl #[.slice A0_0 l0_0.length c0_0, .int .i64 (rd l0_1 x3_2), .string (⟨#[]⟩ : ByteArray)] (by rfl) rfl rfl ab5 ?_
         with_reducible refine (spec_l8Tag.calls _ _ l0_0 (rd l0_1 x3_2) (⟨#[]⟩ : ByteArray) true _ ?side1 ?side2 A41.out).mono ?_
         (case side1 => repeat (first | exact (Kd.C_below HR0_0.out HB.out) | (with_reducible refine Kd.C_alloc ?_ _) | (with_reducible refine Kd.C_drewN ?_ _) | (with_reducible refine Kd.C_drew ?_)))
         (case side2 => exact HC0_0.out)
         rintro e w' ⟨rfl, ⟨nd, rfl⟩⟩
         refine ⟨_, rfl, ?_⟩
         refine hK.out _ _ ⟨(blk_cell BK264.out 0).trans rfl, (blk_cell BK264.out 1).trans rfl, (blk_cell BK264.out 2).trans rfl, (blk_cell BK264.out 3).trans rfl, (blk_cell BK264.out 4).trans rfl, (pc_ HB hw269_0 :), (pc_ HB hw271_0 :)⟩ (fun hHeld => ?_)
         clear hK K
         refine nm_ ?_
         refine pa_ 8 62 HT_ ?_
         refine pa_ 9 63 HT_ ?_
         refine pa_ 10 64 HT_ ?_
         refine pa_ 12 66 HT_ ?_
         refine pa_ 14 68 HT_ ?_
         refine tk_ 11 65 HT_ HW_ hHeld ?_
         refine tk_ 13 67 HT_ HW_ hHeld ?_
         refine pa_ 15 69 HT_ ?_
         refine tk_ 16 70 HT_ HW_ hHeld ?_
         refine on_ 17 71 HT_ fun K hK => ?_
         refine goes_ Tryz.func43 (by kernel_rfl) rfl #[.slice (some ad269) l0_1.length c0_1, .int .i64 (rd l0_1 x3_2)] (by rfl) rfl rfl ab5 ?_
         with_reducible refine (spec_l6Count.calls k2 _ _ l0_1 (rd l0_1 x3_2) t272 _ ?side1 ?side2 A43.out).mono ?_
         (case side1 => repeat (first | exact (Kd.C_below HR0_1.out (ab2 GE264)) | (with_reducible refine Kd.C_alloc ?_ _) | (with_reducible refine Kd.C_drewN ?_ _) | (with_reducible refine Kd.C_drew ?_)))
         (case side2 => exact HC0_1.out)
         rintro e w' ⟨rfl, ⟨nd, rfl⟩⟩
         refine ⟨_, rfl, ?_⟩
         refine hK.out _ _ ⟨(blk_cell BK264.out 0).trans rfl, (blk_cell BK264.out 1).trans rfl, (blk_cell BK264.out 2).trans rfl, (blk_cell BK264.out 3).trans rfl, (blk_cell BK264.out 4).trans rfl, (pc_ HB hw269_0 :), (pc_ HB hw271_0 :)⟩ (fun hHeld => ?_)
         clear hK K
         refine nm_ ?_
         refine pa_ 18 72 HT_ ?_
         refine pa_ 19 73 HT_ ?_
         refine dn_ HT_ ?_
         try go_wp2
         go_ret
         exact ⟨ab7, ab2 GE264⟩
       ·obtain rfl := Option.some.inj H
        obtain ⟨⟨_, _, _, _, _⟩, _, _, _, _, _⟩ := Op.cells5 BK264.out
        try go_wp2
        replace BK264 := am (blk_drew BK264.out)
        replace HB := am (below_drew1 HB.out)
        have p269 : 0 ≤ (x3_2 : Int) := of_decide_eq_true ab4
        have q269 : x3_2 < (l0_1.length : Int) := of_decide_eq_true ab4
        obtain ⟨ad269, e269, hx269_0⟩ := Kd.at_int HR0_1.out x3_2 p269 q269
        have hw269_0 := hx269_0
        cases e269
        replace hx269_0 := pc_ HB hx269_0
        replace p269 := eq_true p269
        replace q269 := eq_true q269
        refine start_ (n := 20) (S := fun w' => w'.cell? ⟨gb264, 0, none⟩ = some (.slice A0_0 l0_0.length c0_0) ∧ w'.cell? ⟨gb264, 1, none⟩ = some (.slice (some ad269) l0_1.length c0_1) ∧ w'.cell? ⟨gb264, 2, none⟩ = some (.slice A0_2 l0_2.length c0_2) ∧ w'.cell? ⟨gb264, 3, none⟩ = some (.int .i64 a0_3) ∧ w'.cell? ⟨gb264, 4, none⟩ = some (.int .i64 a0_4) ∧ w'.cell? (ad269.add (x3_2).toNat) = some (.int .i64 (rd l0_1 x3_2))) (ds := []) #[false, false, false, false, false, false, false, false, false, false, false, false, false, false, false, false, false, false, false, false] (by kernel_rfl) rfl rfl ⟨(blk_cell BK264.out 0).trans rfl, (blk_cell BK264.out 1).trans rfl, (blk_cell BK264.out 2).trans rfl, (blk_cell BK264.out 3).trans rfl, (blk_cell BK264.out 4).trans rfl, (pc_ HB hw269_0 :)⟩ (fun hHeld => ?_); refine with_tabW spec_PageOk.tab6 spec_PageOk.bits6 (fun HT_ HW_ => ?_)
        generalize wr.drew = w50 at BK264 HB hx269_0 hHeld ⊢
        refine pa_ 0 54 HT_ ?_
        refine pa_ 2 56 HT_ ?_
        refine pa_ 4 58 HT_ ?_
        refine tk_ 1 55 HT_ HW_ hHeld ?_
        refine tk_ 3 57 HT_ HW_ hHeld ?_
        refine pa_ 5 59 HT_ ?_
        refine tk_ 6 60 HT_ HW_ hHeld ?_
        refine on_ 7 61 HT_ fun K hK => ?_
        refine goes_ Tryz.func51 (by kernel_rfl) rfl #[.slice A0_0 l0_0.length c0_0, .int .i64 (rd l0_1 x3_2), .string (⟨#[]⟩ : ByteArray)] (by rfl) rfl rfl ab5 ?_
        with_reducible refine (spec_l8Tag.calls _ _ l0_0 (rd l0_1 x3_2) (⟨#[]⟩ : ByteArray) false _ ?side1 ?side2 A41.out).mono ?_
        (case side1 => repeat (first | exact (Kd.C_below HR0_0.out HB.out) | (with_reducible refine Kd.C_alloc ?_ _) | (with_reducible refine Kd.C_drewN ?_ _) | (with_reducible refine Kd.C_drew ?_)))
        (case side2 => exact HC0_0.out)
        rintro e w' ⟨rfl, ⟨nd, rfl⟩⟩
        refine ⟨_, rfl, ?_⟩
        refine hK.out _ _ ⟨(blk_cell BK264.out 0).trans rfl, (blk_cell BK264.out 1).trans rfl, (blk_cell BK264.out 2).trans rfl, (blk_cell BK264.out 3).trans rfl, (blk_cell BK264.out 4).trans rfl, (pc_ HB hw269_0 :)⟩ (fun hHeld => ?_)
        clear hK K
        refine nm_ ?_
        refine pa_ 8 62 HT_ ?_
        refine pa_ 9 63 HT_ ?_
        refine pu_ 10 64 HT_ ?_
        refine pu_ 11 65 HT_ ?_
        refine pu_ 12 66 HT_ ?_
        refine pu_ 13 67 HT_ ?_
        refine pu_ 14 68 HT_ ?_
        refine pu_ 15 69 HT_ ?_
        refine pu_ 16 70 HT_ ?_
        refine pu_ 17 71 HT_ ?_
        refine pu_ 18 72 HT_ ?_
        refine pa_ 19 73 HT_ ?_
        refine dn_ HT_ ?_
        try go_wp2
        go_ret
        exact ⟨ab7, ab2 GE264⟩
      ·have H' := am H
       clear H
       obtain ⟨⟨_, _, _, _, _⟩, _, _, _, _, _⟩ := Op.cells5 BK264.out
       go_wp2
       go_loopg [4] k2 (fun kq v4 w' => ∃ (x4_3 : Int), v4 = .int .i64 x4_3 ∧ Aside0 (spec_PageOk.l1 kq x4_3 l0_0 l0_1 l0_2 a0_3 a0_4 = some r) ∧ Aside0 (kq ≤ k2) ∧ Aside0 (w'.heap[gb264]? = some (.cells #[(.slice A0_0 l0_0.length c0_0), (.slice A0_1 l0_1.length c0_1), (.slice A0_2 l0_2.length c0_2), .int .i64 a0_3, .int .i64 a0_4] 31 (0, 0))) ∧ Aside0 (Below w.heap.size w w'))
       case atStart => exact ⟨(0), ab6, H', ⟨Nat.le_refl _⟩, ⟨ab3 BK264⟩, ⟨ab2 GE264⟩⟩
       case round =>
        clear H'
        (try clear p2); (try clear q2); (try clear hx2); (try clear c3); (try clear c4); (try clear c5); (try clear p6); (try clear p26); (try clear q26); (try clear hx26); (try clear p27); (try clear q27); (try clear hx27); (try clear c39); (try clear c39b0); (try clear c40); (try clear c42); (try clear c43); (try clear c44); (try clear c44b0); (try clear c44b1); (try clear c51); (try clear hcz47_0); (try clear hcz47_1); (try clear hcz47_2); (try clear hcz47_3); (try clear hcz47_4); (try clear hcz49_0); (try clear hcz49_1); (try clear hcz49_2); (try clear hcz49_3); (try clear hcz49_4); (try clear hcz51_0); (try clear hcz51_1); (try clear hcz51_2); (try clear hcz51_3); (try clear hcz51_4); (try clear hfz47_0); (try clear hfz47_1); (try clear hfz47_2); (try clear hfz47_3); (try clear hfz47_4); (try clear hfz49_0); (try clear hfz49_1); (try clear hfz49_2); (try clear hfz49_3); (try clear hfz49_4); (try clear hfz51_0); (try clear hfz51_1); (try clear hfz51_2); (try clear hfz51_3); (try clear hfz51_4); (try clear hx269_0); (try clear hx271_0); (try clear p269); (try clear p271); (try clear q269); (try clear q271)
        obtain ⟨x4_3, rfl, HA, HK3, BK264, HB⟩ := hrel
        cases gk with
        | zero => exact absurd HA.out (by simp [spec_PageOk.l1])
        | succ k3 =>
         have H := HA.out
         clear HA
         simp only [spec_PageOk.l1] at H
         replace H := ir_ H; rcases H with ⟨c52b0, H⟩ | ⟨c52b0, H⟩
         ·replace H := iq_ H; obtain ⟨c53b0, H⟩ := H
          replace H := ie_ H; rcases H with ⟨c54b0, c54b1, H⟩ | ⟨c54, c54b0, c54b1, H⟩
          ·have H' := am H
           clear H
           obtain ⟨⟨_, _, _, _, _⟩, _, _, _, _, _⟩ := Op.cells5 BK264.out
           try go_wp2
           replace BK264 := am (blk_drew BK264.out)
           replace HB := am (below_drew1 HB.out)
           have p273 : 0 ≤ (x4_3 : Int) := of_decide_eq_true ab4
           have q273 : x4_3 < (l0_2.length : Int) := of_decide_eq_true ab4
           obtain ⟨ad273, e273, hx273_0⟩ := Kd.at_int HR0_2.out x4_3 p273 q273
           have hw273_0 := hx273_0
           cases e273
           replace hx273_0 := pc_ HB hx273_0
           replace p273 := eq_true p273
           replace q273 := eq_true q273
           refine start_ (n := 31) (S := fun w' => w'.cell? ⟨gb264, 0, none⟩ = some (.slice A0_0 l0_0.length c0_0) ∧ w'.cell? ⟨gb264, 1, none⟩ = some (.slice A0_1 l0_1.length c0_1) ∧ w'.cell? ⟨gb264, 2, none⟩ = some (.slice (some ad273) l0_2.length c0_2) ∧ w'.cell? ⟨gb264, 3, none⟩ = some (.int .i64 a0_3) ∧ w'.cell? ⟨gb264, 4, none⟩ = some (.int .i64 a0_4) ∧ w'.cell? (ad273.add (x4_3).toNat) = some (.int .i64 (rd l0_2 x4_3))) (ds := []) #[false, false, false, false, false, false, false, false, false, false, false, false, false, false, false, false, false, false, false, false, false, false, false, false, false, false, false, false, false, false, false] (by kernel_rfl) rfl rfl ⟨(blk_cell BK264.out 0).trans rfl, (blk_cell BK264.out 1).trans rfl, (blk_cell BK264.out 2).trans rfl, (blk_cell BK264.out 3).trans rfl, (blk_cell BK264.out 4).trans rfl, (pc_ HB hw273_0 :)⟩ (fun hHeld => ?_); refine with_tabW spec_PageOk.tab11 spec_PageOk.bits11 (fun HT_ HW_ => ?_)
           generalize wr.drew = w56 at BK264 HB hx273_0 hHeld ⊢
           refine pa_ 0 81 HT_ ?_
           refine pa_ 2 83 HT_ ?_
           refine tk_ 1 82 HT_ HW_ hHeld ?_
           refine pa_ 3 84 HT_ ?_
           refine tk_ 4 85 HT_ HW_ hHeld ?_
           refine pa_ 5 86 HT_ ?_
           refine pa_ 6 87 HT_ ?_
           refine pu_ 7 88 HT_ ?_
           refine pu_ 8 89 HT_ ?_
           refine pu_ 9 90 HT_ ?_
           refine pu_ 10 91 HT_ ?_
           refine pu_ 11 92 HT_ ?_
           refine pu_ 12 93 HT_ ?_
           refine pu_ 13 94 HT_ ?_
           refine pu_ 14 95 HT_ ?_
           refine pu_ 15 96 HT_ ?_
           refine pu_ 16 97 HT_ ?_
           refine pu_ 17 98 HT_ ?_
           refine pu_ 18 99 HT_ ?_
           refine pu_ 19 100 HT_ ?_
           refine pu_ 20 101 HT_ ?_
           refine pu_ 21 102 HT_ ?_
           refine pu_ 22 103 HT_ ?_
           refine pu_ 23 104 HT_ ?_
           refine pu_ 24 105 HT_ ?_
           refine pu_ 25 106 HT_ ?_
           refine pu_ 26 107 HT_ ?_
           refine pu_ 27 108 HT_ ?_
           refine pu_ 28 109 HT_ ?_
           refine pu_ 29 110 HT_ ?_
           refine pa_ 30 111 HT_ ?_
           refine dn_ HT_ ?_
           try go_wp2
           go_roundg k3
           case measure => have := HJ1.out; have := HK2.out; have := HK3.out; omega
           case rel => exact ⟨(wrap64 (x4_3 + 1)), ab6, H', ⟨by have := HJ1.out; have := HK2.out; have := HK3.out; omega⟩, ⟨ab3 BK264⟩, ⟨ab2 GE264⟩⟩
          ·replace H := bi_ H; obtain ⟨t275, A57, H⟩ := H
           replace H := ib_ H; rcases H with ⟨rfl, H⟩ | ⟨rfl, H⟩
           ·replace H := iq_ H; obtain ⟨c59b0, H⟩ := H
            replace H := iq_ H; obtain ⟨c60b0, H⟩ := H
            replace H := bi_ H; obtain ⟨t278, A61, H⟩ := H
            replace H := ib_ H; rcases H with ⟨rfl, H⟩ | ⟨rfl, H⟩
            ·have H' := am H
             clear H
             obtain ⟨⟨_, _, _, _, _⟩, _, _, _, _, _⟩ := Op.cells5 BK264.out
             try go_wp2
             replace BK264 := am (blk_drew BK264.out)
             replace HB := am (below_drew1 HB.out)
             have p273 : 0 ≤ (x4_3 : Int) := of_decide_eq_true ab4
             have q273 : x4_3 < (l0_2.length : Int) := of_decide_eq_true ab4
             obtain ⟨ad273, e273, hx273_0⟩ := Kd.at_int HR0_2.out x4_3 p273 q273
             have hw273_0 := hx273_0
             cases e273
             replace hx273_0 := pc_ HB hx273_0
             replace p273 := eq_true p273
             replace q273 := eq_true q273
             have p274 : 0 ≤ (x4_3 : Int) := of_decide_eq_true ab4
             have q274 : x4_3 < (l0_2.length : Int) := of_decide_eq_true ab4
             obtain ⟨ad274, e274, hx274_0⟩ := Kd.at_int HR0_2.out x4_3 p274 q274
             have hw274_0 := hx274_0
             obtain rfl : ad273 = ad274 := (by injection e274)
             replace hx274_0 := pc_ HB hx274_0
             replace p274 := eq_true p274
             replace q274 := eq_true q274
             have p276 : 0 ≤ (x4_3 : Int) := of_decide_eq_true ab4
             have q276 : x4_3 < (l0_2.length : Int) := of_decide_eq_true ab4
             obtain ⟨ad276, e276, hx276_0⟩ := Kd.at_int HR0_2.out x4_3 p276 q276
             have hw276_0 := hx276_0
             obtain rfl : ad273 = ad276 := (by injection e276)
             replace hx276_0 := pc_ HB hx276_0
             replace p276 := eq_true p276
             replace q276 := eq_true q276
             obtain ⟨p277, q277, ad277, A277_3, c277_3, A277_6, c277_6, rfl, hx277_0, hx277_1, hx277_2, hx277_3, hx277_4, hx277_5, hx277_6, HC277_3, HR277_3, HC277_6, HR277_6, hw277⟩ := osT53 HB HR0_0.out (rd l0_2 x4_3) (of_decide_eq_true ab4) (of_decide_eq_true ab4)
             refine start_ (n := 31) (S := fun w' => w'.cell? ⟨gb264, 0, none⟩ = some (.slice (some ad277) l0_0.length c0_0) ∧ w'.cell? ⟨gb264, 1, none⟩ = some (.slice A0_1 l0_1.length c0_1) ∧ w'.cell? ⟨gb264, 2, none⟩ = some (.slice (some ad273) l0_2.length c0_2) ∧ w'.cell? ⟨gb264, 3, none⟩ = some (.int .i64 a0_3) ∧ w'.cell? ⟨gb264, 4, none⟩ = some (.int .i64 a0_4) ∧ w'.cell? (ad273.add (x4_3).toNat) = some (.int .i64 (rd l0_2 x4_3)) ∧ w'.cell? (ad273.add (x4_3).toNat) = some (.int .i64 (rd l0_2 x4_3)) ∧ w'.cell? (ad273.add (x4_3).toNat) = some (.int .i64 (rd l0_2 x4_3)) ∧ sT53 (ad277.add (((rd l0_2 x4_3)).toNat * 7)) (rd_T53 l0_0 (rd l0_2 x4_3)) A277_3 c277_3 A277_6 c277_6 Tr w') (ds := []) #[false, false, false, false, false, false, false, false, false, false, false, false, false, false, false, false, false, false, false, false, false, false, false, false, false, false, false, false, false, false, false] (by kernel_rfl) rfl rfl ⟨(blk_cell BK264.out 0).trans rfl, (blk_cell BK264.out 1).trans rfl, (blk_cell BK264.out 2).trans rfl, (blk_cell BK264.out 3).trans rfl, (blk_cell BK264.out 4).trans rfl, (pc_ HB hw273_0 :), (pc_ HB hw274_0 :), (pc_ HB hw276_0 :), (spT53 HB hw277 tr_ :)⟩ (fun hHeld => ?_); refine with_tabW spec_PageOk.tab11 spec_PageOk.bits11 (fun HT_ HW_ => ?_)
             generalize wr.drew = w64 at BK264 HB HR277_3 HR277_6 hx273_0 hx274_0 hx276_0 hx277_0 hx277_1 hx277_2 hx277_3 hx277_4 hx277_5 hx277_6 hHeld ⊢
             refine pa_ 0 81 HT_ ?_
             refine pa_ 2 83 HT_ ?_
             refine tk_ 1 82 HT_ HW_ hHeld ?_
             refine pa_ 3 84 HT_ ?_
             refine tk_ 4 85 HT_ HW_ hHeld ?_
             refine pa_ 5 86 HT_ ?_
             refine pa_ 6 87 HT_ ?_
             refine pa_ 7 88 HT_ ?_
             refine pa_ 9 90 HT_ ?_
             refine pa_ 11 92 HT_ ?_
             refine tk_ 8 89 HT_ HW_ hHeld ?_
             refine tk_ 10 91 HT_ HW_ hHeld ?_
             refine pa_ 12 93 HT_ ?_
             refine tk_ 13 94 HT_ HW_ hHeld ?_
             refine on_ 14 95 HT_ fun K hK => ?_
             refine goes_ Tryz.func51 (by kernel_rfl) rfl #[.slice (some ad277) l0_0.length c0_0, .int .i64 (rd l0_2 x4_3), .string (⟨#[]⟩ : ByteArray)] (by rfl) rfl rfl ab5 ?_
             with_reducible refine (spec_l8Tag.calls _ _ l0_0 (rd l0_2 x4_3) (⟨#[]⟩ : ByteArray) true _ ?side1 ?side2 A57.out).mono ?_
             (case side1 => repeat (first | exact (Kd.C_below HR0_0.out HB.out) | (with_reducible refine Kd.C_alloc ?_ _) | (with_reducible refine Kd.C_drewN ?_ _) | (with_reducible refine Kd.C_drew ?_)))
             (case side2 => exact HC0_0.out)
             rintro e w' ⟨rfl, ⟨nd, rfl⟩⟩
             refine ⟨_, rfl, ?_⟩
             refine hK.out _ _ ⟨(blk_cell BK264.out 0).trans rfl, (blk_cell BK264.out 1).trans rfl, (blk_cell BK264.out 2).trans rfl, (blk_cell BK264.out 3).trans rfl, (blk_cell BK264.out 4).trans rfl, (pc_ HB hw273_0 :), (pc_ HB hw274_0 :), (pc_ HB hw276_0 :), (spT53 HB hw277 tr_ :)⟩ (fun hHeld => ?_)
             clear hK K
             refine nm_ ?_
             refine pa_ 15 96 HT_ ?_
             refine pa_ 16 97 HT_ ?_
             refine pa_ 17 98 HT_ ?_
             refine pa_ 19 100 HT_ ?_
             refine pa_ 21 102 HT_ ?_
             refine tk_ 18 99 HT_ HW_ hHeld ?_
             refine tk_ 20 101 HT_ HW_ hHeld ?_
             refine pa_ 22 103 HT_ ?_
             refine tk_ 23 104 HT_ HW_ hHeld ?_
             refine pa_ 24 105 HT_ ?_
             refine pa_ 25 106 HT_ ?_
             refine tk_ 26 107 HT_ HW_ hHeld ?_
             refine on_ 27 108 HT_ fun K hK => ?_
             refine goes_ Tryz.func52 (by kernel_rfl) rfl #[.string ((rd_T53 l0_0 (rd l0_2 x4_3)).f2)] (by rfl) rfl rfl ab5 ?_
             with_reducible refine (spec_Format.calls k3 ((rd_T53 l0_0 (rd l0_2 x4_3)).f2) true _ A61.out).mono ?_
             rintro e w65 ⟨rfl, hb⟩
             refine ⟨_, rfl, ?_⟩
             replace BK264 := bl_ BK264 hb
             replace HB := am (below_step (ab2 GE264) hb)
             (try clear hb)
             refine hK.out _ _ ⟨(blk_cell BK264.out 0).trans rfl, (blk_cell BK264.out 1).trans rfl, (blk_cell BK264.out 2).trans rfl, (blk_cell BK264.out 3).trans rfl, (blk_cell BK264.out 4).trans rfl, (pc_ HB hw273_0 :), (pc_ HB hw274_0 :), (pc_ HB hw276_0 :), (spT53 HB hw277 tr_ :)⟩ (fun hHeld => ?_)
             clear hK K
             refine nm_ ?_
             refine pa_ 28 109 HT_ ?_
             refine pa_ 29 110 HT_ ?_
             refine pa_ 30 111 HT_ ?_
             refine dn_ HT_ ?_
             try go_wp2
             go_roundg k3
             case measure => have := HJ1.out; have := HK2.out; have := HK3.out; omega
             case rel => exact ⟨(wrap64 (x4_3 + 1)), ab6, H', ⟨by have := HJ1.out; have := HK2.out; have := HK3.out; omega⟩, ⟨ab3 BK264⟩, ⟨ab2 GE264⟩⟩
            ·obtain rfl := Option.some.inj H
             obtain ⟨⟨_, _, _, _, _⟩, _, _, _, _, _⟩ := Op.cells5 BK264.out
             try go_wp2
             replace BK264 := am (blk_drew BK264.out)
             replace HB := am (below_drew1 HB.out)
             have p273 : 0 ≤ (x4_3 : Int) := of_decide_eq_true ab4
             have q273 : x4_3 < (l0_2.length : Int) := of_decide_eq_true ab4
             obtain ⟨ad273, e273, hx273_0⟩ := Kd.at_int HR0_2.out x4_3 p273 q273
             have hw273_0 := hx273_0
             cases e273
             replace hx273_0 := pc_ HB hx273_0
             replace p273 := eq_true p273
             replace q273 := eq_true q273
             have p274 : 0 ≤ (x4_3 : Int) := of_decide_eq_true ab4
             have q274 : x4_3 < (l0_2.length : Int) := of_decide_eq_true ab4
             obtain ⟨ad274, e274, hx274_0⟩ := Kd.at_int HR0_2.out x4_3 p274 q274
             have hw274_0 := hx274_0
             obtain rfl : ad273 = ad274 := (by injection e274)
             replace hx274_0 := pc_ HB hx274_0
             replace p274 := eq_true p274
             replace q274 := eq_true q274
             have p276 : 0 ≤ (x4_3 : Int) := of_decide_eq_true ab4
             have q276 : x4_3 < (l0_2.length : Int) := of_decide_eq_true ab4
             obtain ⟨ad276, e276, hx276_0⟩ := Kd.at_int HR0_2.out x4_3 p276 q276
             have hw276_0 := hx276_0
             obtain rfl : ad273 = ad276 := (by injection e276)
             replace hx276_0 := pc_ HB hx276_0
             replace p276 := eq_true p276
             replace q276 := eq_true q276
             obtain ⟨p277, q277, ad277, A277_3, c277_3, A277_6, c277_6, rfl, hx277_0, hx277_1, hx277_2, hx277_3, hx277_4, hx277_5, hx277_6, HC277_3, HR277_3, HC277_6, HR277_6, hw277⟩ := osT53 HB HR0_0.out (rd l0_2 x4_3) (of_decide_eq_true ab4) (of_decide_eq_true ab4)
             refine start_ (n := 31) (S := fun w' => w'.cell? ⟨gb264, 0, none⟩ = some (.slice (some ad277) l0_0.length c0_0) ∧ w'.cell? ⟨gb264, 1, none⟩ = some (.slice A0_1 l0_1.length c0_1) ∧ w'.cell? ⟨gb264, 2, none⟩ = some (.slice (some ad273) l0_2.length c0_2) ∧ w'.cell? ⟨gb264, 3, none⟩ = some (.int .i64 a0_3) ∧ w'.cell? ⟨gb264, 4, none⟩ = some (.int .i64 a0_4) ∧ w'.cell? (ad273.add (x4_3).toNat) = some (.int .i64 (rd l0_2 x4_3)) ∧ w'.cell? (ad273.add (x4_3).toNat) = some (.int .i64 (rd l0_2 x4_3)) ∧ w'.cell? (ad273.add (x4_3).toNat) = some (.int .i64 (rd l0_2 x4_3)) ∧ sT53 (ad277.add (((rd l0_2 x4_3)).toNat * 7)) (rd_T53 l0_0 (rd l0_2 x4_3)) A277_3 c277_3 A277_6 c277_6 Tr w') (ds := []) #[false, false, false, false, false, false, false, false, false, false, false, false, false, false, false, false, false, false, false, false, false, false, false, false, false, false, false, false, false, false, false] (by kernel_rfl) rfl rfl ⟨(blk_cell BK264.out 0).trans rfl, (blk_cell BK264.out 1).trans rfl, (blk_cell BK264.out 2).trans rfl, (blk_cell BK264.out 3).trans rfl, (blk_cell BK264.out 4).trans rfl, (pc_ HB hw273_0 :), (pc_ HB hw274_0 :), (pc_ HB hw276_0 :), (spT53 HB hw277 tr_ :)⟩ (fun hHeld => ?_); refine with_tabW spec_PageOk.tab11 spec_PageOk.bits11 (fun HT_ HW_ => ?_)
             generalize wr.drew = w67 at BK264 HB HR277_3 HR277_6 hx273_0 hx274_0 hx276_0 hx277_0 hx277_1 hx277_2 hx277_3 hx277_4 hx277_5 hx277_6 hHeld ⊢
             refine pa_ 0 81 HT_ ?_
             refine pa_ 2 83 HT_ ?_
             refine tk_ 1 82 HT_ HW_ hHeld ?_
             refine pa_ 3 84 HT_ ?_
             refine tk_ 4 85 HT_ HW_ hHeld ?_
             refine pa_ 5 86 HT_ ?_
             refine pa_ 6 87 HT_ ?_
             refine pa_ 7 88 HT_ ?_
             refine pa_ 9 90 HT_ ?_
             refine pa_ 11 92 HT_ ?_
             refine tk_ 8 89 HT_ HW_ hHeld ?_
             refine tk_ 10 91 HT_ HW_ hHeld ?_
             refine pa_ 12 93 HT_ ?_
             refine tk_ 13 94 HT_ HW_ hHeld ?_
             refine on_ 14 95 HT_ fun K hK => ?_
             refine goes_ Tryz.func51 (by kernel_rfl) rfl #[.slice (some ad277) l0_0.length c0_0, .int .i64 (rd l0_2 x4_3), .string (⟨#[]⟩ : ByteArray)] (by rfl) rfl rfl ab5 ?_
             with_reducible refine (spec_l8Tag.calls _ _ l0_0 (rd l0_2 x4_3) (⟨#[]⟩ : ByteArray) true _ ?side1 ?side2 A57.out).mono ?_
             (case side1 => repeat (first | exact (Kd.C_below HR0_0.out HB.out) | (with_reducible refine Kd.C_alloc ?_ _) | (with_reducible refine Kd.C_drewN ?_ _) | (with_reducible refine Kd.C_drew ?_)))
             (case side2 => exact HC0_0.out)
             rintro e w' ⟨rfl, ⟨nd, rfl⟩⟩
             refine ⟨_, rfl, ?_⟩
             refine hK.out _ _ ⟨(blk_cell BK264.out 0).trans rfl, (blk_cell BK264.out 1).trans rfl, (blk_cell BK264.out 2).trans rfl, (blk_cell BK264.out 3).trans rfl, (blk_cell BK264.out 4).trans rfl, (pc_ HB hw273_0 :), (pc_ HB hw274_0 :), (pc_ HB hw276_0 :), (spT53 HB hw277 tr_ :)⟩ (fun hHeld => ?_)
             clear hK K
             refine nm_ ?_
             refine pa_ 15 96 HT_ ?_
             refine pa_ 16 97 HT_ ?_
             refine pa_ 17 98 HT_ ?_
             refine pa_ 19 100 HT_ ?_
             refine pa_ 21 102 HT_ ?_
             refine tk_ 18 99 HT_ HW_ hHeld ?_
             refine tk_ 20 101 HT_ HW_ hHeld ?_
             refine pa_ 22 103 HT_ ?_
             refine tk_ 23 104 HT_ HW_ hHeld ?_
             refine pa_ 24 105 HT_ ?_
             refine pa_ 25 106 HT_ ?_
             refine tk_ 26 107 HT_ HW_ hHeld ?_
             refine on_ 27 108 HT_ fun K hK => ?_
             refine goes_ Tryz.func52 (by kernel_rfl) rfl #[.string ((rd_T53 l0_0 (rd l0_2 x4_3)).f2)] (by rfl) rfl rfl ab5 ?_
             with_reducible refine (spec_Format.calls k3 ((rd_T53 l0_0 (rd l0_2 x4_3)).f2) false _ A61.out).mono ?_
             rintro e w68 ⟨rfl, hb⟩
             refine ⟨_, rfl, ?_⟩
             replace BK264 := bl_ BK264 hb
             replace HB := am (below_step (ab2 GE264) hb)
             (try clear hb)
             refine hK.out _ _ ⟨(blk_cell BK264.out 0).trans rfl, (blk_cell BK264.out 1).trans rfl, (blk_cell BK264.out 2).trans rfl, (blk_cell BK264.out 3).trans rfl, (blk_cell BK264.out 4).trans rfl, (pc_ HB hw273_0 :), (pc_ HB hw274_0 :), (pc_ HB hw276_0 :), (spT53 HB hw277 tr_ :)⟩ (fun hHeld => ?_)
             clear hK K
             refine nm_ ?_
             refine pa_ 28 109 HT_ ?_
             refine pa_ 29 110 HT_ ?_
             refine pa_ 30 111 HT_ ?_
             refine dn_ HT_ ?_
             try go_wp2
             go_ret
             exact ⟨ab7, ab2 GE264⟩
           ·obtain rfl := Option.some.inj H
            obtain ⟨⟨_, _, _, _, _⟩, _, _, _, _, _⟩ := Op.cells5 BK264.out
            try go_wp2
            replace BK264 := am (blk_drew BK264.out)
            replace HB := am (below_drew1 HB.out)
            have p273 : 0 ≤ (x4_3 : Int) := of_decide_eq_true ab4
            have q273 : x4_3 < (l0_2.length : Int) := of_decide_eq_true ab4
            obtain ⟨ad273, e273, hx273_0⟩ := Kd.at_int HR0_2.out x4_3 p273 q273
            have hw273_0 := hx273_0
            cases e273
            replace hx273_0 := pc_ HB hx273_0
            replace p273 := eq_true p273
            replace q273 := eq_true q273
            have p274 : 0 ≤ (x4_3 : Int) := of_decide_eq_true ab4
            have q274 : x4_3 < (l0_2.length : Int) := of_decide_eq_true ab4
            obtain ⟨ad274, e274, hx274_0⟩ := Kd.at_int HR0_2.out x4_3 p274 q274
            have hw274_0 := hx274_0
            obtain rfl : ad273 = ad274 := (by injection e274)
            replace hx274_0 := pc_ HB hx274_0
            replace p274 := eq_true p274
            replace q274 := eq_true q274
            refine start_ (n := 31) (S := fun w' => w'.cell? ⟨gb264, 0, none⟩ = some (.slice A0_0 l0_0.length c0_0) ∧ w'.cell? ⟨gb264, 1, none⟩ = some (.slice A0_1 l0_1.length c0_1) ∧ w'.cell? ⟨gb264, 2, none⟩ = some (.slice (some ad273) l0_2.length c0_2) ∧ w'.cell? ⟨gb264, 3, none⟩ = some (.int .i64 a0_3) ∧ w'.cell? ⟨gb264, 4, none⟩ = some (.int .i64 a0_4) ∧ w'.cell? (ad273.add (x4_3).toNat) = some (.int .i64 (rd l0_2 x4_3)) ∧ w'.cell? (ad273.add (x4_3).toNat) = some (.int .i64 (rd l0_2 x4_3))) (ds := []) #[false, false, false, false, false, false, false, false, false, false, false, false, false, false, false, false, false, false, false, false, false, false, false, false, false, false, false, false, false, false, false] (by kernel_rfl) rfl rfl ⟨(blk_cell BK264.out 0).trans rfl, (blk_cell BK264.out 1).trans rfl, (blk_cell BK264.out 2).trans rfl, (blk_cell BK264.out 3).trans rfl, (blk_cell BK264.out 4).trans rfl, (pc_ HB hw273_0 :), (pc_ HB hw274_0 :)⟩ (fun hHeld => ?_); refine with_tabW spec_PageOk.tab11 spec_PageOk.bits11 (fun HT_ HW_ => ?_)
            generalize wr.drew = w70 at BK264 HB hx273_0 hx274_0 hHeld ⊢
            refine pa_ 0 81 HT_ ?_
            refine pa_ 2 83 HT_ ?_
            refine tk_ 1 82 HT_ HW_ hHeld ?_
            refine pa_ 3 84 HT_ ?_
            refine tk_ 4 85 HT_ HW_ hHeld ?_
            refine pa_ 5 86 HT_ ?_
            refine pa_ 6 87 HT_ ?_
            refine pa_ 7 88 HT_ ?_
            refine pa_ 9 90 HT_ ?_
            refine pa_ 11 92 HT_ ?_
            refine tk_ 8 89 HT_ HW_ hHeld ?_
            refine tk_ 10 91 HT_ HW_ hHeld ?_
            refine pa_ 12 93 HT_ ?_
            refine tk_ 13 94 HT_ HW_ hHeld ?_
            refine on_ 14 95 HT_ fun K hK => ?_
            refine goes_ Tryz.func51 (by kernel_rfl) rfl #[.slice A0_0 l0_0.length c0_0, .int .i64 (rd l0_2 x4_3), .string (⟨#[]⟩ : ByteArray)] (by rfl) rfl rfl ab5 ?_
            with_reducible refine (spec_l8Tag.calls _ _ l0_0 (rd l0_2 x4_3) (⟨#[]⟩ : ByteArray) false _ ?side1 ?side2 A57.out).mono ?_
            (case side1 => repeat (first | exact (Kd.C_below HR0_0.out HB.out) | (with_reducible refine Kd.C_alloc ?_ _) | (with_reducible refine Kd.C_drewN ?_ _) | (with_reducible refine Kd.C_drew ?_)))
            (case side2 => exact HC0_0.out)
            rintro e w' ⟨rfl, ⟨nd, rfl⟩⟩
            refine ⟨_, rfl, ?_⟩
            refine hK.out _ _ ⟨(blk_cell BK264.out 0).trans rfl, (blk_cell BK264.out 1).trans rfl, (blk_cell BK264.out 2).trans rfl, (blk_cell BK264.out 3).trans rfl, (blk_cell BK264.out 4).trans rfl, (pc_ HB hw273_0 :), (pc_ HB hw274_0 :)⟩ (fun hHeld => ?_)
            clear hK K
            refine nm_ ?_
            refine pa_ 15 96 HT_ ?_
            refine pa_ 16 97 HT_ ?_
            refine pu_ 17 98 HT_ ?_
            refine pu_ 18 99 HT_ ?_
            refine pu_ 19 100 HT_ ?_
            refine pu_ 20 101 HT_ ?_
            refine pu_ 21 102 HT_ ?_
            refine pu_ 22 103 HT_ ?_
            refine pu_ 23 104 HT_ ?_
            refine pu_ 24 105 HT_ ?_
            refine pu_ 25 106 HT_ ?_
            refine pu_ 26 107 HT_ ?_
            refine pu_ 27 108 HT_ ?_
            refine pu_ 28 109 HT_ ?_
            refine pa_ 29 110 HT_ ?_
            refine pa_ 30 111 HT_ ?_
            refine dn_ HT_ ?_
            try go_wp2
            go_ret
            exact ⟨ab7, ab2 GE264⟩
         ·obtain rfl := Option.some.inj H
          obtain ⟨⟨_, _, _, _, _⟩, _, _, _, _, _⟩ := Op.cells5 BK264.out
          go_wp2
          go_ret
          exact ⟨ab7, ab2 GE264⟩
def spec_l9Room.f (l0_0 : List (S53)) (l0_1 : List Int) (l0_2 : List Int) (a0_3 : Int) (a0_4 : Int) : Option (Bool) := some (decide ((l0_0.length : Int) < 3000))
theorem spec_l9Room.calls (A0_0 : Option Addr) (c0_0 : Nat) (l0_0 : List (S53)) (A0_1 : Option Addr) (c0_1 : Nat) (l0_1 : List Int) (A0_2 : Option Addr) (c0_2 : Nat) (l0_2 : List Int) (a0_3 : Int) (a0_4 : Int) (r : Bool) (w : World) (hr0_0 : Kd.C k53 w A0_0 l0_0.length l0_0) (hc0_0 : l0_0.length ≤ c0_0) (hr0_1 : Kd.C (Kd.int .i64) w A0_1 l0_1.length l0_1) (hc0_1 : l0_1.length ≤ c0_1) (hr0_2 : Kd.C (Kd.int .i64) w A0_2 l0_2.length l0_2) (hc0_2 : l0_2.length ≤ c0_2) (h : spec_l9Room.f l0_0 l0_1 l0_2 a0_3 a0_4 = some r) :
  Calls Tryz.prog 25 #[.agg #[.slice A0_0 l0_0.length c0_0, .slice A0_1 l0_1.length c0_1, .slice A0_2 l0_2.length c0_2, .int .i64 a0_3, .int .i64 a0_4]] w fun e w' => e = .returned (.bool r) ∧ Below w.heap.size w w' := by
 have hu31 := Tryz.underlying31
 have HR0_0 := am hr0_0
 have HC0_0 := am hc0_0
 clear hr0_0 hc0_0
 have HR0_1 := am hr0_1
 have HC0_1 := am hc0_1
 clear hr0_1 hc0_1
 have HR0_2 := am hr0_2
 have HC0_2 := am hc0_2
 clear hr0_2 hc0_2
 have HB := am (Below.refl w.heap.size w)
 have H : (some (decide ((l0_0.length : Int) < 3000))) = some r := h
 clear h
 obtain rfl := Option.some.inj H
 go_enter Tryz.func25, Tryz.ntmps25
 go_wp2_with (first | ((with_reducible refine gd_ 1 ?_); refine bx_ 1 (cs := #[.slice A0_0 l0_0.length c0_0, .slice A0_1 l0_1.length c0_1, .slice A0_2 l0_2.length c0_2, .int .i64 a0_3, .int .i64 a0_4]) 31 ?_; intro gb279 hg w2 hbox hb; have BK279 := am hbox; have GW279 := ge_ (w := w) hg; have GE279 := ge_ (w := w) hg; replace HB := am (below_step ab1 hb); clear hb hbox hg; obtain ⟨⟨_, _, _, _, _⟩, _, _, _, _, _⟩ := Op.cells5 BK279.out))
 go_ret
 exact ⟨ab7, ab2 GE279⟩
def spec_l6Item.f (a0_0 : Int) (a0_1 : Int) (a0_2 : ByteArray) (l0_3 : List (S56)) (a0_4 : ByteArray) (a0_5 : Int) (l0_6 : List Int) : Option (Int × Int × ByteArray × (List (S56)) × ByteArray × Int × List Int) := (some (([] : List (S56)) : List (S56))).bind fun y282 => (if y282.length + l0_3.length < 4398046511104 then ((some (([] : List Int) : List Int)).bind fun y288 => (if y288.length + l0_6.length < 17592186044416 then (some (a0_0, a0_1, a0_2, (y282 ++ l0_3), a0_4, a0_5, (y288 ++ l0_6))) else (none))) else (none))
theorem spec_l6Item.calls (a0_0 : Int) (a0_1 : Int) (a0_2 : ByteArray) (A0_3 : Option Addr) (c0_3 : Nat) (l0_3 : List (S56)) (a0_4 : ByteArray) (a0_5 : Int) (A0_6 : Option Addr) (c0_6 : Nat) (l0_6 : List Int) (r1 : Int) (r2 : Int) (r3 : ByteArray) (r4 : List (S56)) (r5 : ByteArray) (r6 : Int) (r7 : List Int) (w : World) (hr0_3 : Kd.C k56 w A0_3 l0_3.length l0_3) (hc0_3 : l0_3.length ≤ c0_3) (hr0_6 : Kd.C (Kd.int .i64) w A0_6 l0_6.length l0_6) (hc0_6 : l0_6.length ≤ c0_6) (h : spec_l6Item.f a0_0 a0_1 a0_2 l0_3 a0_4 a0_5 l0_6 = some (r1, r2, r3, r4, r5, r6, r7)) :
  Calls Tryz.prog 82 #[.agg #[.int .i64 a0_0, .int .i64 a0_1, .string a0_2, .slice A0_3 l0_3.length c0_3, .string a0_4, .int .i64 a0_5, .slice A0_6 l0_6.length c0_6]] w fun e w' => ∃ v3_ v6_ : Value, e = .returned (.agg #[.int .i64 r1, .int .i64 r2, .string r3, v3_, .string r5, .int .i64 r6, v6_]) ∧ Kd.R k56 56 w' w.heap.size (fun _ => True) v3_ r4 ∧ Kd.R (Kd.int .i64) 3 w' w.heap.size (fun _ => True) v6_ r7 ∧ Below w.heap.size w w' := by
 have hu53 := Tryz.underlying53
 have HR0_3 := am hr0_3
 have HC0_3 := am hc0_3
 clear hr0_3 hc0_3
 have HR0_6 := am hr0_6
 have HC0_6 := am hc0_6
 clear hr0_6 hc0_6
 have HB := am (Below.refl w.heap.size w)
 have H : ((some (([] : List (S56)) : List (S56))).bind fun y282 => (if y282.length + l0_3.length < 4398046511104 then ((some (([] : List Int) : List Int)).bind fun y288 => (if y288.length + l0_6.length < 17592186044416 then (some (a0_0, a0_1, a0_2, (y282 ++ l0_3), a0_4, a0_5, (y288 ++ l0_6))) else (none))) else (none))) = some (r1, r2, r3, r4, r5, r6, r7) := h
 clear h
 obtain ⟨y282, hy282⟩ : ∃ y_ : List (S56), y_ = (([] : List (S56))) := ⟨_, rfl⟩
 replace H : (if y282.length + l0_3.length < 4398046511104 then ((some (([] : List Int) : List Int)).bind fun y288 => (if y288.length + l0_6.length < 17592186044416 then (some (a0_0, a0_1, a0_2, (y282 ++ l0_3), a0_4, a0_5, (y288 ++ l0_6))) else (none))) else (none)) = some (r1, r2, r3, r4, r5, r6, r7) := by first | (rw [hy282]; with_reducible exact H) | (have H2_ := (Option.bind_some _ _).symm.trans H; rw [hy282]; with_reducible exact H2_) | (have H2_ := (Option.bind_some _ _).symm.trans H; with_reducible exact H2_) | with_reducible exact H | (rw [hy282]; exact H) | exact H
 have Ny282 := am hy282
 clear hy282
 by_cases c2 : y282.length + l0_3.length < 4398046511104
 case neg => rw [if_neg c2] at H; exact absurd H (by simp)
 rw [if_pos c2] at H
 have LMc2 := am c2
 clear c2
 obtain ⟨y285, hy285⟩ : ∃ y_ : List (S56), y_ = (y282 ++ l0_3) := ⟨_, rfl⟩
 replace H : ((some (([] : List Int) : List Int)).bind fun y288 => (if y288.length + l0_6.length < 17592186044416 then (some (a0_0, a0_1, a0_2, y285, a0_4, a0_5, (y288 ++ l0_6))) else (none))) = some (r1, r2, r3, r4, r5, r6, r7) := by first | (rw [hy285]; with_reducible exact H) | (have H2_ := (Option.bind_some _ _).symm.trans H; rw [hy285]; with_reducible exact H2_) | (have H2_ := (Option.bind_some _ _).symm.trans H; with_reducible exact H2_) | with_reducible exact H | (rw [hy285]; exact H) | exact H
 have Ny285 := am hy285
 clear hy285
 obtain ⟨y288, hy288⟩ : ∃ y_ : List Int, y_ = (([] : List Int)) := ⟨_, rfl⟩
 replace H : (if y288.length + l0_6.length < 17592186044416 then (some (a0_0, a0_1, a0_2, y285, a0_4, a0_5, (y288 ++ l0_6))) else (none)) = some (r1, r2, r3, r4, r5, r6, r7) := by first | (rw [hy288]; with_reducible exact H) | (have H2_ := (Option.bind_some _ _).symm.trans H; rw [hy288]; with_reducible exact H2_) | (have H2_ := (Option.bind_some _ _).symm.trans H; with_reducible exact H2_) | with_reducible exact H | (rw [hy288]; exact H) | exact H
 have Ny288 := am hy288
 clear hy288
 by_cases c3 : y288.length + l0_6.length < 17592186044416
 case neg => rw [if_neg c3] at H; exact absurd H (by simp)
 rw [if_pos c3] at H
 have LMc3 := am c3
 clear c3
 obtain ⟨y291, hy291⟩ : ∃ y_ : List Int, y_ = (y288 ++ l0_6) := ⟨_, rfl⟩
 replace H : (some (a0_0, a0_1, a0_2, y285, a0_4, a0_5, y291)) = some (r1, r2, r3, r4, r5, r6, r7) := by first | (rw [hy291]; with_reducible exact H) | (have H2_ := (Option.bind_some _ _).symm.trans H; rw [hy291]; with_reducible exact H2_) | (have H2_ := (Option.bind_some _ _).symm.trans H; with_reducible exact H2_) | with_reducible exact H | (rw [hy291]; exact H) | exact H
 have Ny291 := am hy291
 clear hy291
 simp only [Option.some.injEq, Prod.mk.injEq] at H
 obtain ⟨rfl, rfl, rfl, rfl, rfl, rfl, rfl⟩ := H
 go_enter Tryz.func82, Tryz.ntmps82
 go_wp2_with (first | ((with_reducible refine gd_ 1 ?_); refine bx_ 1 (cs := #[.int .i64 a0_0, .int .i64 a0_1, .string a0_2, .slice A0_3 l0_3.length c0_3, .string a0_4, .int .i64 a0_5, .slice A0_6 l0_6.length c0_6]) 53 ?_; intro gb280 hg w4 hbox hb; have BK280 := am hbox; have GW280 := ge_ (w := w) hg; have GE280 := ge_ (w := w) hg; replace HB := am (below_step ab1 hb); clear hb hbox hg) | ((with_reducible refine gd_ 2 ?_); refine bx_ 2 (cs := #[.int .i64 0, .int .i64 0, .string (⟨#[]⟩ : ByteArray), .slice none 0 0, .string (⟨#[]⟩ : ByteArray), .int .i64 0, .slice none 0 0]) 53 ?_; intro gb281 hg w5 hbox hb; have BK281 := am hbox; have GW281 := gE_ (w := w) GE280 hg; have GE281 := gE_ (w := w) GE280 hg; replace HB := am (below_step (ab2 GE280) hb); have NB280_281 := nl_ BK280 hg; have NB281_280 := ng_ BK280 hg; replace BK280 := bl_ BK280 hb; clear hb hbox hg) | ((with_reducible refine gate_dst (N := 3) rfl ?_); refine Kd.R_lit k56 _ 56 ?hg (N := 3) ?hd (xs := ([] : List (S56))) (inner := []) (ok := fun _ => True) (okp := fun _ => True) ?hr ?hp (fun _ hk => hk) trivial (Below.refl _ _) (Nat.le_refl _) (by simp) ?_; (case hd => rfl); (case hg => rfl); (case hr => first | (go_simp; done) | (go_simp; rfl)); (case hp => exact (Reps.none _ _)); intro v283 w6 ho7 hb hg_ hnew_; clear hg_ hnew_; (first | rw [← Ny282.out] at ho7 | (simp only [Int.reduceToNat] at ho7; rw [← Ny282.out] at ho7)); have HO284 := am (Kd.R_lower ho7 (below_size ba_)); replace BK280 := bl_ BK280 hb; replace BK281 := bl_ BK281 hb; replace HB := am (below_step ba_ hb); clear hb ho7; have hnb8 := NB280_281.out; have hnc8 := NB281_280.out; obtain ⟨⟨_, _, _, _, _, _, _⟩, _, _, _, _, _, _, _⟩ := Op.cells7 BK280.out) | ((with_reducible refine gate_builtin (b := .append) (xs := #[.tmp 3, .tmp 5]) rfl ?_); at_builtin; refine Kd.R_append_rows k56 (w0 := w) w.heap.size rfl (.tmp 3) (.tmp 5) 34 56 (.agg #[(.string ⟨#[]⟩), (.string ⟨#[]⟩)]) 32 rfl Tryz.underlying34 info56 rfl (by decide) (by omega) v283 y282 l0_3 _ _ _ (fun _ => True) (fun _ => False) rfl rfl ?aO ?aR (fun _ _ h => h) (fun _ h => h.elim) ?aF ?aB ?aS ?aL ?_; (case aR => repeat (first | exact (Kd.C_below HR0_3.out HB.out) | (with_reducible refine Kd.C_alloc ?_ _) | (with_reducible refine Kd.C_drewN ?_ _) | (with_reducible refine Kd.C_drew ?_))); (case aB => exact ba_); (case aF => exact (fun _ _ => trivial)); (case aO => exact (ab8 HO284)); (case aS => exact (below_size ba_)); (case aL => have := LMc2.out; omega); intro v286 w10 ho hb hg hat; rw [← Ny285.out] at ho; replace BK280 := bg_ BK280 hg (Kd.R_ne HO284.out BK280.out (by decide)); replace BK281 := bg_ BK281 hg (Kd.R_ne HO284.out BK281.out (by decide)); replace HB := am hb; have HO287 := am ho; clear HO284; clear ho hb hg hat; obtain ⟨Ao11, co11, eo11⟩ := Kd.R_slice HO287.out; subst eo11; obtain ⟨⟨_, _, _, _, _, _, _⟩, _, _, _, _, _, _, _⟩ := Op.cells7 BK280.out) | ((with_reducible refine gate_dst (N := 8) rfl ?_); refine Kd.R_lit (Kd.int .i64) _ 3 ?hg (N := 8) ?hd (xs := ([] : List Int)) (inner := []) (ok := fun _ => True) (okp := fun _ => True) ?hr ?hp (fun _ hk => hk) trivial (Below.refl _ _) (Nat.le_refl _) (by simp) ?_; (case hd => rfl); (case hg => rfl); (case hr => first | (go_simp; done) | (go_simp; rfl)); (case hp => exact (Reps.none _ _)); intro v289 w13 ho14 hb hg_ hnew_; clear hg_ hnew_; (first | rw [← Ny288.out] at ho14 | (simp only [Int.reduceToNat] at ho14; rw [← Ny288.out] at ho14)); replace HO287 := am (Kd.R_below (by (with_reducible repeat (first | apply Kd.R_alloc | apply Kd.R_drewN | apply Kd.R_drew)); exact (Kd.R_mono (Kd.R_far (p := ⟨gb280, 3, none⟩) (Kd.R_types HO287.out BK280.out (by decide)) (fun _ hk => hk.2) (.slice Ao11 y285.length co11)) (fun _ h_ => h_.1))) hb); have HO290 := am (Kd.R_lower ho14 (below_size ba_)); replace BK280 := bp_ BK280 hb; replace BK281 := bp_ BK281 hb; replace HB := am (below_step ba_ hb); clear hb ho14; obtain ⟨⟨_, _, _, _, _, _, _⟩, _, _, _, _, _, _, _⟩ := Op.cells7 BK280.out) | ((with_reducible refine gate_builtin (b := .append) (xs := #[.tmp 8, .tmp 10]) rfl ?_); at_builtin; refine Kd.R_append_rows (Kd.int .i64) (w0 := w) w.heap.size rfl (.tmp 8) (.tmp 10) 23 3 (.int .i64 0) 8 rfl Tryz.underlying23 info3 rfl (by decide) (by omega) v289 y288 l0_6 _ _ _ (fun _ => True) (fun _ => False) rfl rfl ?aO ?aR (fun _ _ h => h) (fun _ h => h.elim) ?aF ?aB ?aS ?aL ?_; (case aR => repeat (first | exact (Kd.C_below HR0_6.out HB.out) | (with_reducible refine Kd.C_alloc ?_ _) | (with_reducible refine Kd.C_drewN ?_ _) | (with_reducible refine Kd.C_drew ?_))); (case aB => exact ba_); (case aF => exact (fun _ _ => trivial)); (case aO => exact (ab8 HO290)); (case aS => exact (below_size ba_)); (case aL => have := LMc3.out; omega); intro v292 w16 ho hb hg hat; rw [← Ny291.out] at ho; replace BK280 := bg_ BK280 hg (Kd.R_ne HO290.out BK280.out (by decide)); replace BK281 := bg_ BK281 hg (Kd.R_ne HO290.out BK281.out (by decide)); replace HO287 := am (Kd.R_over' (ab8 HO287) (Kd.R_typed (ab8 HO290)) (by decide) hg); replace HB := am hb; have HO293 := am ho; clear HO290; clear ho hb hg hat; obtain ⟨Ao17, co17, eo17⟩ := Kd.R_slice HO293.out; subst eo17; obtain ⟨⟨_, _, _, _, _, _, _⟩, _, _, _, _, _, _, _⟩ := Op.cells7 BK280.out; obtain ⟨⟨_, _, _, _, _, _, _⟩, _, _, _, _, _, _, _⟩ := Op.cells7 BK281.out))
 refine bodyPost_ret (results_cell_row rfl _ _ gb281 53 #[.int .i64 a0_0, .int .i64 a0_1, .string a0_2, .slice Ao11 y285.length co11, .string a0_4, .int .i64 a0_5, .slice Ao17 y291.length co17] (0, 0) _ rfl (bq_ BK281) Tryz.underlying53 rfl (by kernel_rfl)) rfl ?_
 exact ⟨_, _, ab7, by (with_reducible repeat (first | apply Kd.R_alloc | apply Kd.R_drewN | apply Kd.R_drew)); exact Kd.R_mono (Kd.R_far (p := ⟨gb281, 6, none⟩) (Kd.R_far (p := ⟨gb281, 5, none⟩) (Kd.R_far (p := ⟨gb281, 4, none⟩) (Kd.R_far (p := ⟨gb281, 3, none⟩) (Kd.R_far (p := ⟨gb281, 2, none⟩) (Kd.R_far (p := ⟨gb281, 1, none⟩) (Kd.R_far (p := ⟨gb281, 0, none⟩) (Kd.R_far (p := ⟨gb280, 6, none⟩) (Kd.R_types (Kd.R_types HO287.out BK280.out (by decide)) BK281.out (by decide)) (fun _ hk => hk.1.2) (.slice Ao17 y291.length co17)) (fun _ hk => hk.2) (.int .i64 a0_0)) (fun _ hk => hk.2) (.int .i64 a0_1)) (fun _ hk => hk.2) (.string a0_2)) (fun _ hk => hk.2) (.slice Ao11 y285.length co11)) (fun _ hk => hk.2) (.string a0_4)) (fun _ hk => hk.2) (.int .i64 a0_5)) (fun _ hk => hk.2) (.slice Ao17 y291.length co17)) (fun _ hk => trivial), by (with_reducible repeat (first | apply Kd.R_alloc | apply Kd.R_drewN | apply Kd.R_drew)); exact Kd.R_mono (Kd.R_far (p := ⟨gb281, 6, none⟩) (Kd.R_far (p := ⟨gb281, 5, none⟩) (Kd.R_far (p := ⟨gb281, 4, none⟩) (Kd.R_far (p := ⟨gb281, 3, none⟩) (Kd.R_far (p := ⟨gb281, 2, none⟩) (Kd.R_far (p := ⟨gb281, 1, none⟩) (Kd.R_far (p := ⟨gb281, 0, none⟩) (Kd.R_far (p := ⟨gb280, 6, none⟩) (Kd.R_types (Kd.R_types HO293.out BK280.out (by decide)) BK281.out (by decide)) (fun _ hk => hk.1.2) (.slice Ao17 y291.length co17)) (fun _ hk => hk.2) (.int .i64 a0_0)) (fun _ hk => hk.2) (.int .i64 a0_1)) (fun _ hk => hk.2) (.string a0_2)) (fun _ hk => hk.2) (.slice Ao11 y285.length co11)) (fun _ hk => hk.2) (.string a0_4)) (fun _ hk => hk.2) (.int .i64 a0_5)) (fun _ hk => hk.2) (.slice Ao17 y291.length co17)) (fun _ hk => trivial), ba_⟩
def spec_l6Copy.l0 : Nat → List (S53) → List (S53) → Int → Option ((List (S53)))
 | 0, _, _, _ => none
 | k + 1, x0, x3, x4 => if x4 < (x0.length : Int) then (if 0 ≤ x4 then ((spec_l6Item.f ((rd_T53 x0 x4).f0) ((rd_T53 x0 x4).f1) ((rd_T53 x0 x4).f2) ((rd_T53 x0 x4).f3) ((rd_T53 x0 x4).f4) ((rd_T53 x0 x4).f5) ((rd_T53 x0 x4).f6)).bind fun bt298 => (if x3.length < 1353245080339 then (spec_l6Copy.l0 k x0 (x3 ++ [(⟨bt298.1, bt298.2.1, bt298.2.2.1, bt298.2.2.2.1, bt298.2.2.2.2.1, bt298.2.2.2.2.2.1, bt298.2.2.2.2.2.2⟩ : S53)]) (wrap64 (x4 + 1))) else (none))) else (none)) else (some x3)
def spec_l6Copy.f (k : Nat) (l0 : List (S53)) : Option ((List (S53))) := spec_l6Copy.l0 k l0 (([] : List (S53))) 0
theorem spec_l6Copy.calls (k : Nat) (A0 : Option Addr) (c0 : Nat) (l0 : List (S53)) (r : List (S53)) (w : World) (hr0 : Kd.C k53 w A0 l0.length l0) (hc0 : l0.length ≤ c0) (h : spec_l6Copy.f k l0 = some r) :
  Calls Tryz.prog 53 #[.slice A0 l0.length c0] w fun e w' => ∃ v0_ : Value, e = .returned (v0_) ∧ Kd.S k53 53 w' w.heap.size (fun _ => True) v0_ r ∧ Below w.heap.size w w' := by
 have hu53 := Tryz.underlying53
 have HR0 := am hr0
 have HC0 := am hc0
 clear hr0 hc0
 have HB := am (Below.refl w.heap.size w)
 have H : (spec_l6Copy.l0 k l0 (([] : List (S53))) 0) = some r := h
 clear h
 obtain ⟨y294, hy294⟩ : ∃ y_ : List (S53), y_ = (([] : List (S53))) := ⟨_, rfl⟩
 replace H : (spec_l6Copy.l0 k l0 y294 0) = some r := by first | (rw [hy294]; with_reducible exact H) | (have H2_ := (Option.bind_some _ _).symm.trans H; rw [hy294]; with_reducible exact H2_) | (have H2_ := (Option.bind_some _ _).symm.trans H; with_reducible exact H2_) | with_reducible exact H | (rw [hy294]; exact H) | exact H
 have Ny294 := am hy294
 clear hy294
 have H' := am H
 clear H
 go_enter Tryz.func53, Tryz.ntmps53
 go_wp2_with (first | ((with_reducible refine gate_dst (N := 5) rfl ?_); refine Kd.S_lit k53 _ 53 ?hg (N := 5) ?hd (xs := ([] : List (S53))) (inner := []) (ok := fun _ => True) (okp := fun _ => True) ?hr ?hp (fun _ hk => hk) trivial (Below.refl _ _) (Nat.le_refl _) (by simp) ?_; (case hd => rfl); (case hg => rfl); (case hr => first | (go_simp; done) | (go_simp; rfl)); (case hp => exact (Reps.none _ _)); intro v295 w2 ho3 hb hg_ hnew_; clear hg_ hnew_; (first | rw [← Ny294.out] at ho3 | (simp only [Int.reduceToNat] at ho3; rw [← Ny294.out] at ho3)); have HO296 := am (Kd.S_lower ho3 (below_size ab1)); replace HB := am (below_step ab1 hb); clear hb ho3))
 go_loopg [3, 4] k (fun kq v3 v4 w' => ∃ (x3_1 : List (S53)) (x4_1 : Int), v4 = .int .i64 x4_1 ∧ Aside0 (spec_l6Copy.l0 kq l0 x3_1 x4_1 = some r) ∧ Aside0 (kq ≤ k) ∧ Aside0 (Kd.S k53 53 w' w.heap.size (fun _ => True) v3 x3_1) ∧ Aside0 (Below w.heap.size w w'))
 case atStart => exact ⟨(y294), (0), ab6, H', ⟨Nat.le_refl _⟩, ⟨by (with_reducible repeat (first | apply Kd.S_alloc | apply Kd.S_drewN | apply Kd.S_drew)); exact HO296.out⟩, ⟨ab1⟩⟩
 case round =>
  clear H'
  try clear p2
  obtain ⟨x3_1, x4_1, rfl, HA, HK1, HO_3, HB⟩ := hrel
  cases gk with
  | zero => exact absurd HA.out (by simp [spec_l6Copy.l0])
  | succ k1 =>
   have H := HA.out
   clear HA
   simp only [spec_l6Copy.l0] at H
   replace H := ir_ H; rcases H with ⟨c4b0, H⟩ | ⟨c4b0, H⟩
   ·replace H := iq_ H; obtain ⟨c5b0, H⟩ := H
    replace H := Option.bind_eq_some_iff.mp H
    obtain ⟨⟨t298, t299, t300, t301, t304, t305, t306⟩, A60, H⟩ := H
    try dsimp only at H
    have A6 := am A60
    clear A60
    by_cases c7 : x3_1.length < 1353245080339
    case neg => rw [if_neg c7] at H; exact absurd H (by simp)
    rw [if_pos c7] at H
    have LMc7 := am c7
    clear c7
    obtain ⟨y309, hy309⟩ : ∃ y_ : List (S53), y_ = (x3_1 ++ [(⟨t298, t299, t300, t301, t304, t305, t306⟩ : S53)]) := ⟨_, rfl⟩
    replace H : (spec_l6Copy.l0 k1 l0 y309 (wrap64 (x4_1 + 1))) = some r := by first | (rw [hy309]; with_reducible exact H) | (have H2_ := (Option.bind_some _ _).symm.trans H; rw [hy309]; with_reducible exact H2_) | (have H2_ := (Option.bind_some _ _).symm.trans H; with_reducible exact H2_) | with_reducible exact H | (rw [hy309]; exact H) | exact H
    have Ny309 := am hy309
    clear hy309
    have H' := am H
    clear H
    obtain ⟨p297, q297, ad297, A297_3, c297_3, A297_6, c297_6, rfl, hx297_0, hx297_1, hx297_2, hx297_3, hx297_4, hx297_5, hx297_6, HC297_3, HR297_3, HC297_6, HR297_6⟩ := otT53 HB HR0.out x4_1 (of_decide_eq_true ab4) (of_decide_eq_true ab4)
    go_wp2_with (first | ((with_reducible refine gate_callee (f := 82) rfl ?_); refine goesL_ (some 17) rfl rfl Tryz.func82 (by kernel_rfl) rfl #[.agg #[.int .i64 ((rd_T53 l0 x4_1).f0), .int .i64 ((rd_T53 l0 x4_1).f1), .string ((rd_T53 l0 x4_1).f2), .slice A297_3 ((rd_T53 l0 x4_1).f3).length c297_3, .string ((rd_T53 l0 x4_1).f4), .int .i64 ((rd_T53 l0 x4_1).f5), .slice A297_6 ((rd_T53 l0 x4_1).f6).length c297_6]] rfl ab5 ?_; (with_reducible refine (spec_l6Item.calls ((rd_T53 l0 x4_1).f0) ((rd_T53 l0 x4_1).f1) ((rd_T53 l0 x4_1).f2) _ _ ((rd_T53 l0 x4_1).f3) ((rd_T53 l0 x4_1).f4) ((rd_T53 l0 x4_1).f5) _ _ ((rd_T53 l0 x4_1).f6) t298 t299 t300 t301 t304 t305 t306 _ (sc_ HR297_3) HC297_3.out (sc_ HR297_6) HC297_6.out A6.out).mono ?_); rintro e w8 ⟨v302, v307, rfl, ho0, ho1, hb⟩; refine ⟨_, rfl, ?_⟩; replace HO_3 := am (Kd.S_mono (Kd.S_told (Kd.S_told (Kd.S_old (by (with_reducible repeat (first | apply Kd.S_alloc | apply Kd.S_drewN | apply Kd.S_drew)); exact HO_3.out) hb) (Kd.R_base ho0)) (Kd.R_base ho1)) (fun _ h_ => h_.1)); have HO303 := am (Kd.R_lower ho0 (below_size ab1)); have HO308 := am (Kd.R_lower ho1 (below_size ab1)); replace HB := am (below_step ab1 hb); (try clear hb); (try clear ho0); (try clear ho1); obtain ⟨Ao10, co10, eo10⟩ := Kd.R_slice HO303.out; subst eo10; obtain ⟨Ao11, co11, eo11⟩ := Kd.R_slice HO308.out; subst eo11) | ((with_reducible refine gate_builtin (b := .append) (xs := #[.tmp 12, .tmp 18]) rfl ?_); at_builtin; refine Kd.S_append k53 (w0 := w) w.heap.size rfl (.tmp 12) (.tmp 18) 29 53 (.agg #[(.int .i64 0), (.int .i64 0), (.string ⟨#[]⟩), (.slice none 0 0), (.string ⟨#[]⟩), (.int .i64 0), (.slice none 0 0)]) 104 rfl Tryz.underlying29 info53 rfl (by decide) (by omega) u3 x3_1 (⟨t298, t299, t300, t301, t304, t305, t306⟩ : S53) [.int .i64 t298, .int .i64 t299, .string t300, .slice Ao10 t301.length co10, .string t304, .int .i64 t305, .slice Ao11 t306.length co11] (fun _ => True) (fun k_ => some k_ = (.slice Ao10 t301.length co10 : Value).ownBlock ∨ some k_ = (.slice Ao11 t306.length co11 : Value).ownBlock) rfl rfl ?aP (fun k_ hk_ => hk_.elim (fun h_ => ((Kd.R_mono (ok' := fun k_ => ((fun _ => True)) k_ ∧ some k_ ≠ (u3 : Value).ownBlock) (Kd.R_apart' (HO303.out) (Kd.S_typed HO_3.out) (by decide)) (fun k_ hk => ⟨trivial, hk.2⟩))).1 k_ h_.symm) (fun h_ => ((Kd.R_mono (ok' := fun k_ => ((fun _ => True)) k_ ∧ some k_ ≠ (u3 : Value).ownBlock) (Kd.R_apart' (HO308.out) (Kd.S_typed HO_3.out) (by decide)) (fun k_ hk => ⟨trivial, hk.2⟩))).1 k_ h_.symm)) ?aF ?aO ?aB ?aS ?aL ?_; (case aP => exact k53_mkM _ _ _ (⟨t298, t299, t300, t301, t304, t305, t306⟩ : S53) (Kd.R_mono (Kd.R_tight rfl (Kd.R_mono (ok' := fun k_ => ((fun _ => True)) k_ ∧ some k_ ≠ (u3 : Value).ownBlock) (Kd.R_apart' (HO303.out) (Kd.S_typed HO_3.out) (by decide)) (fun k_ hk => ⟨trivial, hk.2⟩))) (fun _ h_ => Or.inl h_)) (Kd.R_mono (Kd.R_tight rfl (Kd.R_mono (ok' := fun k_ => ((fun _ => True)) k_ ∧ some k_ ≠ (u3 : Value).ownBlock) (Kd.R_apart' (HO308.out) (Kd.S_typed HO_3.out) (by decide)) (fun k_ hk => ⟨trivial, hk.2⟩))) (fun _ h_ => Or.inr (h_)))); (case aB => exact ab1); (case aF => exact (fun _ _ => trivial)); (case aO => exact (by (with_reducible repeat (first | apply Kd.S_alloc | apply Kd.S_drewN | apply Kd.S_drew)); exact Kd.S_mono HO_3.out (fun k_ hk => ⟨trivial, fun e_ => e_.elim (fun h_ => hk.1.2 h_) (fun h_ => hk.2 h_)⟩))); (case aS => exact (below_size ab1)); (case aL => have := LMc7.out; omega); intro v310 w9 ho hb hg hat; rw [← Ny309.out] at ho; replace HB := am hb; have HO311 := am ho; clear HO_3 HO303 HO308; clear ho hb hg hat))
    go_roundg k1
    case measure => have := HK1.out; omega
    case rel => exact ⟨(y309), (wrap64 (x4_1 + 1)), ab6, H', ⟨by have := HK1.out; omega⟩, ⟨by (with_reducible repeat (first | apply Kd.S_alloc | apply Kd.S_drewN | apply Kd.S_drew)); exact HO311.out⟩, ⟨ab1⟩⟩
   ·obtain rfl := Option.some.inj H
    go_wp2
    go_ret
    exact ⟨_, ab7, by (with_reducible repeat (first | apply Kd.S_alloc | apply Kd.S_drewN | apply Kd.S_drew)); exact HO_3.out, ab1⟩
end Go.Proofs.YtekkalnafngfeaaGreat.P
