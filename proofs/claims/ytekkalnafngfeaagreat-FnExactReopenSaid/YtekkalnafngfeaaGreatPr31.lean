-- WRITTEN BY this session's own programs
import Derived.Test.YtekkalnafngfeaaGreatPr2
import Derived.Test.YtekkalnafngfeaaGreatPr26
namespace Go.Proofs.YtekkalnafngfeaaGreat.P
open Go.RowKit Go.Proofs.YtekkalnafngfeaaGreatW.PrintWords Go.Proofs.YtekkalnafngfeaaGreatW.PrintLast Go.Proofs.YtekkalnafngfeaaGreatW.PrintMore
set_option linter.unusedVariables false
set_option linter.unusedSimpArgs false
set_option maxHeartbeats 8000000
set_option maxRecDepth 100000
attribute [local go_sem] max2_int min2_int max_two min_two max_three min_three max_four min_four
mutual
def impl_kidsOk.l0 : Nat → List (S53) → List Int → List (S53) → Int → Int → Option (Bool)
 | 0, _, _, _, _, _ => none
 | k + 1, x0, x3, x12, x13, x14 => if x14 < x13 then (if 0 ≤ x14 then (if x14 < (x12.length : Int) then (impl_kidsOk.l1 k x0 x3 x14 x12 x13 x14 ((rd_T53 x12 x14).f6) (((rd_T53 x12 x14).f6).length : Int) 0) else (none)) else (none)) else (impl_kidsOk.l2 k x0 x3 1)
def impl_kidsOk.l1 : Nat → List (S53) → List Int → Int → List (S53) → Int → Int → List Int → Int → Int → Option (Bool)
 | 0, _, _, _, _, _, _, _, _, _ => none
 | k + 1, x0, x3, x4, x12, x13, x14, x20, x21, x22 => if x22 < x21 then (if 0 ≤ x22 then (if x22 < (x20.length : Int) then ((impl_inRange.f (rd x20 x22) 1 (wrap64 ((x0.length : Int) - 1))).bind fun t444 => (if t444 = true then (if 0 ≤ (rd x20 x22) then (if (rd x20 x22) < (x0.length : Int) then (if ((rd_T53 x0 (rd x20 x22)).f5) = x4 then (if (rd x20 x22) < (x3.length : Int) then (impl_kidsOk.l1 k x0 (x3.set ((rd x20 x22) : Int).toNat (wrap64 ((rd x3 (rd x20 x22)) + 1))) x4 x12 x13 x14 x20 x21 (wrap64 (x22 + 1))) else (none)) else (some false)) else (none)) else (none)) else (some false))) else (none)) else (none)) else (impl_kidsOk.l0 k x0 x3 x12 x13 (wrap64 (x14 + 1)))
def impl_kidsOk.l2 : Nat → List (S53) → List Int → Int → Option (Bool)
 | 0, _, _, _ => none
 | k + 1, x0, x3, x8 => if x8 < (x0.length : Int) then (if 0 ≤ x8 then (if x8 < (x3.length : Int) then (if (rd x3 x8) = 1 then (impl_kidsOk.l2 k x0 x3 (wrap64 (x8 + 1))) else (some false)) else (none)) else (none)) else (some true)
end
def impl_kidsOk.f (k : Nat) (l0 : List (S53)) : Option (Bool) := if 0 ≤ (l0.length : Int) then (if ((l0.length : Int) : Int).toNat ≤ 35184372088832 then (impl_kidsOk.l0 k l0 (List.replicate ((l0.length : Int) : Int).toNat 0) l0 (l0.length : Int) 0) else (none)) else (none)
theorem impl_kidsOk.calls (k : Nat) (A0 : Option Addr) (c0 : Nat) (l0 : List (S53)) (r : Bool) (w : World) (hr0 : Kd.C k53 w A0 l0.length l0) (hc0 : l0.length ≤ c0) (h : impl_kidsOk.f k l0 = some r) :
  Calls Tryz.prog 92 #[.slice A0 l0.length c0] w fun e w' => e = .returned (.bool r) ∧ Below w.heap.size w w' := by
 have hu53 := Tryz.underlying53
 have HR0 := am hr0
 have HC0 := am hc0
 clear hr0 hc0
 have HB := am (Below.refl w.heap.size w)
 have H : (if 0 ≤ (l0.length : Int) then (if ((l0.length : Int) : Int).toNat ≤ 35184372088832 then (impl_kidsOk.l0 k l0 (List.replicate ((l0.length : Int) : Int).toNat 0) l0 (l0.length : Int) 0) else (none)) else (none)) = some r := h
 clear h
 by_cases c2 : 0 ≤ (l0.length : Int)
 case neg => rw [if_neg c2] at H; exact absurd H (by simp)
 rw [if_pos c2] at H
 have c2b0 := eq_true c2
 have c2b1 := decide_eq_true c2
 clear c2
 by_cases c3 : ((l0.length : Int) : Int).toNat ≤ 35184372088832
 case neg => rw [if_neg c3] at H; exact absurd H (by simp)
 rw [if_pos c3] at H
 have c3b0 := eq_true c3
 have c3b1 := decide_eq_true c3
 clear c3
 obtain ⟨y438, hy438⟩ : ∃ y_ : List Int, y_ = (List.replicate ((l0.length : Int) : Int).toNat 0) := ⟨_, rfl⟩
 replace H : (impl_kidsOk.l0 k l0 y438 l0 (l0.length : Int) 0) = some r := by first | (rw [hy438]; with_reducible exact H) | (have H2_ := (Option.bind_some _ _).symm.trans H; rw [hy438]; with_reducible exact H2_) | (have H2_ := (Option.bind_some _ _).symm.trans H; with_reducible exact H2_) | with_reducible exact H | (rw [hy438]; exact H) | exact H
 have Ny438 := am hy438
 clear hy438
 have H' := am H
 clear H
 go_enter Tryz.func92, Tryz.ntmps92
 go_wp2_with (first | ((with_reducible refine gate_dst (N := 11) rfl ?_); refine Kd.R_make (Kd.int .i64) _ 3 rfl (N := 11) rfl 23 _ _ rfl (l0.length : Int) rfl rfl Tryz.underlying23 (.int .i64 0) 8 info3 rfl (by decide) (by omega) 0 (ok := fun _ => True) (okp := fun _ => True) rfl (fun _ hk => hk) trivial (of_decide_eq_true ab4) (Nat.le_trans (Nat.mul_le_mul_right _ (of_decide_eq_true ab4 : (l0.length : Int).toNat ≤ 35184372088832)) (by omega)) (Below.refl _ _) (Nat.le_refl _) ?_; intro v439 w4 ho5 hb hg_ hnew_; clear hg_ hnew_; (first | rw [← Ny438.out] at ho5 | (simp only [Int.reduceToNat] at ho5; rw [← Ny438.out] at ho5)); have HO440 := am (Kd.R_lower ho5 (below_size ab1)); replace HB := am (below_step ab1 hb); clear hb ho5))
 go_loopg [14] k (fun kq v14 w' => ∃ (x3_1 : List Int) (x14_1 : Int), v14 = .int .i64 x14_1 ∧ Aside0 (impl_kidsOk.l0 kq l0 x3_1 l0 (l0.length : Int) x14_1 = some r) ∧ Aside0 (kq ≤ k) ∧ Aside0 (Kd.R (Kd.int .i64) 3 w' w.heap.size (fun _ => True) v439 x3_1) ∧ Aside0 (Below w.heap.size w w'))
 case atStart => exact ⟨(y438), (0), ab6, H', ⟨Nat.le_refl _⟩, ⟨ab8 HO440⟩, ⟨ab1⟩⟩
 case round =>
  clear H'
  (try clear c2); (try clear c2b0); (try clear c2b1); (try clear p2); (try clear c3); (try clear c3b0); (try clear c3b1)
  obtain ⟨x3_1, x14_1, rfl, HA, HK1, HO_3, HB⟩ := hrel
  cases gk with
  | zero => exact absurd HA.out (by simp [impl_kidsOk.l0])
  | succ k1 =>
   have H := HA.out
   clear HA
   simp only [impl_kidsOk.l0] at H
   replace H := ir_ H; rcases H with ⟨c6b0, H⟩ | ⟨c6b0, H⟩
   ·replace H := iq_ H; obtain ⟨c7b0, H⟩ := H
    replace H := iq_ H; obtain ⟨c8b0, H⟩ := H
    have H' := am H
    clear H
    obtain ⟨p441, q441, ad441, A441_3, c441_3, A441_6, c441_6, rfl, hx441_0, hx441_1, hx441_2, hx441_3, hx441_4, hx441_5, hx441_6, HC441_3, HR441_3, HC441_6, HR441_6⟩ := otT53 HB HR0.out x14_1 (of_decide_eq_true ab4) (of_decide_eq_true ab4)
    go_wp2_with (first | ((with_reducible refine gd_ 5 ?_); refine bx_ 5 (cs := #[.int .i64 0, .int .i64 0, .string (⟨#[]⟩ : ByteArray), .slice none 0 0, .string (⟨#[]⟩ : ByteArray), .int .i64 0, .slice none 0 0]) 53 ?_; intro gb442 hg w9 hbox hb; replace HO_3 := am (Kd.R_below (ab8 HO_3) hb); have BK442 := am hbox; have GW442 := ge_ (w := w) hg; have GE442 := ge_ (w := w) hg; replace HB := am (below_step ab1 hb); clear hb hbox hg; obtain ⟨⟨_, _, _, _, _, _, _⟩, _, _, _, _, _, _, _⟩ := Op.cells7 BK442.out))
    go_loopg [22] k1 (fun kq v22 w' => ∃ (x3_2 : List Int) (x22_2 : Int), v22 = .int .i64 x22_2 ∧ Aside0 (impl_kidsOk.l1 kq l0 x3_2 x14_1 l0 (l0.length : Int) x14_1 ((rd_T53 l0 x14_1).f6) (((rd_T53 l0 x14_1).f6).length : Int) x22_2 = some r) ∧ Aside0 (kq ≤ k1) ∧ Aside0 (Kd.R (Kd.int .i64) 3 w' w.heap.size (fun _ => True) v439 x3_2) ∧ Aside0 (w'.heap[gb442]? = some (.cells #[.int .i64 ((rd_T53 l0 x14_1).f0), .int .i64 ((rd_T53 l0 x14_1).f1), .string ((rd_T53 l0 x14_1).f2), (.slice A441_3 ((rd_T53 l0 x14_1).f3).length c441_3), .string ((rd_T53 l0 x14_1).f4), .int .i64 ((rd_T53 l0 x14_1).f5), (.slice A441_6 ((rd_T53 l0 x14_1).f6).length c441_6)] 53 (0, 0))) ∧ Aside0 (Below w.heap.size w w'))
    case atStart => exact ⟨(x3_1), (0), ab6, H', ⟨Nat.le_refl _⟩, ⟨by (with_reducible repeat (first | apply Kd.R_alloc | apply Kd.R_drewN | apply Kd.R_drew)); exact Kd.R_mono (Kd.R_far (p := ⟨gb442, 6, none⟩) (Kd.R_far (p := ⟨gb442, 5, none⟩) (Kd.R_far (p := ⟨gb442, 4, none⟩) (Kd.R_far (p := ⟨gb442, 3, none⟩) (Kd.R_far (p := ⟨gb442, 2, none⟩) (Kd.R_far (p := ⟨gb442, 1, none⟩) (Kd.R_far (p := ⟨gb442, 0, none⟩) (Kd.R_types HO_3.out BK442.out (by decide)) (fun _ hk => hk.2) (.int .i64 ((rd_T53 l0 x14_1).f0))) (fun _ hk => hk.2) (.int .i64 ((rd_T53 l0 x14_1).f1))) (fun _ hk => hk.2) (.string ((rd_T53 l0 x14_1).f2))) (fun _ hk => hk.2) (.slice A441_3 ((rd_T53 l0 x14_1).f3).length c441_3)) (fun _ hk => hk.2) (.string ((rd_T53 l0 x14_1).f4))) (fun _ hk => hk.2) (.int .i64 ((rd_T53 l0 x14_1).f5))) (fun _ hk => hk.2) (.slice A441_6 ((rd_T53 l0 x14_1).f6).length c441_6)) (fun _ hk => trivial)⟩, ⟨by (with_reducible repeat (first | refine blk_drewN ?_ _ | refine blk_drew ?_ | refine blk_alloc ?_ _)); refine blk_put (cs := #[.int .i64 ((rd_T53 l0 x14_1).f0), .int .i64 ((rd_T53 l0 x14_1).f1), .string ((rd_T53 l0 x14_1).f2), .slice A441_3 ((rd_T53 l0 x14_1).f3).length c441_3, .string ((rd_T53 l0 x14_1).f4), .int .i64 ((rd_T53 l0 x14_1).f5), .slice none 0 0]) ?_ 6 _ rfl; (with_reducible repeat (first | refine blk_drewN ?_ _ | refine blk_drew ?_ | refine blk_alloc ?_ _)); refine blk_put (cs := #[.int .i64 ((rd_T53 l0 x14_1).f0), .int .i64 ((rd_T53 l0 x14_1).f1), .string ((rd_T53 l0 x14_1).f2), .slice A441_3 ((rd_T53 l0 x14_1).f3).length c441_3, .string ((rd_T53 l0 x14_1).f4), .int .i64 0, .slice none 0 0]) ?_ 5 _ rfl; (with_reducible repeat (first | refine blk_drewN ?_ _ | refine blk_drew ?_ | refine blk_alloc ?_ _)); refine blk_put (cs := #[.int .i64 ((rd_T53 l0 x14_1).f0), .int .i64 ((rd_T53 l0 x14_1).f1), .string ((rd_T53 l0 x14_1).f2), .slice A441_3 ((rd_T53 l0 x14_1).f3).length c441_3, .string (⟨#[]⟩ : ByteArray), .int .i64 0, .slice none 0 0]) ?_ 4 _ rfl; (with_reducible repeat (first | refine blk_drewN ?_ _ | refine blk_drew ?_ | refine blk_alloc ?_ _)); refine blk_put (cs := #[.int .i64 ((rd_T53 l0 x14_1).f0), .int .i64 ((rd_T53 l0 x14_1).f1), .string ((rd_T53 l0 x14_1).f2), .slice none 0 0, .string (⟨#[]⟩ : ByteArray), .int .i64 0, .slice none 0 0]) ?_ 3 _ rfl; (with_reducible repeat (first | refine blk_drewN ?_ _ | refine blk_drew ?_ | refine blk_alloc ?_ _)); refine blk_put (cs := #[.int .i64 ((rd_T53 l0 x14_1).f0), .int .i64 ((rd_T53 l0 x14_1).f1), .string (⟨#[]⟩ : ByteArray), .slice none 0 0, .string (⟨#[]⟩ : ByteArray), .int .i64 0, .slice none 0 0]) ?_ 2 _ rfl; (with_reducible repeat (first | refine blk_drewN ?_ _ | refine blk_drew ?_ | refine blk_alloc ?_ _)); refine blk_put (cs := #[.int .i64 ((rd_T53 l0 x14_1).f0), .int .i64 0, .string (⟨#[]⟩ : ByteArray), .slice none 0 0, .string (⟨#[]⟩ : ByteArray), .int .i64 0, .slice none 0 0]) ?_ 1 _ rfl; (with_reducible repeat (first | refine blk_drewN ?_ _ | refine blk_drew ?_ | refine blk_alloc ?_ _)); refine blk_put (cs := #[.int .i64 0, .int .i64 0, .string (⟨#[]⟩ : ByteArray), .slice none 0 0, .string (⟨#[]⟩ : ByteArray), .int .i64 0, .slice none 0 0]) ?_ 0 _ rfl; (with_reducible repeat (first | refine blk_drewN ?_ _ | refine blk_drew ?_ | refine blk_alloc ?_ _)); exact BK442.out⟩, ⟨ab2 GE442⟩⟩
    case round =>
     clear H'
     (try clear c2); (try clear c2b0); (try clear c2b1); (try clear p2); (try clear c3); (try clear c3b0); (try clear c3b1); (try clear c4); (try clear p4); (try clear q4); (try clear hx4); (try clear c6); (try clear c6b0); (try clear c7); (try clear c7b0); (try clear c8); (try clear c8b0); (try clear c9); (try clear hcz10_0); (try clear hcz10_1); (try clear hcz10_2); (try clear hcz10_3); (try clear hcz10_4); (try clear hcz10_5); (try clear hcz10_6); (try clear hfz10_0); (try clear hfz10_1); (try clear hfz10_2); (try clear hfz10_3); (try clear hfz10_4); (try clear hfz10_5); (try clear hfz10_6); (try clear hx441_0); (try clear hx441_1); (try clear hx441_2); (try clear hx441_3); (try clear hx441_4); (try clear hx441_5); (try clear hx441_6); (try clear p2); (try clear p441); (try clear q441)
     obtain ⟨x3_2, x22_2, rfl, HA, HK2, HO_3, BK442, HB⟩ := hrel
     cases gk with
     | zero => exact absurd HA.out (by simp [impl_kidsOk.l1])
     | succ k2 =>
      have H := HA.out
      clear HA
      simp only [impl_kidsOk.l1] at H
      replace H := ir_ H; rcases H with ⟨c11b0, H⟩ | ⟨c11b0, H⟩
      ·replace H := iq_ H; obtain ⟨c12b0, H⟩ := H
       replace H := iq_ H; obtain ⟨c13b0, H⟩ := H
       replace H := bi_ H; obtain ⟨t444, A14, H⟩ := H
       replace H := ib_ H; rcases H with ⟨rfl, H⟩ | ⟨rfl, H⟩
       ·replace H := iq_ H; obtain ⟨c16b0, H⟩ := H
        replace H := iq_ H; obtain ⟨c17b0, H⟩ := H
        replace H := ie_ H; rcases H with ⟨c18b0, c18b1, H⟩ | ⟨c18, c18b0, c18b1, H⟩
        ·replace H := iq_ H; obtain ⟨c19b0, H⟩ := H
         obtain ⟨y447, hy447⟩ : ∃ y_ : List Int, y_ = (x3_2.set ((rd ((rd_T53 l0 x14_1).f6) x22_2) : Int).toNat (wrap64 ((rd x3_2 (rd ((rd_T53 l0 x14_1).f6) x22_2)) + 1))) := ⟨_, rfl⟩
         replace H : (impl_kidsOk.l1 k2 l0 y447 x14_1 l0 (l0.length : Int) x14_1 ((rd_T53 l0 x14_1).f6) (((rd_T53 l0 x14_1).f6).length : Int) (wrap64 (x22_2 + 1))) = some r := by first | (rw [hy447]; with_reducible exact H) | (have H2_ := (Option.bind_some _ _).symm.trans H; rw [hy447]; with_reducible exact H2_) | (have H2_ := (Option.bind_some _ _).symm.trans H; with_reducible exact H2_) | with_reducible exact H | (rw [hy447]; exact H) | exact H
         have Ny447 := am hy447
         clear hy447
         have H' := am H
         clear H
         have p443 : 0 ≤ (x22_2 : Int) := of_decide_eq_true ab4
         have q443 : x22_2 < (((rd_T53 l0 x14_1).f6).length : Int) := of_decide_eq_true ab4
         obtain ⟨ad443, e443, hx443_0⟩ := Kd.at_int HR441_6.out x22_2 p443 q443
         cases e443
         replace hx443_0 := pc_ HB hx443_0
         replace p443 := eq_true p443
         replace q443 := eq_true q443
         go_wp2_with (first | ((with_reducible refine gf_ 87 ?_); refine gc_ Tryz.func87 (impl_inRange.calls (rd ((rd_T53 l0 x14_1).f6) x22_2) 1 (wrap64 ((l0.length : Int) - 1)) true _ A14.out) ?_; rintro w' ⟨nd, rfl⟩; (try (rw [drewN_self wr]; generalize hq_ : World.drewN wr _ = wr; have n0_ : Aside0 (Kd.R (Kd.int .i64) 3 wr w.heap.size (fun _ => True) v439 x3_2) := ⟨by rw [← hq_]; exact (ab8 HO_3)⟩; have n1_ : Aside0 (wr.heap[gb442]? = some (.cells #[.int .i64 ((rd_T53 l0 x14_1).f0), .int .i64 ((rd_T53 l0 x14_1).f1), .string ((rd_T53 l0 x14_1).f2), .slice A441_3 ((rd_T53 l0 x14_1).f3).length c441_3, .string ((rd_T53 l0 x14_1).f4), .int .i64 ((rd_T53 l0 x14_1).f5), .slice (some ad443) ((rd_T53 l0 x14_1).f6).length c441_6] 53 (0, 0))) := ⟨by rw [← hq_]; exact (ab3 BK442)⟩; have n2_ : Aside0 (Below w.heap.size w wr) := ⟨by rw [← hq_]; exact (ab2 GE442)⟩; clear HO_3 BK442 HB hq_; have HO_3 := n0_; have BK442 := n1_; have HB := n2_; clear n0_ n1_ n2_)); have p445 : 0 ≤ ((rd ((rd_T53 l0 x14_1).f6) x22_2) : Int) := of_decide_eq_true ab4; have q445 : (rd ((rd_T53 l0 x14_1).f6) x22_2) < (l0.length : Int) := of_decide_eq_true ab4; obtain ⟨ad445, A445_3, c445_3, A445_6, c445_6, e445, hx445_0, hx445_1, hx445_2, hx445_3, hx445_4, hx445_5, hx445_6, hl445_3, hi445_3, hl445_6, hi445_6⟩ := at_T53 HR0.out (rd ((rd_T53 l0 x14_1).f6) x22_2) p445 q445; obtain rfl : ad441 = ad445 := (by injection e445); replace hx445_0 := pc_ HB hx445_0; replace hx445_1 := pc_ HB hx445_1; replace hx445_2 := pc_ HB hx445_2; replace hx445_3 := pc_ HB hx445_3; replace hx445_4 := pc_ HB hx445_4; replace hx445_5 := pc_ HB hx445_5; replace hx445_6 := pc_ HB hx445_6; have HR445_3 := am hi445_3; have HC445_3 := am hl445_3; clear hi445_3 hl445_3; have HR445_6 := am hi445_6; have HC445_6 := am hl445_6; clear hi445_6 hl445_6; replace p445 := eq_true p445; replace q445 := eq_true q445; obtain ⟨Ao21, co21, eo21⟩ := Kd.R_slice HO_3.out; subst eo21; have p446 : 0 ≤ ((rd ((rd_T53 l0 x14_1).f6) x22_2) : Int) := of_decide_eq_true ab4; have q446 : (rd ((rd_T53 l0 x14_1).f6) x22_2) < (x3_2.length : Int) := of_decide_eq_true ab4; obtain ⟨ad446, e446, hx446_0⟩ := Kd.at_int (Kd.R_reads' HO_3.out).2.2 (rd ((rd_T53 l0 x14_1).f6) x22_2) p446 q446; cases e446; replace p446 := eq_true p446; replace q446 := eq_true q446; have p20 : 0 ≤ ((rd ((rd_T53 l0 x14_1).f6) x22_2) : Int) := of_decide_eq_true ab4; have q20 : ((rd ((rd_T53 l0 x14_1).f6) x22_2) : Int) < ((x3_2.length : Int) : Int) := of_decide_eq_true ab4; obtain ⟨go20, co20, eo20, gb20, gl20, cl20, HG20⟩ := Kd.R_form HO_3.out (by omega); (first | cases eo20 | (injection eo20 with ea_ en_ ec_; (first | subst ea_ | (injection ea_ with ea_; subst ea_)); subst ec_; clear en_)); have GB20 := am gb20; have GG20 := am HG20; clear gb20 gl20 HG20; (first | simp only [add_plain] at hx446_0 | skip); obtain ⟨hx20_0, hf20_0⟩ := Kd.R_celln 0 HO_3.out ((rd ((rd_T53 l0 x14_1).f6) x22_2) : Int) p20 q20; replace p20 := eq_true p20; replace q20 := eq_true q20; obtain ⟨hy22_, hz22_⟩ := Kd.R_celln 0 HO_3.out ((rd ((rd_T53 l0 x14_1).f6) x22_2) : Int) (of_decide_eq_true ab4) (of_decide_eq_true ab4); have HP22 := Kd.R_putg HO_3.out ((rd ((rd_T53 l0 x14_1).f6) x22_2) : Int) (wrap64 ((rd x3_2 (rd ((rd_T53 l0 x14_1).f6) x22_2)) + 1))) | ((with_reducible refine gate_store (t := 3) (p := 46) rfl ?_); refine store_event (t := 3) (p := 46) (v := ?vo_w23) (w1 := (wr.setCell ⟨go20, ((rd ((rd_T53 l0 x14_1).f6) x22_2) : Int).toNat, none⟩ (.int .i64 (wrap64 ((rd x3_2 (rd ((rd_T53 l0 x14_1).f6) x22_2)) + 1))))) ?hg ?ho ?hn ?hr ?_; (case ho => rfl); (case hg => rfl); (case hn => rfl); (case hr => first | (go_simp; done) | (go_simp; rfl)); intro w23 hw; have hg : wr.grownBy w23 (some go20) := (by rw [hw]; exact HP22.2); have hp_ : Kd.R (Kd.int .i64) 3 w23 w.heap.size (fun _ => True) (.slice (some ⟨go20, 0, none⟩) x3_2.length co21) y447 := (by rw [hw, Ny447.out]; exact HP22.1); clear HP22; replace BK442 := bg_ BK442 hg (Kd.R_ne HO_3.out BK442.out (by decide)); replace HO_3 := am hp_; replace HB := am ((by rw [hw]; exact below_set (HB.out) GB20.out : Below w.heap.size w w23)); clear hg hw hp_))
         go_roundg k2
         case measure => have := HK1.out; have := HK2.out; omega
         case rel => exact ⟨(y447), (wrap64 (x22_2 + 1)), ab6, H', ⟨by have := HK1.out; have := HK2.out; omega⟩, ⟨ab8 HO_3⟩, ⟨ab3 BK442⟩, ⟨ab2 GE442⟩⟩
        ·obtain rfl := Option.some.inj H
         have p443 : 0 ≤ (x22_2 : Int) := of_decide_eq_true ab4
         have q443 : x22_2 < (((rd_T53 l0 x14_1).f6).length : Int) := of_decide_eq_true ab4
         obtain ⟨ad443, e443, hx443_0⟩ := Kd.at_int HR441_6.out x22_2 p443 q443
         cases e443
         replace hx443_0 := pc_ HB hx443_0
         replace p443 := eq_true p443
         replace q443 := eq_true q443
         go_wp2_with (first | ((with_reducible refine gf_ 87 ?_); refine gc_ Tryz.func87 (impl_inRange.calls (rd ((rd_T53 l0 x14_1).f6) x22_2) 1 (wrap64 ((l0.length : Int) - 1)) true _ A14.out) ?_; rintro w' ⟨nd, rfl⟩; have p445 : 0 ≤ ((rd ((rd_T53 l0 x14_1).f6) x22_2) : Int) := of_decide_eq_true ab4; have q445 : (rd ((rd_T53 l0 x14_1).f6) x22_2) < (l0.length : Int) := of_decide_eq_true ab4; obtain ⟨ad445, A445_3, c445_3, A445_6, c445_6, e445, hx445_0, hx445_1, hx445_2, hx445_3, hx445_4, hx445_5, hx445_6, hl445_3, hi445_3, hl445_6, hi445_6⟩ := at_T53 HR0.out (rd ((rd_T53 l0 x14_1).f6) x22_2) p445 q445; obtain rfl : ad441 = ad445 := (by injection e445); replace hx445_0 := pc_ HB hx445_0; replace hx445_1 := pc_ HB hx445_1; replace hx445_2 := pc_ HB hx445_2; replace hx445_3 := pc_ HB hx445_3; replace hx445_4 := pc_ HB hx445_4; replace hx445_5 := pc_ HB hx445_5; replace hx445_6 := pc_ HB hx445_6; have HR445_3 := am hi445_3; have HC445_3 := am hl445_3; clear hi445_3 hl445_3; have HR445_6 := am hi445_6; have HC445_6 := am hl445_6; clear hi445_6 hl445_6; replace p445 := eq_true p445; replace q445 := eq_true q445))
         go_ret
         exact ⟨ab7, ab2 GE442⟩
       ·obtain rfl := Option.some.inj H
        have p443 : 0 ≤ (x22_2 : Int) := of_decide_eq_true ab4
        have q443 : x22_2 < (((rd_T53 l0 x14_1).f6).length : Int) := of_decide_eq_true ab4
        obtain ⟨ad443, e443, hx443_0⟩ := Kd.at_int HR441_6.out x22_2 p443 q443
        cases e443
        replace hx443_0 := pc_ HB hx443_0
        replace p443 := eq_true p443
        replace q443 := eq_true q443
        go_wp2_with (first | ((with_reducible refine gf_ 87 ?_); refine gc_ Tryz.func87 (impl_inRange.calls (rd ((rd_T53 l0 x14_1).f6) x22_2) 1 (wrap64 ((l0.length : Int) - 1)) false _ A14.out) ?_; rintro w' ⟨nd, rfl⟩))
        go_ret
        exact ⟨ab7, ab2 GE442⟩
      ·have H' := am H
       clear H
       go_wp2
       go_roundg k2
       case measure => have := HK1.out; have := HK2.out; omega
       case rel => exact ⟨(x3_2), (wrap64 (x14_1 + 1)), ab6, H', ⟨by have := HK1.out; have := HK2.out; omega⟩, ⟨ab8 HO_3⟩, ⟨ab2 GE442⟩⟩
   ·have H' := am H
    clear H
    go_wp2
    go_loopg [8] k1 (fun kq v8 w' => ∃ (x8_2 : Int), v8 = .int .i64 x8_2 ∧ Aside0 (impl_kidsOk.l2 kq l0 x3_1 x8_2 = some r) ∧ Aside0 (kq ≤ k1) ∧ Aside0 (Kd.R (Kd.int .i64) 3 w' w.heap.size (fun _ => True) v439 x3_1) ∧ Aside0 (Below w.heap.size w w'))
    case atStart => exact ⟨(1), ab6, H', ⟨Nat.le_refl _⟩, ⟨ab8 HO_3⟩, ⟨ab1⟩⟩
    case round =>
     clear H'
     (try clear c1); (try clear c2); (try clear c2b0); (try clear c2b1); (try clear p2); (try clear q2); (try clear hx2); (try clear hf2); (try clear c3); (try clear c3b0); (try clear c3b1); (try clear c4); (try clear p4); (try clear q4); (try clear hx4); (try clear c6); (try clear c6b0); (try clear p6); (try clear c7); (try clear c7b0); (try clear c8); (try clear c8b0); (try clear c9); (try clear c11); (try clear c11b0); (try clear c12); (try clear c12b0); (try clear c13); (try clear c13b0); (try clear c15); (try clear c16); (try clear c16b0); (try clear c17); (try clear c17b0); (try clear c18); (try clear c18b0); (try clear c18b1); (try clear c19); (try clear c19b0); (try clear p20); (try clear q20); (try clear hx20); (try clear hf20); (try clear hcz10_0); (try clear hcz10_1); (try clear hcz10_2); (try clear hcz10_3); (try clear hcz10_4); (try clear hcz10_5); (try clear hcz10_6); (try clear hfz10_0); (try clear hfz10_1); (try clear hfz10_2); (try clear hfz10_3); (try clear hfz10_4); (try clear hfz10_5); (try clear hfz10_6); (try clear hx20_0); (try clear hx441_0); (try clear hx441_1); (try clear hx441_2); (try clear hx441_3); (try clear hx441_4); (try clear hx441_5); (try clear hx441_6); (try clear hx443_0); (try clear hx445_0); (try clear hx445_1); (try clear hx445_2); (try clear hx445_3); (try clear hx445_4); (try clear hx445_5); (try clear hx445_6); (try clear hx446_0); (try clear p2); (try clear p20); (try clear p4); (try clear p441); (try clear p443); (try clear p445); (try clear p446); (try clear q20); (try clear q4); (try clear q441); (try clear q443); (try clear q445); (try clear q446)
     obtain ⟨x8_2, rfl, HA, HK2, HO_3, HB⟩ := hrel
     cases gk with
     | zero => exact absurd HA.out (by simp [impl_kidsOk.l2])
     | succ k2 =>
      have H := HA.out
      clear HA
      simp only [impl_kidsOk.l2] at H
      replace H := ir_ H; rcases H with ⟨c24b0, H⟩ | ⟨c24b0, H⟩
      ·replace H := iq_ H; obtain ⟨c25b0, H⟩ := H
       replace H := iq_ H; obtain ⟨c26b0, H⟩ := H
       replace H := ie_ H; rcases H with ⟨c27b0, c27b1, H⟩ | ⟨c27, c27b0, c27b1, H⟩
       ·have H' := am H
        clear H
        obtain ⟨Ao28, co28, eo28⟩ := Kd.R_slice HO_3.out
        subst eo28
        have p448 : 0 ≤ (x8_2 : Int) := of_decide_eq_true ab4
        have q448 : x8_2 < (x3_1.length : Int) := of_decide_eq_true ab4
        obtain ⟨ad448, e448, hx448_0⟩ := Kd.at_int (Kd.R_reads' HO_3.out).2.2 x8_2 p448 q448
        cases e448
        replace p448 := eq_true p448
        replace q448 := eq_true q448
        go_wp2
        go_roundg k2
        case measure => have := HK1.out; have := HK2.out; omega
        case rel => exact ⟨(wrap64 (x8_2 + 1)), ab6, H', ⟨by have := HK1.out; have := HK2.out; omega⟩, ⟨ab8 HO_3⟩, ⟨ab1⟩⟩
       ·obtain rfl := Option.some.inj H
        obtain ⟨Ao29, co29, eo29⟩ := Kd.R_slice HO_3.out
        subst eo29
        have p448 : 0 ≤ (x8_2 : Int) := of_decide_eq_true ab4
        have q448 : x8_2 < (x3_1.length : Int) := of_decide_eq_true ab4
        obtain ⟨ad448, e448, hx448_0⟩ := Kd.at_int (Kd.R_reads' HO_3.out).2.2 x8_2 p448 q448
        cases e448
        replace p448 := eq_true p448
        replace q448 := eq_true q448
        go_wp2
        go_ret
        exact ⟨ab7, ab1⟩
      ·obtain rfl := Option.some.inj H
       go_wp2
       go_ret
       exact ⟨ab7, ab1⟩
mutual
def impl_order.l0 : Nat → List (S53) → List Int → List Int → Option (List Int)
 | 0, _, _, _ => none
 | k + 1, x0, x3, x4 => if (x4.length : Int) > 0 then (if 0 ≤ (wrap64 ((x4.length : Int) - 1)) then (if (wrap64 ((x4.length : Int) - 1)) < (x4.length : Int) then (if (wrap64 ((x4.length : Int) - 1)) ≤ (x4.length : Int) then (if x3.length < 17592186044416 then (if 0 ≤ (rd x4 (wrap64 ((x4.length : Int) - 1))) then (if (rd x4 (wrap64 ((x4.length : Int) - 1))) < (x0.length : Int) then (impl_order.l1 k x0 (x3 ++ [rd x4 (wrap64 ((x4.length : Int) - 1))]) (x4.take ((wrap64 ((x4.length : Int) - 1)) : Int).toNat) (rd x4 (wrap64 ((x4.length : Int) - 1))) (wrap64 ((((rd_T53 x0 (rd x4 (wrap64 ((x4.length : Int) - 1)))).f6).length : Int) - 1))) else (none)) else (none)) else (none)) else (none)) else (none)) else (none)) else (some x3)
def impl_order.l1 : Nat → List (S53) → List Int → List Int → Int → Int → Option (List Int)
 | 0, _, _, _, _, _ => none
 | k + 1, x0, x3, x4, x6, x7 => if x7 ≥ 0 then (if 0 ≤ x6 then (if x6 < (x0.length : Int) then (if 0 ≤ x7 then (if x7 < (((rd_T53 x0 x6).f6).length : Int) then (if x4.length < 17592186044416 then (impl_order.l1 k x0 x3 (x4 ++ [rd ((rd_T53 x0 x6).f6) x7]) x6 (wrap64 (x7 - 1))) else (none)) else (none)) else (none)) else (none)) else (none)) else (impl_order.l0 k x0 x3 x4)
end
def impl_order.f (k : Nat) (l0 : List (S53)) : Option (List Int) := impl_order.l0 k l0 ([] : List Int) (([0] : List Int))
theorem impl_order.calls (k : Nat) (A0 : Option Addr) (c0 : Nat) (l0 : List (S53)) (r : List Int) (w : World) (hr0 : Kd.C k53 w A0 l0.length l0) (hc0 : l0.length ≤ c0) (h : impl_order.f k l0 = some r) :
  Calls Tryz.prog 93 #[.slice A0 l0.length c0] w fun e w' => ∃ v0_ : Value, e = .returned (v0_) ∧ Kd.R (Kd.int .i64) 3 w' w.heap.size (fun _ => True) v0_ r ∧ Below w.heap.size w w' := by
 have HR0 := am hr0
 have HC0 := am hc0
 clear hr0 hc0
 have HB := am (Below.refl w.heap.size w)
 have H : (impl_order.l0 k l0 ([] : List Int) (([0] : List Int))) = some r := h
 clear h
 obtain ⟨y449, hy449⟩ : ∃ y_ : List Int, y_ = (([0] : List Int)) := ⟨_, rfl⟩
 replace H : (impl_order.l0 k l0 ([] : List Int) y449) = some r := by first | (rw [hy449]; with_reducible exact H) | (have H2_ := (Option.bind_some _ _).symm.trans H; rw [hy449]; with_reducible exact H2_) | (have H2_ := (Option.bind_some _ _).symm.trans H; with_reducible exact H2_) | with_reducible exact H | (rw [hy449]; exact H) | exact H
 have Ny449 := am hy449
 clear hy449
 have H' := am H
 clear H
 go_enter Tryz.func93, Tryz.ntmps93
 go_wp2_with (first | ((with_reducible refine gate_dst (N := 8) rfl ?_); refine Kd.R_lit (Kd.int .i64) _ 3 ?hg (N := 8) ?hd (xs := ([0] : List Int)) (inner := [.int .i64 0]) (ok := fun _ => True) (okp := fun _ => True) ?hr ?hp (fun _ hk => hk) trivial (Below.refl _ _) (Nat.le_refl _) (by simp) ?_; (case hd => rfl); (case hg => rfl); (case hr => first | (go_simp; done) | (go_simp; rfl)); (case hp => exact (Reps.one (show Kd.M (Kd.int .i64) _ _ _ 0 [.int .i64 0] from rfl) (Reps.none _ _))); intro v450 w2 ho3 hb hg_ hnew_; clear hg_ hnew_; (first | rw [← Ny449.out] at ho3 | (simp only [Int.reduceToNat] at ho3; rw [← Ny449.out] at ho3)); have HO451 := am (Kd.R_lower ho3 (below_size ab1)); replace HB := am (below_step ab1 hb); clear hb ho3))
 go_loopg [3, 4] k (fun kq v3 v4 w' => ∃ (x3_1 : List Int) (x4_1 : List Int), Aside0 (impl_order.l0 kq l0 x3_1 x4_1 = some r) ∧ Aside0 (kq ≤ k) ∧ Aside0 (Kd.R (Kd.int .i64) 3 w' w.heap.size (fun k_ => some k_ ≠ (v4 : Value).ownBlock) v3 x3_1) ∧ Aside0 (Kd.R (Kd.int .i64) 3 w' w.heap.size (fun k_ => some k_ ≠ (v3 : Value).ownBlock) v4 x4_1) ∧ Aside0 (Below w.heap.size w w'))
 case atStart => exact ⟨(([] : List Int)), (y449), H', ⟨Nat.le_refl _⟩, ⟨by first | exact Kd.R_nil _ _ _ _ _ | exact Kd.N_nil _ _ _ _ _ | exact Kd.V_nil _ _ _ _ _ | exact Kd.Q_nil _ _ _ _ _ | exact Kd.S_nil _ _ _ _ _⟩, ⟨by (with_reducible repeat (first | apply Kd.R_alloc | apply Kd.R_drewN | apply Kd.R_drew)); exact Kd.R_mono HO451.out (fun _ hk => (by simp [Value.ownBlock]))⟩, ⟨ab1⟩⟩
 case round =>
  clear H'
  try clear p2
  obtain ⟨x3_1, x4_1, HA, HK1, HO_3, HO_4, HB⟩ := hrel
  cases gk with
  | zero => exact absurd HA.out (by simp [impl_order.l0])
  | succ k1 =>
   have H := HA.out
   clear HA
   simp only [impl_order.l0] at H
   by_cases c4 : (x4_1.length : Int) > 0
   ·rw [if_pos c4] at H
    have c4b0 : decide (0 < (x4_1.length : Int)) = true := decide_eq_true c4
    have c4b1 : decide (0 < x4_1.length) = true := decide_eq_true (by omega)
    clear c4
    obtain ⟨ji5, hji5⟩ : ∃ j_ : Int, (wrap64 ((x4_1.length : Int) - 1)) = j_ := ⟨_, rfl⟩
    replace H : (if 0 ≤ (ji5) then (if (ji5) < (x4_1.length : Int) then (if (ji5) ≤ (x4_1.length : Int) then (if x3_1.length < 17592186044416 then (if 0 ≤ (rd x4_1 (ji5)) then (if (rd x4_1 (ji5)) < (l0.length : Int) then (impl_order.l1 k1 l0 (x3_1 ++ [rd x4_1 (ji5)]) (x4_1.take ((ji5) : Int).toNat) (rd x4_1 (ji5)) (wrap64 ((((rd_T53 l0 (rd x4_1 (ji5))).f6).length : Int) - 1))) else (none)) else (none)) else (none)) else (none)) else (none)) else (none)) = some r := by first | (rw [hji5] at H; exact H) | (simp only [hji5] at H ⊢; exact H)
    have hji5w : (IntKind.i64.wrap ((x4_1.length : Int) - 1)) = ji5 := (i64_w _).trans hji5
    replace H := iq_ H; obtain ⟨c6b0, H⟩ := H
    replace H := iq_ H; obtain ⟨c7b0, H⟩ := H
    by_cases c8 : (ji5) ≤ (x4_1.length : Int)
    case neg => rw [if_neg c8] at H; exact absurd H (by simp)
    rw [if_pos c8] at H
    have c8b0 := eq_true c8
    have c8b1 := decide_eq_true c8
    clear c8
    obtain ⟨y453, hy453⟩ : ∃ y_ : List Int, y_ = (x4_1.take ((ji5) : Int).toNat) := ⟨_, rfl⟩
    replace H : (if x3_1.length < 17592186044416 then (if 0 ≤ (rd x4_1 (ji5)) then (if (rd x4_1 (ji5)) < (l0.length : Int) then (impl_order.l1 k1 l0 (x3_1 ++ [rd x4_1 (ji5)]) y453 (rd x4_1 (ji5)) (wrap64 ((((rd_T53 l0 (rd x4_1 (ji5))).f6).length : Int) - 1))) else (none)) else (none)) else (none)) = some r := by first | (rw [hy453]; with_reducible exact H) | (have H2_ := (Option.bind_some _ _).symm.trans H; rw [hy453]; with_reducible exact H2_) | (have H2_ := (Option.bind_some _ _).symm.trans H; with_reducible exact H2_) | with_reducible exact H | (rw [hy453]; exact H) | exact H
    have Ny453 := am hy453
    clear hy453
    by_cases c9 : x3_1.length < 17592186044416
    case neg => rw [if_neg c9] at H; exact absurd H (by simp)
    rw [if_pos c9] at H
    have LMc9 := am c9
    clear c9
    obtain ⟨y456, hy456⟩ : ∃ y_ : List Int, y_ = (x3_1 ++ [rd x4_1 (ji5)]) := ⟨_, rfl⟩
    replace H : (if 0 ≤ (rd x4_1 (ji5)) then (if (rd x4_1 (ji5)) < (l0.length : Int) then (impl_order.l1 k1 l0 y456 y453 (rd x4_1 (ji5)) (wrap64 ((((rd_T53 l0 (rd x4_1 (ji5))).f6).length : Int) - 1))) else (none)) else (none)) = some r := by first | (rw [hy456]; with_reducible exact H) | (have H2_ := (Option.bind_some _ _).symm.trans H; rw [hy456]; with_reducible exact H2_) | (have H2_ := (Option.bind_some _ _).symm.trans H; with_reducible exact H2_) | with_reducible exact H | (rw [hy456]; exact H) | exact H
    have Ny456 := am hy456
    clear hy456
    replace H := iq_ H; obtain ⟨c10b0, H⟩ := H
    replace H := iq_ H; obtain ⟨c11b0, H⟩ := H
    have H' := am H
    clear H
    obtain ⟨Ao12, co12, eo12⟩ := Kd.R_slice HO_4.out
    subst eo12
    have p452 : 0 ≤ ((ji5) : Int) := of_decide_eq_true ab4
    have q452 : (ji5) < (x4_1.length : Int) := of_decide_eq_true ab4
    obtain ⟨ad452, e452, hx452_0⟩ := Kd.at_int (Kd.R_reads' HO_4.out).2.2 (ji5) p452 q452
    cases e452
    replace p452 := eq_true p452
    replace q452 := eq_true q452
    have q13 : ((ji5) : Int) ≤ ((x4_1.length : Int) : Int) := of_decide_eq_true ab4
    obtain ⟨i013, hi013, _, hsz13, _⟩ := info_parts info3
    have hcut13 := cut_to (P := Tryz.prog) 23 3 .i64 Tryz.underlying23 hi013 (some ad452) x4_1.length co12 (ji5) (of_decide_eq_true ab4) q13 (Kd.R_reads' HO_4.out).2.1
    have hr13 := Kd.R_take (m := ((ji5) : Int).toNat) HO_4.out (by omega)
    have hy13 : y453.length = ((ji5) : Int).toNat := (by rw [Ny453.out, List.length_take]; omega)
    rw [← Ny453.out] at hr13
    rw [← hy13] at hr13 hcut13
    clear hy13 hi013 hsz13 HO_4
    have HO455 := am hr13
    clear hr13
    replace q13 := eq_true q13
    go_wp2_with (first | ((with_reducible refine gate_builtin (b := .append) (xs := #[.tmp 22, .tmp 24]) rfl ?_); at_builtin; refine Kd.R_append (Kd.int .i64) (w0 := w) w.heap.size rfl (.tmp 22) (.tmp 24) 23 3 (.int .i64 0) 8 rfl Tryz.underlying23 info3 rfl (by decide) (by omega) u3 x3_1 (rd x4_1 (ji5)) [.int .i64 (rd x4_1 (ji5))] (fun k_ => some k_ ≠ (.slice (some ad452) y453.length co12 : Value).ownBlock) (fun _ => False) rfl rfl ?aP (fun _ hk => hk.elim) ?aF ?aO ?aB ?aS ?aL ?_; (case aP => exact rfl); (case aB => exact ab1); (case aF => exact (fun k_ hk => Kd.fresh' (Kd.R_lt (ab8 HO455)) k_ hk)); (case aO => exact (ab8 HO_3)); (case aS => exact (below_size ab1)); (case aL => have := LMc9.out; omega); intro v457 w14 ho hb hg hat; rw [← Ny456.out] at ho; replace HO455 := am (Kd.R_after (ok := (fun _ => True)) (by (with_reducible repeat (first | apply Kd.R_alloc | apply Kd.R_drewN | apply Kd.R_drew)); exact Kd.R_mono HO455.out (fun _ hk => ⟨trivial, hk⟩)) hg hat); replace HB := am hb; have HO458 := am ho; clear HO_3; clear ho hb hg hat; have p459 : 0 ≤ ((rd x4_1 (ji5)) : Int) := of_decide_eq_true ab4; have q459 : (rd x4_1 (ji5)) < (l0.length : Int) := of_decide_eq_true ab4; obtain ⟨ad459, A459_3, c459_3, A459_6, c459_6, e459, hx459_0, hx459_1, hx459_2, hx459_3, hx459_4, hx459_5, hx459_6, hl459_3, hi459_3, hl459_6, hi459_6⟩ := at_T53 HR0.out (rd x4_1 (ji5)) p459 q459; cases e459; replace hx459_0 := pc_ HB hx459_0; replace hx459_1 := pc_ HB hx459_1; replace hx459_2 := pc_ HB hx459_2; replace hx459_3 := pc_ HB hx459_3; replace hx459_4 := pc_ HB hx459_4; replace hx459_5 := pc_ HB hx459_5; replace hx459_6 := pc_ HB hx459_6; have HR459_3 := am hi459_3; have HC459_3 := am hl459_3; clear hi459_3 hl459_3; have HR459_6 := am hi459_6; have HC459_6 := am hl459_6; clear hi459_6 hl459_6; replace p459 := eq_true p459; replace q459 := eq_true q459))
    go_loopg [4, 7] k1 (fun kq v4 v7 w' => ∃ (x4_2 : List Int) (x7_2 : Int), v7 = .int .i64 x7_2 ∧ Aside0 (impl_order.l1 kq l0 y456 x4_2 (rd x4_1 (ji5)) x7_2 = some r) ∧ Aside0 (kq ≤ k1) ∧ Aside0 (Kd.R (Kd.int .i64) 3 w' w.heap.size (fun k_ => some k_ ≠ (v4 : Value).ownBlock) v457 y456) ∧ Aside0 (Kd.R (Kd.int .i64) 3 w' w.heap.size (fun k_ => some k_ ≠ (v457 : Value).ownBlock) v4 x4_2) ∧ Aside0 (Below w.heap.size w w'))
    case atStart => exact ⟨(y453), (wrap64 ((((rd_T53 l0 (rd x4_1 (ji5))).f6).length : Int) - 1)), (by first | rfl | (simp; done) | (simp only [← hji5] <;> (first | rfl | simp)) | (simp [*]; done)), H', ⟨Nat.le_refl _⟩, ⟨ab8 HO458⟩, ⟨by (with_reducible repeat (first | apply Kd.R_alloc | apply Kd.R_drewN | apply Kd.R_drew)); exact Kd.R_mono HO455.out (fun _ hk => hk.2)⟩, ⟨ab1⟩⟩
    case round =>
     clear H'
     (try clear c1); (try clear q1); (try clear p2); (try clear c4); (try clear c4b0); (try clear c4b1); (try clear p4); (try clear q4); (try clear hx4); (try clear c6); (try clear c6b0); (try clear p6); (try clear c7); (try clear c7b0); (try clear c8); (try clear c8b0); (try clear c8b1); (try clear c9); (try clear c10); (try clear c10b0); (try clear c11); (try clear c11b0); (try clear q13); (try clear hx452_0); (try clear hx459_0); (try clear hx459_1); (try clear hx459_2); (try clear hx459_3); (try clear hx459_4); (try clear hx459_5); (try clear hx459_6); (try clear p2); (try clear p452); (try clear p459); (try clear q13); (try clear q452); (try clear q459)
     obtain ⟨x4_2, x7_2, rfl, HA, HK2, HO_3, HO_4, HB⟩ := hrel
     cases gk with
     | zero => exact absurd HA.out (by simp [impl_order.l1])
     | succ k2 =>
      have H := HA.out
      clear HA
      simp only [impl_order.l1] at H
      by_cases c15 : x7_2 ≥ 0
      ·rw [if_pos c15] at H
       have c15b0 : decide (0 ≤ x7_2) = true := decide_eq_true c15
       clear c15
       replace H := iq_ H; obtain ⟨c16b0, H⟩ := H
       replace H := iq_ H; obtain ⟨c17b0, H⟩ := H
       replace H := iq_ H; obtain ⟨c18b0, H⟩ := H
       replace H := iq_ H; obtain ⟨c19b0, H⟩ := H
       by_cases c20 : x4_2.length < 17592186044416
       case neg => rw [if_neg c20] at H; exact absurd H (by simp)
       rw [if_pos c20] at H
       have LMc20 := am c20
       clear c20
       obtain ⟨y462, hy462⟩ : ∃ y_ : List Int, y_ = (x4_2 ++ [rd ((rd_T53 l0 (rd x4_1 (ji5))).f6) x7_2]) := ⟨_, rfl⟩
       replace H : (impl_order.l1 k2 l0 y456 y462 (rd x4_1 (ji5)) (wrap64 (x7_2 - 1))) = some r := by first | (rw [hy462]; with_reducible exact H) | (have H2_ := (Option.bind_some _ _).symm.trans H; rw [hy462]; with_reducible exact H2_) | (have H2_ := (Option.bind_some _ _).symm.trans H; with_reducible exact H2_) | with_reducible exact H | (rw [hy462]; exact H) | exact H
       have Ny462 := am hy462
       clear hy462
       have H' := am H
       clear H
       obtain ⟨p460, q460, A460_3, c460_3, A460_6, c460_6, hx460_0, hx460_1, hx460_2, hx460_3, hx460_4, hx460_5, hx460_6, HC460_3, HR460_3, HC460_6, HR460_6⟩ := agT53 HB HR0.out (rd x4_1 (ji5)) (of_decide_eq_true ab4) (of_decide_eq_true ab4)
       have p461 : 0 ≤ (x7_2 : Int) := of_decide_eq_true ab4
       have q461 : x7_2 < (((rd_T53 l0 (rd x4_1 (ji5))).f6).length : Int) := of_decide_eq_true ab4
       obtain ⟨ad461, e461, hx461_0⟩ := Kd.at_int HR460_6.out x7_2 p461 q461
       cases e461
       replace hx461_0 := pc_ HB hx461_0
       replace p461 := eq_true p461
       replace q461 := eq_true q461
       go_wp2_with (first | ((with_reducible refine gate_builtin (b := .append) (xs := #[.tmp 37, .tmp 46]) rfl ?_); at_builtin; refine Kd.R_append (Kd.int .i64) (w0 := w) w.heap.size rfl (.tmp 37) (.tmp 46) 23 3 (.int .i64 0) 8 rfl Tryz.underlying23 info3 rfl (by decide) (by omega) u4 x4_2 (rd ((rd_T53 l0 (rd x4_1 (ji5))).f6) x7_2) [.int .i64 (rd ((rd_T53 l0 (rd x4_1 (ji5))).f6) x7_2)] (fun k_ => some k_ ≠ (v457 : Value).ownBlock) (fun _ => False) rfl rfl ?aP (fun _ hk => hk.elim) ?aF ?aO ?aB ?aS ?aL ?_; (case aP => exact rfl); (case aB => exact ab1); (case aF => exact (fun k_ hk => Kd.fresh' (Kd.R_lt (ab8 HO_3)) k_ hk)); (case aO => exact (ab8 HO_4)); (case aS => exact (below_size ab1)); (case aL => have := LMc20.out; omega); intro v463 w21 ho hb hg hat; rw [← Ny462.out] at ho; replace HO_3 := am (Kd.R_after (ok := (fun _ => True)) (by (with_reducible repeat (first | apply Kd.R_alloc | apply Kd.R_drewN | apply Kd.R_drew)); exact Kd.R_mono HO_3.out (fun _ hk => ⟨trivial, hk⟩)) hg hat); replace HB := am hb; have HO464 := am ho; clear HO_4; clear ho hb hg hat))
       go_roundg k2
       case measure => have := HK1.out; have := HK2.out; omega
       case rel => exact ⟨(y462), (wrap64 (x7_2 - 1)), ab6, H', ⟨by have := HK1.out; have := HK2.out; omega⟩, ⟨by (with_reducible repeat (first | apply Kd.R_alloc | apply Kd.R_drewN | apply Kd.R_drew)); exact Kd.R_mono HO_3.out (fun _ hk => hk.2)⟩, ⟨ab8 HO464⟩, ⟨ab1⟩⟩
      ·rw [if_neg c15] at H
       have c15b0 : decide (0 ≤ x7_2) = false := decide_eq_false c15
       clear c15
       have H' := am H
       clear H
       go_wp2
       go_roundg k2
       case measure => have := HK1.out; have := HK2.out; omega
       case rel => exact ⟨(y456), (x4_2), H', ⟨by have := HK1.out; have := HK2.out; omega⟩, ⟨ab8 HO_3⟩, ⟨ab8 HO_4⟩, ⟨ab1⟩⟩
   ·rw [if_neg c4] at H
    have c4b0 : decide (0 < (x4_1.length : Int)) = false := decide_eq_false c4
    have c4b1 : decide (0 < x4_1.length) = false := decide_eq_false (by omega)
    clear c4
    obtain rfl := Option.some.inj H
    obtain ⟨Ao22, co22, eo22⟩ := Kd.R_slice HO_4.out
    subst eo22
    go_wp2
    go_ret
    exact ⟨_, ab7, by (with_reducible repeat (first | apply Kd.R_alloc | apply Kd.R_drewN | apply Kd.R_drew)); exact Kd.R_mono HO_3.out (fun _ hk => trivial), ab1⟩
mutual
def impl_TreeOk.j0 : Nat → List (S53) → Bool → Option (Bool)
 | 0, _, _ => none
 | k + 1, x0, x15 => if x15 = true then (some false) else (if 1 ≤ (x0.length : Int) then ((some (x0.drop 1 : List (S53))).bind fun y468 => (impl_TreeOk.l0 k x0 y468 (y468.length : Int) 0)) else (none))
def impl_TreeOk.l0 : Nat → List (S53) → List (S53) → Int → Int → Option (Bool)
 | 0, _, _, _, _ => none
 | k + 1, x0, x17, x18, x19 => if x19 < x18 then (if 0 ≤ x19 then (if x19 < (x17.length : Int) then ((impl_itemOk.f k ((rd_T53 x17 x19).f0) ((rd_T53 x17 x19).f1) ((rd_T53 x17 x19).f2) ((rd_T53 x17 x19).f3) ((rd_T53 x17 x19).f4) ((rd_T53 x17 x19).f5) ((rd_T53 x17 x19).f6)).bind fun t478 => (if t478 = true then ((impl_inRange.f ((rd_T53 x17 x19).f5) 0 (wrap64 ((x0.length : Int) - 1))).bind fun t479 => (if t479 = true then (if 0 ≤ ((rd_T53 x17 x19).f5) then (if ((rd_T53 x17 x19).f5) < (x0.length : Int) then ((impl_hasKids.f ((rd_T53 x0 ((rd_T53 x17 x19).f5)).f0)).bind fun t481 => (if t481 = true then (impl_TreeOk.l0 k x0 x17 x18 (wrap64 (x19 + 1))) else (some false))) else (none)) else (none)) else (some false))) else (some false))) else (none)) else (none)) else ((impl_kidsOk.f k x0).bind fun t472 => (if t472 = true then ((impl_order.f k x0).bind fun t473 => (some ((t473.length : Int) == (x0.length : Int)))) else (some false)))
end
def impl_TreeOk.f (k : Nat) (l0 : List (S53)) : Option (Bool) := (impl_inRange.f (l0.length : Int) 1 3000).bind fun t465 => (if t465 = true then (if 0 < (l0.length : Int) then ((impl_pageOk.f ((rd_T53 l0 0).f0) ((rd_T53 l0 0).f1) ((rd_T53 l0 0).f2) ((rd_T53 l0 0).f3) ((rd_T53 l0 0).f4) ((rd_T53 l0 0).f5) ((rd_T53 l0 0).f6)).bind fun t467 => (impl_TreeOk.j0 k l0 (!t467))) else (none)) else (impl_TreeOk.j0 k l0 true))
theorem impl_TreeOk.calls (k : Nat) (A0 : Option Addr) (c0 : Nat) (l0 : List (S53)) (r : Bool) (w : World) (hr0 : Kd.C k53 w A0 l0.length l0) (hc0 : l0.length ≤ c0) (h : impl_TreeOk.f k l0 = some r) :
  Calls Tryz.prog 65 #[.slice A0 l0.length c0] w fun e w' => e = .returned (.bool r) ∧ Below w.heap.size w w' := by
 have hu53 := Tryz.underlying53
 have HR0 := am hr0
 have HC0 := am hc0
 clear hr0 hc0
 have HB := am (Below.refl w.heap.size w)
 have H : ((impl_inRange.f (l0.length : Int) 1 3000).bind fun t465 => (if t465 = true then (if 0 < (l0.length : Int) then ((impl_pageOk.f ((rd_T53 l0 0).f0) ((rd_T53 l0 0).f1) ((rd_T53 l0 0).f2) ((rd_T53 l0 0).f3) ((rd_T53 l0 0).f4) ((rd_T53 l0 0).f5) ((rd_T53 l0 0).f6)).bind fun t467 => (impl_TreeOk.j0 k l0 (!t467))) else (none)) else (impl_TreeOk.j0 k l0 true))) = some r := h
 clear h
 have HC2 := am H
 clear H
 go_enter Tryz.func65, Tryz.ntmps65
 go_upto_region 1 with (fail)
 go_cut [15] (fun v15 wc => ∃ (kq : Nat) (x15_1 : Bool), v15 = .bool x15_1 ∧ Aside0 (impl_TreeOk.j0 kq l0 x15_1 = some r) ∧ Aside0 (kq ≤ k) ∧ Aside0 (Below w.heap.size w wc))
 case first =>
  have H := HC2.out
  clear HC2
  replace H := bi_ H; obtain ⟨t465, A3, H⟩ := H
  replace H := ib_ H; rcases H with ⟨rfl, H⟩ | ⟨rfl, H⟩
  ·by_cases c5 : 0 < (l0.length : Int)
   case neg => rw [if_neg c5] at H; exact absurd H (by simp)
   rw [if_pos c5] at H
   have c5b0 := decide_eq_true c5
   have c5b1 : decide (0 < l0.length) = true := decide_eq_true (by omega)
   clear c5
   (first | rw [c5b0] | (simp only [i64_w, i32_w]; rw [c5b0]) | skip)
   (try (generalize hgzc5 : decide (0 < (l0.length : Int)) = bqc5 at *; subst c5b0; have c5b0 := hgzc5; clear hgzc5))
   replace H := bi_ H; obtain ⟨t467, A6, H⟩ := H
   replace H : (impl_TreeOk.j0 k l0 (!t467)) = some r := by first | exact H | (rw [c5b0]; exact H)
   have H' := am H
   clear H
   go_wp2_with (first | ((with_reducible refine gf_ 87 ?_); refine gc_ Tryz.func87 (impl_inRange.calls (l0.length : Int) 1 3000 true _ A3.out) ?_; rintro w' ⟨nd, rfl⟩; have p466 : 0 ≤ (0 : Int) := (by omega); have q466 : 0 < (l0.length : Int) := of_decide_eq_true ab4; obtain ⟨ad466, A466_3, c466_3, A466_6, c466_6, e466, hx466_0, hx466_1, hx466_2, hx466_3, hx466_4, hx466_5, hx466_6, hl466_3, hi466_3, hl466_6, hi466_6⟩ := at_T53 HR0.out 0 p466 q466; cases e466; have qi466 : (0 < l0.length) = True := eq_true (by omega); (try rw [show ((0 : Int)).toNat = 0 from rfl] at hx466_0); (try rw [show 0 * 7 = 0 from rfl] at hx466_0); (try rw [Addr.add_zero'] at hx466_0); (try rw [show ((0 : Int)).toNat = 0 from rfl] at hx466_1); (try rw [show 0 * 7 = 0 from rfl] at hx466_1); (try rw [Addr.add_zero'] at hx466_1); (try rw [show ((0 : Int)).toNat = 0 from rfl] at hx466_2); (try rw [show 0 * 7 = 0 from rfl] at hx466_2); (try rw [Addr.add_zero'] at hx466_2); (try rw [show ((0 : Int)).toNat = 0 from rfl] at hx466_3); (try rw [show 0 * 7 = 0 from rfl] at hx466_3); (try rw [Addr.add_zero'] at hx466_3); (try rw [show ((0 : Int)).toNat = 0 from rfl] at hx466_4); (try rw [show 0 * 7 = 0 from rfl] at hx466_4); (try rw [Addr.add_zero'] at hx466_4); (try rw [show ((0 : Int)).toNat = 0 from rfl] at hx466_5); (try rw [show 0 * 7 = 0 from rfl] at hx466_5); (try rw [Addr.add_zero'] at hx466_5); (try rw [show ((0 : Int)).toNat = 0 from rfl] at hx466_6); (try rw [show 0 * 7 = 0 from rfl] at hx466_6); (try rw [Addr.add_zero'] at hx466_6); replace hx466_0 := pc_ HB hx466_0; replace hx466_1 := pc_ HB hx466_1; replace hx466_2 := pc_ HB hx466_2; replace hx466_3 := pc_ HB hx466_3; replace hx466_4 := pc_ HB hx466_4; replace hx466_5 := pc_ HB hx466_5; replace hx466_6 := pc_ HB hx466_6; have HR466_3 := am hi466_3; have HC466_3 := am hl466_3; clear hi466_3 hl466_3; have HR466_6 := am hi466_6; have HC466_6 := am hl466_6; clear hi466_6 hl466_6; replace p466 := eq_true p466; replace q466 := eq_true q466) | (go_at_call 89; (with_reducible refine (impl_pageOk.calls ((rd_T53 l0 0).f0) ((rd_T53 l0 0).f1) ((rd_T53 l0 0).f2) _ _ ((rd_T53 l0 0).f3) ((rd_T53 l0 0).f4) ((rd_T53 l0 0).f5) _ _ ((rd_T53 l0 0).f6) t467 _ ?side1 ?side2 ?side3 ?side4 A6.out).mono ?_); (case side1 => repeat (first | exact (Kd.C_below HR466_3.out ab1) | (with_reducible refine Kd.C_alloc ?_ _) | (with_reducible refine Kd.C_drewN ?_ _) | (with_reducible refine Kd.C_drew ?_))); (case side2 => exact HC466_3.out); (case side3 => repeat (first | exact (Kd.C_below HR466_6.out ab1) | (with_reducible refine Kd.C_alloc ?_ _) | (with_reducible refine Kd.C_drewN ?_ _) | (with_reducible refine Kd.C_drew ?_))); (case side4 => exact HC466_6.out); rintro e w7 ⟨rfl, hb⟩; replace HB := am (below_step ab1 hb); (try clear hb)))
   go_meet
   case rel => exact ⟨_, (!t467), ab6, (by first | exact H' | (have h_ := H'.out; rw [c5b0] at h_; exact ⟨h_⟩)), ⟨by first | omega | exact Nat.le_refl _⟩, ⟨ab1⟩⟩
  ·have H' := am H
   clear H
   go_wp2_with (first | ((with_reducible refine gf_ 87 ?_); refine gc_ Tryz.func87 (impl_inRange.calls (l0.length : Int) 1 3000 false _ A3.out) ?_; rintro w' ⟨nd, rfl⟩))
   go_meet
   case rel => exact ⟨_, (true), ab6, H', ⟨by first | omega | exact Nat.le_refl _⟩, ⟨ab1⟩⟩
 case rest =>
  clear HC2
  (try clear p2); (try clear c4); (try clear p4); (try clear q4); (try clear hx4); (try clear qi4); (try clear c5); (try clear c5b0); (try clear c5b1); (try clear c6); (try clear hx466_0); (try clear hx466_1); (try clear hx466_2); (try clear hx466_3); (try clear hx466_4); (try clear hx466_5); (try clear hx466_6); (try clear p466); (try clear q466)
  obtain ⟨kq, x15_1, rfl, HA, HJ1, HB⟩ := hcut
  cases kq with
  | zero => exact absurd HA.out (by simp [impl_TreeOk.j0])
  | succ kj1 =>
   have H := HA.out
   clear HA
   simp only [impl_TreeOk.j0] at H
   replace H := ib_ H; rcases H with ⟨rfl, H⟩ | ⟨rfl, H⟩
   ·obtain rfl := Option.some.inj H
    go_wp2
    go_ret
    exact ⟨ab7, ab1⟩
   ·by_cases c9 : 1 ≤ (l0.length : Int)
    case neg => rw [if_neg c9] at H; exact absurd H (by simp)
    rw [if_pos c9] at H
    have c9b0 := eq_true c9
    have c9b1 := decide_eq_true c9
    clear c9
    obtain ⟨y468, hy468⟩ : ∃ y_ : List (S53), y_ = (l0.drop 1) := ⟨_, rfl⟩
    replace H : (impl_TreeOk.l0 kj1 l0 y468 (y468.length : Int) 0) = some r := by first | (rw [hy468]; with_reducible exact H) | (have H2_ := (Option.bind_some _ _).symm.trans H; rw [hy468]; with_reducible exact H2_) | (have H2_ := (Option.bind_some _ _).symm.trans H; with_reducible exact H2_) | with_reducible exact H | (rw [hy468]; exact H) | exact H
    have Ny468 := am hy468
    clear hy468
    have H' := am H
    clear H
    have q10 : (1 : Int) ≤ ((l0.length : Int) : Int) := of_decide_eq_true ab4
    obtain ⟨i010, hi010, _, hsz10, _⟩ := info_parts info53
    have hroom10 : l0.length ≤ c0 := HC0.out
    have hC10 : Kd.C k53 _ A0 l0.length l0 := HR0.out
    have hcut10 := cut_from (P := Tryz.prog) 29 53 .i64 Tryz.underlying29 hi010 7 hsz10 A0 l0.length c0 1 (by omega) q10
    have hr10 := Kd.C_drop (m := (1 : Int).toNat) (c := c0) hC10 (by omega) hroom10
    obtain ⟨A10, hA10⟩ : ∃ A1, A1 = (if c0 = (1 : Int).toNat then A0 else (A0 : Option Addr).map (·.add ((1 : Int).toNat * 7))) := ⟨_, rfl⟩
    obtain ⟨c10, hc10⟩ : ∃ c1, c1 = c0 - (1 : Int).toNat := ⟨_, rfl⟩
    have hy10 : y468.length = l0.length - (1 : Int).toNat := (by rw [Ny468.out, List.length_drop] <;> omega)
    rw [show (l0).drop (1 : Int).toNat = y468 from Ny468.out.symm] at hr10
    replace hr10 : Kd.C k53 _ A10 y468.length y468 := (by rw [hA10]; exact hr10)
    rw [← hy10, ← hA10, ← hc10] at hcut10
    have HR471 := am hr10
    have HC471 := am (show y468.length ≤ c10 from by rw [hy10, hc10]; exact Nat.sub_le_sub_right hroom10 _)
    clear hr10 hC10 hroom10 hi010 hsz10 hc10
    have KY10 := am hy10
    have KA10 := am hA10
    clear hy10 hA10
    replace q10 := eq_true q10
    go_wp2
    go_loopg [19] kj1 (fun kq v19 w' => ∃ (x19_2 : Int), v19 = .int .i64 x19_2 ∧ Aside0 (impl_TreeOk.l0 kq l0 y468 (y468.length : Int) x19_2 = some r) ∧ Aside0 (kq ≤ kj1) ∧ Aside0 (Below w.heap.size w w'))
    case atStart => exact ⟨(0), ab6, H', ⟨Nat.le_refl _⟩, ⟨ab1⟩⟩
    case round =>
     clear H'
     (try clear c1); (try clear q1); (try clear p2); (try clear c4); (try clear p4); (try clear q4); (try clear hx4); (try clear qi4); (try clear c5); (try clear c5b0); (try clear c5b1); (try clear c6); (try clear c8); (try clear c9); (try clear c9b0); (try clear c9b1); (try clear c10); (try clear q10); (try clear hx466_0); (try clear hx466_1); (try clear hx466_2); (try clear hx466_3); (try clear hx466_4); (try clear hx466_5); (try clear hx466_6); (try clear p2); (try clear p4); (try clear p466); (try clear q10); (try clear q4); (try clear q466)
     obtain ⟨x19_2, rfl, HA, HK2, HB⟩ := hrel
     cases gk with
     | zero => exact absurd HA.out (by simp [impl_TreeOk.l0])
     | succ k2 =>
      have H := HA.out
      clear HA
      simp only [impl_TreeOk.l0] at H
      replace H := ir_ H; rcases H with ⟨c11b0, H⟩ | ⟨c11b0, H⟩
      ·replace H := iq_ H; obtain ⟨c12b0, H⟩ := H
       replace H := iq_ H; obtain ⟨c13b0, H⟩ := H
       replace H := bi_ H; obtain ⟨t478, A14, H⟩ := H
       replace H := ib_ H; rcases H with ⟨rfl, H⟩ | ⟨rfl, H⟩
       ·replace H := bi_ H; obtain ⟨t479, A16, H⟩ := H
        replace H := ib_ H; rcases H with ⟨rfl, H⟩ | ⟨rfl, H⟩
        ·replace H := iq_ H; obtain ⟨c18b0, H⟩ := H
         replace H := iq_ H; obtain ⟨c19b0, H⟩ := H
         replace H := bi_ H; obtain ⟨t481, A20, H⟩ := H
         replace H := ib_ H; rcases H with ⟨rfl, H⟩ | ⟨rfl, H⟩
         ·have H' := am H
          clear H
          obtain ⟨p476, q476, ad476, A476_3, c476_3, A476_6, c476_6, rfl, hx476_0, hx476_1, hx476_2, hx476_3, hx476_4, hx476_5, hx476_6, HC476_3, HR476_3, HC476_6, HR476_6⟩ := otT53 HB HR471.out x19_2 (of_decide_eq_true ab4) (of_decide_eq_true ab4)
          go_wp2_with (first | ((with_reducible refine gd_ 4 ?_); (try (refine gate_guard (by rfl) ?_; dsimp only)); refine bx_ 4 (cs := #[.int .i64 0, .int .i64 0, .string (⟨#[]⟩ : ByteArray), .slice none 0 0, .string (⟨#[]⟩ : ByteArray), .int .i64 0, .slice none 0 0]) 53 ?_; intro gb477 hg w22 hbox hb; have BK477 := am hbox; have GW477 := ge_ (w := w) hg; have GE477 := ge_ (w := w) hg; replace HB := am (below_step ab1 hb); clear hb hbox hg; obtain ⟨⟨_, _, _, _, _, _, _⟩, _, _, _, _, _, _, _⟩ := Op.cells7 BK477.out) | ((with_reducible refine gf_ 90 ?_); refine gc_ Tryz.func90 (impl_itemOk.calls k2 ((rd_T53 y468 x19_2).f0) ((rd_T53 y468 x19_2).f1) ((rd_T53 y468 x19_2).f2) _ _ ((rd_T53 y468 x19_2).f3) ((rd_T53 y468 x19_2).f4) ((rd_T53 y468 x19_2).f5) _ _ ((rd_T53 y468 x19_2).f6) true _ (Kd.C_below HR476_3.out (ab2 GE477)) HC476_3.out (Kd.C_below HR476_6.out (ab2 GE477)) HC476_6.out A14.out) ?_; rintro w24 hb; replace BK477 := bp_ BK477 hb; replace HB := am (below_step (ab2 GE477) hb); (try clear hb); obtain ⟨⟨_, _, _, _, _, _, _⟩, _, _, _, _, _, _, _⟩ := Op.cells7 BK477.out) | (go_at_call 87; (with_reducible refine (impl_inRange.calls ((rd_T53 y468 x19_2).f5) 0 (wrap64 ((l0.length : Int) - 1)) true _ A16.out).mono ?_); rintro e w' ⟨rfl, ⟨nd, rfl⟩⟩; have p480 : 0 ≤ (((rd_T53 y468 x19_2).f5) : Int) := of_decide_eq_true ab4; have q480 : ((rd_T53 y468 x19_2).f5) < (l0.length : Int) := of_decide_eq_true ab4; obtain ⟨ad480, A480_3, c480_3, A480_6, c480_6, e480, hx480_0, hx480_1, hx480_2, hx480_3, hx480_4, hx480_5, hx480_6, hl480_3, hi480_3, hl480_6, hi480_6⟩ := at_T53 HR0.out ((rd_T53 y468 x19_2).f5) p480 q480; cases e480; replace hx480_0 := pc_ HB hx480_0; replace hx480_1 := pc_ HB hx480_1; replace hx480_2 := pc_ HB hx480_2; replace hx480_3 := pc_ HB hx480_3; replace hx480_4 := pc_ HB hx480_4; replace hx480_5 := pc_ HB hx480_5; replace hx480_6 := pc_ HB hx480_6; have HR480_3 := am hi480_3; have HC480_3 := am hl480_3; clear hi480_3 hl480_3; have HR480_6 := am hi480_6; have HC480_6 := am hl480_6; clear hi480_6 hl480_6; replace p480 := eq_true p480; replace q480 := eq_true q480) | (go_at_call 91; (with_reducible refine (impl_hasKids.calls ((rd_T53 l0 ((rd_T53 y468 x19_2).f5)).f0) true _ A20.out).mono ?_); rintro e w' ⟨rfl, ⟨nd, rfl⟩⟩))
          go_roundg k2
          case measure => have := HJ1.out; have := HK2.out; omega
          case rel => exact ⟨(wrap64 (x19_2 + 1)), ab6, H', ⟨by have := HJ1.out; have := HK2.out; omega⟩, ⟨ab2 GE477⟩⟩
         ·obtain rfl := Option.some.inj H
          obtain ⟨p476, q476, ad476, A476_3, c476_3, A476_6, c476_6, rfl, hx476_0, hx476_1, hx476_2, hx476_3, hx476_4, hx476_5, hx476_6, HC476_3, HR476_3, HC476_6, HR476_6⟩ := otT53 HB HR471.out x19_2 (of_decide_eq_true ab4) (of_decide_eq_true ab4)
          go_wp2_with (first | ((with_reducible refine gd_ 4 ?_); (try (refine gate_guard (by rfl) ?_; dsimp only)); refine bx_ 4 (cs := #[.int .i64 0, .int .i64 0, .string (⟨#[]⟩ : ByteArray), .slice none 0 0, .string (⟨#[]⟩ : ByteArray), .int .i64 0, .slice none 0 0]) 53 ?_; intro gb477 hg w26 hbox hb; have BK477 := am hbox; have GW477 := ge_ (w := w) hg; have GE477 := ge_ (w := w) hg; replace HB := am (below_step ab1 hb); clear hb hbox hg; obtain ⟨⟨_, _, _, _, _, _, _⟩, _, _, _, _, _, _, _⟩ := Op.cells7 BK477.out) | ((with_reducible refine gf_ 90 ?_); refine gc_ Tryz.func90 (impl_itemOk.calls k2 ((rd_T53 y468 x19_2).f0) ((rd_T53 y468 x19_2).f1) ((rd_T53 y468 x19_2).f2) _ _ ((rd_T53 y468 x19_2).f3) ((rd_T53 y468 x19_2).f4) ((rd_T53 y468 x19_2).f5) _ _ ((rd_T53 y468 x19_2).f6) true _ (Kd.C_below HR476_3.out (ab2 GE477)) HC476_3.out (Kd.C_below HR476_6.out (ab2 GE477)) HC476_6.out A14.out) ?_; rintro w28 hb; replace BK477 := bp_ BK477 hb; replace HB := am (below_step (ab2 GE477) hb); (try clear hb); obtain ⟨⟨_, _, _, _, _, _, _⟩, _, _, _, _, _, _, _⟩ := Op.cells7 BK477.out) | (go_at_call 87; (with_reducible refine (impl_inRange.calls ((rd_T53 y468 x19_2).f5) 0 (wrap64 ((l0.length : Int) - 1)) true _ A16.out).mono ?_); rintro e w' ⟨rfl, ⟨nd, rfl⟩⟩; have p480 : 0 ≤ (((rd_T53 y468 x19_2).f5) : Int) := of_decide_eq_true ab4; have q480 : ((rd_T53 y468 x19_2).f5) < (l0.length : Int) := of_decide_eq_true ab4; obtain ⟨ad480, A480_3, c480_3, A480_6, c480_6, e480, hx480_0, hx480_1, hx480_2, hx480_3, hx480_4, hx480_5, hx480_6, hl480_3, hi480_3, hl480_6, hi480_6⟩ := at_T53 HR0.out ((rd_T53 y468 x19_2).f5) p480 q480; cases e480; replace hx480_0 := pc_ HB hx480_0; replace hx480_1 := pc_ HB hx480_1; replace hx480_2 := pc_ HB hx480_2; replace hx480_3 := pc_ HB hx480_3; replace hx480_4 := pc_ HB hx480_4; replace hx480_5 := pc_ HB hx480_5; replace hx480_6 := pc_ HB hx480_6; have HR480_3 := am hi480_3; have HC480_3 := am hl480_3; clear hi480_3 hl480_3; have HR480_6 := am hi480_6; have HC480_6 := am hl480_6; clear hi480_6 hl480_6; replace p480 := eq_true p480; replace q480 := eq_true q480) | (go_at_call 91; (with_reducible refine (impl_hasKids.calls ((rd_T53 l0 ((rd_T53 y468 x19_2).f5)).f0) false _ A20.out).mono ?_); rintro e w' ⟨rfl, ⟨nd, rfl⟩⟩))
          go_ret
          exact ⟨ab7, ab2 GE477⟩
        ·obtain rfl := Option.some.inj H
         obtain ⟨p476, q476, ad476, A476_3, c476_3, A476_6, c476_6, rfl, hx476_0, hx476_1, hx476_2, hx476_3, hx476_4, hx476_5, hx476_6, HC476_3, HR476_3, HC476_6, HR476_6⟩ := otT53 HB HR471.out x19_2 (of_decide_eq_true ab4) (of_decide_eq_true ab4)
         go_wp2_with (first | ((with_reducible refine gd_ 4 ?_); (try (refine gate_guard (by rfl) ?_; dsimp only)); refine bx_ 4 (cs := #[.int .i64 0, .int .i64 0, .string (⟨#[]⟩ : ByteArray), .slice none 0 0, .string (⟨#[]⟩ : ByteArray), .int .i64 0, .slice none 0 0]) 53 ?_; intro gb477 hg w30 hbox hb; have BK477 := am hbox; have GW477 := ge_ (w := w) hg; have GE477 := ge_ (w := w) hg; replace HB := am (below_step ab1 hb); clear hb hbox hg; obtain ⟨⟨_, _, _, _, _, _, _⟩, _, _, _, _, _, _, _⟩ := Op.cells7 BK477.out) | ((with_reducible refine gf_ 90 ?_); refine gc_ Tryz.func90 (impl_itemOk.calls k2 ((rd_T53 y468 x19_2).f0) ((rd_T53 y468 x19_2).f1) ((rd_T53 y468 x19_2).f2) _ _ ((rd_T53 y468 x19_2).f3) ((rd_T53 y468 x19_2).f4) ((rd_T53 y468 x19_2).f5) _ _ ((rd_T53 y468 x19_2).f6) true _ (Kd.C_below HR476_3.out (ab2 GE477)) HC476_3.out (Kd.C_below HR476_6.out (ab2 GE477)) HC476_6.out A14.out) ?_; rintro w32 hb; replace BK477 := bp_ BK477 hb; replace HB := am (below_step (ab2 GE477) hb); (try clear hb); obtain ⟨⟨_, _, _, _, _, _, _⟩, _, _, _, _, _, _, _⟩ := Op.cells7 BK477.out) | (go_at_call 87; (with_reducible refine (impl_inRange.calls ((rd_T53 y468 x19_2).f5) 0 (wrap64 ((l0.length : Int) - 1)) false _ A16.out).mono ?_); rintro e w' ⟨rfl, ⟨nd, rfl⟩⟩))
         go_ret
         exact ⟨ab7, ab2 GE477⟩
       ·obtain rfl := Option.some.inj H
        obtain ⟨p476, q476, ad476, A476_3, c476_3, A476_6, c476_6, rfl, hx476_0, hx476_1, hx476_2, hx476_3, hx476_4, hx476_5, hx476_6, HC476_3, HR476_3, HC476_6, HR476_6⟩ := otT53 HB HR471.out x19_2 (of_decide_eq_true ab4) (of_decide_eq_true ab4)
        go_wp2_with (first | ((with_reducible refine gd_ 4 ?_); (try (refine gate_guard (by rfl) ?_; dsimp only)); refine bx_ 4 (cs := #[.int .i64 0, .int .i64 0, .string (⟨#[]⟩ : ByteArray), .slice none 0 0, .string (⟨#[]⟩ : ByteArray), .int .i64 0, .slice none 0 0]) 53 ?_; intro gb477 hg w34 hbox hb; have BK477 := am hbox; have GW477 := ge_ (w := w) hg; have GE477 := ge_ (w := w) hg; replace HB := am (below_step ab1 hb); clear hb hbox hg; obtain ⟨⟨_, _, _, _, _, _, _⟩, _, _, _, _, _, _, _⟩ := Op.cells7 BK477.out) | ((with_reducible refine gf_ 90 ?_); refine gc_ Tryz.func90 (impl_itemOk.calls k2 ((rd_T53 y468 x19_2).f0) ((rd_T53 y468 x19_2).f1) ((rd_T53 y468 x19_2).f2) _ _ ((rd_T53 y468 x19_2).f3) ((rd_T53 y468 x19_2).f4) ((rd_T53 y468 x19_2).f5) _ _ ((rd_T53 y468 x19_2).f6) false _ (Kd.C_below HR476_3.out (ab2 GE477)) HC476_3.out (Kd.C_below HR476_6.out (ab2 GE477)) HC476_6.out A14.out) ?_; rintro w36 hb; replace BK477 := bp_ BK477 hb; replace HB := am (below_step (ab2 GE477) hb); (try clear hb)))
        go_ret
        exact ⟨ab7, ab2 GE477⟩
      ·replace H := bi_ H; obtain ⟨t472, A37, H⟩ := H
       replace H := ib_ H; rcases H with ⟨rfl, H⟩ | ⟨rfl, H⟩
       ·replace H := bi_ H; obtain ⟨t473, A39, H⟩ := H
        obtain rfl := Option.some.inj H
        go_wp2_with (first | ((with_reducible refine gf_ 92 ?_); refine gc_ Tryz.func92 (impl_kidsOk.calls k2 _ _ l0 true _ (sc_ HR0) HC0.out A37.out) ?_; rintro w40 hb; replace HB := am (below_step ab1 hb); (try clear hb)) | (go_at_call 93; (with_reducible refine (impl_order.calls k2 _ _ l0 t473 _ (sc_ HR0) HC0.out A39.out).mono ?_); rintro e w41 ⟨v474, rfl, ho0, hb⟩; have HO475 := am (Kd.R_lower ho0 (below_size ab1)); replace HB := am (below_step ab1 hb); (try clear hb); (try clear ho0); obtain ⟨Ao42, co42, eo42⟩ := Kd.R_slice HO475.out; subst eo42))
        go_ret
        exact ⟨ab7, ab1⟩
       ·obtain rfl := Option.some.inj H
        go_wp2_with (first | ((with_reducible refine gf_ 92 ?_); refine gc_ Tryz.func92 (impl_kidsOk.calls k2 _ _ l0 false _ (sc_ HR0) HC0.out A37.out) ?_; rintro w43 hb; replace HB := am (below_step ab1 hb); (try clear hb)))
        go_ret
        exact ⟨ab7, ab1⟩
theorem z29_0 {q0 p : Prop} (g0 : Aside0 q0) (h : Aside0 q0 → p := by intro g0_; repeat (first | (with_reducible first | exact g0_.out | apply IsS31.alloc | apply IsS31.drewN | apply IsS31.drew | apply IsS31.set_3 | apply IsS31.set_4) | exact g0_.out)) : p := h g0
theorem z29_1 {p : Prop} (h : p := by repeat (first | (with_reducible first | exact HK.out | apply KeepBut.set_ | apply keep_drewN | apply keep_drew | apply keep_alloc) | exact HK.out)) : p := h
theorem z29_2 {p : Prop} (h : p := by repeat (first | (with_reducible first | exact HB.out | apply below_alloc | apply pw_below_drewN | apply below_drew1) | exact HB.out)) : p := h
theorem pl_box {w0 w : World} {g : Nat} {A0_0 : Option Addr} {c0_0 : Nat} {s0_0 : List (S53)} {A0_1 : Option Addr} {c0_1 : Nat} {s0_1 : List Int} {A0_2 : Option Addr} {c0_2 : Nat} {s0_2 : List Int} {s0_3 : Int} {s0_4 : Int} (hg : g = w0.heap.size) (hbox : w.heap[g]? = some (.cells #[.slice A0_0 s0_0.length c0_0, .slice A0_1 s0_1.length c0_1, .slice A0_2 s0_2.length c0_2, .int .i64 s0_3, .int .i64 s0_4] 31 (0, 0))) (_ : Below w0.heap.size w0 w) (hr0_0 : Kd.C k53 w0 A0_0 s0_0.length s0_0) (hc0_0 : s0_0.length ≤ c0_0) (hr0_1 : Kd.C (Kd.int .i64) w0 A0_1 s0_1.length s0_1) (hc0_1 : s0_1.length ≤ c0_1) (hr0_2 : Kd.C (Kd.int .i64) w0 A0_2 s0_2.length s0_2) (hc0_2 : s0_2.length ≤ c0_2) : IsS31 w0 w g s0_0 s0_1 s0_2 s0_3 s0_4 :=
 ⟨A0_0, c0_0, A0_1, c0_1, A0_2, c0_2, hbox, ⟨trivial, hc0_0, hc0_1, hc0_2⟩, hr0_0, hr0_1, hr0_2⟩
def impl_PageOk.ixf (k : Nat) (s0_0 : List (S53)) (s0_1 : List Int) (s0_2 : List Int) (s0_3 : Int) (s0_4 : Int) (a1 : Int) : Option (Int × Int × Int) := (slices_Index_int_int.f k s0_1 a1).bind fun t => some (t, s0_3, s0_4)
def impl_PageOk.trf (k : Nat) (s0_0 : List (S53)) (s0_1 : List Int) (s0_2 : List Int) (s0_3 : Int) (s0_4 : Int) : Option (Bool × Int × Int) := (impl_TreeOk.f k s0_0).bind fun t => some (t, s0_3, s0_4)
theorem impl_PageOk.ix (k : Nat) (g : Nat) (s0_0 : List (S53)) (s0_1 : List Int) (s0_2 : List Int) (s0_3 : Int) (s0_4 : Int) (a1 : Int) (r1 r2 r3 : Int) (w0 w : World) (A : Option Addr) (c : Nat) (hI : IsS31 w0 w g s0_0 s0_1 s0_2 s0_3 s0_4) (hB : Below w0.heap.size w0 w) (hr : Kd.C (Kd.int .i64) w0 A s0_1.length s0_1) (hc : s0_1.length ≤ c) (h : impl_PageOk.ixf k s0_0 s0_1 s0_2 s0_3 s0_4 a1 = some (r1, r2, r3)) :
  Calls Tryz.prog 62 #[.slice A s0_1.length c, .int .i64 a1] w fun e w' => e = .returned (.int .i64 r1) ∧ IsS31 w0 w' g s0_0 s0_1 s0_2 r2 r3 ∧ Below w0.heap.size w0 w' ∧ KeepBut w w' g none := by
 obtain ⟨t, ht, hq⟩ := Option.bind_eq_some_iff.mp h
 obtain ⟨rfl, rfl, rfl⟩ : t = r1 ∧ s0_3 = r2 ∧ s0_4 = r3 := by simpa using hq
 refine (slices_Index_int_int.calls k A c s0_1 a1 t w (Kd.C_below hr hB) hc ht).mono ?_
 rintro e w' ⟨rfl, ⟨n, rfl⟩⟩
 exact ⟨rfl, hI.drewN n, pw_below_drewN hB n, keep_drewN (KeepBut.refl w g none) n⟩
theorem impl_PageOk.tr (k : Nat) (g : Nat) (s0_0 : List (S53)) (s0_1 : List Int) (s0_2 : List Int) (s0_3 : Int) (s0_4 : Int) (r1 : Bool) (r2 r3 : Int) (w0 w : World) (A : Option Addr) (c : Nat) (hI : IsS31 w0 w g s0_0 s0_1 s0_2 s0_3 s0_4) (hB : Below w0.heap.size w0 w) (hr : Kd.C k53 w0 A s0_0.length s0_0) (hc : s0_0.length ≤ c) (h : impl_PageOk.trf k s0_0 s0_1 s0_2 s0_3 s0_4 = some (r1, r2, r3)) :
  Calls Tryz.prog 65 #[.slice A s0_0.length c] w fun e w' => e = .returned (.bool r1) ∧ IsS31 w0 w' g s0_0 s0_1 s0_2 r2 r3 ∧ Below w0.heap.size w0 w' ∧ KeepBut w w' g none := by
 obtain ⟨t, ht, hq⟩ := Option.bind_eq_some_iff.mp h
 obtain ⟨rfl, rfl, rfl⟩ : t = r1 ∧ s0_3 = r2 ∧ s0_4 = r3 := by simpa using hq
 refine (impl_TreeOk.calls k A c s0_0 t w (Kd.C_below hr hB) hc ht).mono ?_
 rintro e w' ⟨rfl, hb⟩
 exact ⟨rfl, hI.below hb, below_step hB hb, KeepBut.of_below hb g none⟩
theorem impl_Page_isTag.stays {s0_0 : List (S53)} {s0_1 s0_2 : List Int} {s0_3 s0_4 a1 : Int} {r1 : Bool} {r2 r3 : Int} (h : impl_Page_isTag.f s0_0 s0_1 s0_2 s0_3 s0_4 a1 = some (r1, r2, r3)) : s0_3 = r2 ∧ s0_4 = r3 := by
 unfold impl_Page_isTag.f at h
 obtain ⟨t, _, h⟩ := Option.bind_eq_some_iff.mp h
 repeat' split at h
 all_goals simp only [Option.some.injEq, Prod.mk.injEq, reduceCtorEq] at h
 all_goals exact ⟨h.2.1, h.2.2⟩
theorem impl_Page_isFormat.stays {s0_0 : List (S53)} {s0_1 s0_2 : List Int} {s0_3 s0_4 a1 : Int} {r1 : Bool} {r2 r3 : Int} (h : impl_Page_isFormat.f s0_0 s0_1 s0_2 s0_3 s0_4 a1 = some (r1, r2, r3)) : s0_3 = r2 ∧ s0_4 = r3 := by
 unfold impl_Page_isFormat.f at h
 obtain ⟨⟨t1, t2, t3⟩, ht, h⟩ := Option.bind_eq_some_iff.mp h
 obtain ⟨rfl, rfl⟩ := impl_Page_isTag.stays ht
 repeat' split at h
 ·obtain ⟨t, _, h⟩ := Option.bind_eq_some_iff.mp h
  simp only [Option.some.injEq, Prod.mk.injEq] at h
  exact ⟨h.2.1, h.2.2⟩
 all_goals simp only [Option.some.injEq, Prod.mk.injEq, reduceCtorEq] at h
 all_goals exact ⟨h.2.1, h.2.2⟩
mutual
def impl_PageOk.l0 : Nat → List Int → Int → Int → List (S53) → List Int → List Int → Int → Int → Option (Bool × Int × Int)
 | 0, _, _, _, _, _, _, _, _ => none
 | k + 1, x8, x9, x10, x1000, x1001, x1002, x1003, x1004 => if x10 < x9 then (if 0 ≤ x10 then (if x10 < (x8.length : Int) then ((impl_Page_isTag.f x1000 x1001 x1002 x1003 x1004 (rd x8 x10)).bind fun bt342 => (if bt342.1 = true then ((impl_PageOk.ixf k x1000 x1001 x1002 bt342.2.1 bt342.2.2 (rd x8 x10)).bind fun bt345 => (if bt345.1 = x10 then (impl_PageOk.l0 k x8 x9 (wrap64 (x10 + 1)) x1000 x1001 x1002 bt345.2.1 bt345.2.2) else (some (false, bt345.2.1, bt345.2.2)))) else (some (false, bt342.2.1, bt342.2.2)))) else (none)) else (none)) else (impl_PageOk.l1 k x1002 (x1002.length : Int) 0 x1000 x1001 x1002 x1003 x1004)
def impl_PageOk.l1 : Nat → List Int → Int → Int → List (S53) → List Int → List Int → Int → Int → Option (Bool × Int × Int)
 | 0, _, _, _, _, _, _, _, _ => none
 | k + 1, x28, x29, x30, x1000, x1001, x1002, x1003, x1004 => if x30 < x29 then (if 0 ≤ x30 then (if x30 < (x28.length : Int) then (if (rd x28 x30) = (-1) then (impl_PageOk.l1 k x28 x29 (wrap64 (x30 + 1)) x1000 x1001 x1002 x1003 x1004) else ((impl_Page_isFormat.f x1000 x1001 x1002 x1003 x1004 (rd x28 x30)).bind fun bt349 => (if bt349.1 = true then (impl_PageOk.l1 k x28 x29 (wrap64 (x30 + 1)) x1000 x1001 x1002 bt349.2.1 bt349.2.2) else (some (false, bt349.2.1, bt349.2.2))))) else (none)) else (none)) else (if (x1001.length : Int) ≤ 40 then (if (x1002.length : Int) ≤ 120 then ((impl_Page_isNamed.f x1000 x1001 x1002 x1003 x1004 x1003 (⟨#[104, 101, 97, 100]⟩ : ByteArray)).bind fun bt352 => (if bt352.1 = true then ((impl_Page_isNamed.f x1000 x1001 x1002 bt352.2.1 bt352.2.2 bt352.2.2 (⟨#[98, 111, 100, 121]⟩ : ByteArray)).bind fun bt355 => (if bt355.1 = true then ((impl_PageOk.trf k x1000 x1001 x1002 bt355.2.1 bt355.2.2).bind fun bt358 => (some (bt358.1, bt358.2.1, bt358.2.2))) else (some (false, bt355.2.1, bt355.2.2)))) else (some (false, bt352.2.1, bt352.2.2)))) else (some (false, x1003, x1004))) else (some (false, x1003, x1004)))
end
def impl_PageOk.gf (k : Nat) (s0_0 : List (S53)) (s0_1 : List Int) (s0_2 : List Int) (s0_3 : Int) (s0_4 : Int) : Option (Bool × Int × Int) := impl_PageOk.l0 k s0_1 (s0_1.length : Int) 0 s0_0 s0_1 s0_2 s0_3 s0_4
theorem impl_PageOk.gcalls (k : Nat) (A0_0 : Option Addr) (c0_0 : Nat) (s0_0 : List (S53)) (A0_1 : Option Addr) (c0_1 : Nat) (s0_1 : List Int) (A0_2 : Option Addr) (c0_2 : Nat) (s0_2 : List Int) (s0_3 : Int) (s0_4 : Int) (r1 : Bool) (r2 : Int) (r3 : Int) (w0 : World) (hr0_0 : Kd.C k53 w0 A0_0 s0_0.length s0_0) (hc0_0 : s0_0.length ≤ c0_0) (hr0_1 : Kd.C (Kd.int .i64) w0 A0_1 s0_1.length s0_1) (hc0_1 : s0_1.length ≤ c0_1) (hr0_2 : Kd.C (Kd.int .i64) w0 A0_2 s0_2.length s0_2) (hc0_2 : s0_2.length ≤ c0_2) (M_ : Int) (hm_ : w0.cell? ⟨0, 0, none⟩ = some (.int .i64 M_)) (h : impl_PageOk.gf k s0_0 s0_1 s0_2 s0_3 s0_4 = some (r1, r2, r3)) :
  Calls Tryz.prog 33 #[.agg #[.slice A0_0 s0_0.length c0_0, .slice A0_1 s0_1.length c0_1, .slice A0_2 s0_2.length c0_2, .int .i64 s0_3, .int .i64 s0_4]] w0 fun e w' => e = .returned (.bool r1) ∧ Below w0.heap.size w0 w' := by
 have HR := am (And.intro hr0_0 (And.intro hc0_0 (And.intro hr0_1 (And.intro hc0_1 (And.intro hr0_2 hc0_2)))))
 have HM := am hm_
 clear hr0_0 hc0_0 hr0_1 hc0_1 hr0_2 hc0_2 hm_
 have H : (impl_PageOk.l0 k s0_1 (s0_1.length : Int) 0 s0_0 s0_1 s0_2 s0_3 s0_4) = some (r1, r2, r3) := h
 clear h
 have H' := am H
 clear H
 go_enter Tryz.func33, Tryz.ntmps33
 go_wp2_with (first | ((with_reducible refine gd_ 1 ?_); refine bx_ 1 (cs := #[.slice A0_0 s0_0.length c0_0, .slice A0_1 s0_1.length c0_1, .slice A0_2 s0_2.length c0_2, .int .i64 s0_3, .int .i64 s0_4]) 31 ?_; intro g hg w hbox hb; have HI0 := am (pl_box hg hbox hb HR.out.1 HR.out.2.1 HR.out.2.2.1 HR.out.2.2.2.1 HR.out.2.2.2.2.1 HR.out.2.2.2.2.2); have HB := am hb; have HK := am (KeepBut.refl w g none); have HM_ := am HM.out; have HL := am hb.size; have HW0 := am hb.size; obtain ⟨⟨_, _, _, _, _⟩, _, _, _, _, _⟩ := Op.cells5 hbox; clear hb hbox hg; skip))
 go_loopg [10] k (fun kq v10 w' => ∃ (x10_1 : Int) (x1003_1 : Int) (x1004_1 : Int), v10 = .int .i64 x10_1 ∧ Aside0 (impl_PageOk.l0 kq s0_1 (s0_1.length : Int) x10_1 s0_0 s0_1 s0_2 x1003_1 x1004_1 = some (r1, r2, r3)) ∧ Aside0 (kq ≤ k) ∧ Aside0 (IsS31 w0 w' g s0_0 s0_1 s0_2 x1003_1 x1004_1) ∧ Aside0 (KeepBut w w' g none) ∧ Aside0 (Below w0.heap.size w0 w'))
 case atStart => exact ⟨(0), (s0_3), (s0_4), ab6, H', ⟨Nat.le_refl _⟩, ⟨z29_0 HI0⟩, ⟨z29_1⟩, ⟨ab1⟩⟩
 case round =>
  clear H'
  (try clear p2); (try clear hcz2_0); (try clear hcz2_1); (try clear hcz2_2); (try clear hcz2_3); (try clear hcz2_4); (try clear hfz2_3); (try clear hfz2_4)
  obtain ⟨x10_1, x1003_1, x1004_1, rfl, HA, HK1, HI0, HK, HB⟩ := hrel
  cases gk with
  | zero => exact absurd HA.out (by simp [impl_PageOk.l0])
  | succ k1 =>
   have H := HA.out
   clear HA
   simp only [impl_PageOk.l0] at H
   replace H := ir_ H; rcases H with ⟨c3b0, H⟩ | ⟨c3b0, H⟩
   ·replace H := iq_ H; obtain ⟨c4b0, H⟩ := H
    replace H := iq_ H; obtain ⟨c5b0, H⟩ := H
    replace H := Option.bind_eq_some_iff.mp H
    obtain ⟨⟨t342, t343, t344⟩, A60, H⟩ := H
    try dsimp only at H
    have A6 := am A60
    clear A60
    replace H := ib_ H; rcases H with ⟨rfl, H⟩ | ⟨rfl, H⟩
    ·replace H := Option.bind_eq_some_iff.mp H
     obtain ⟨⟨t345, t346, t347⟩, A80, H⟩ := H
     try dsimp only at H
     have A8 := am A80
     clear A80
     replace H := ie_ H; rcases H with ⟨c9b0, c9b1, H⟩ | ⟨c9, c9b0, c9b1, H⟩
     ·have H' := am H
      clear H
      obtain ⟨ASz10_0, cSz10_0, ASz10_1, cSz10_1, ASz10_2, cSz10_2, HGz10, hgz10, HSz10_0, HSz10_1, HSz10_2⟩ := HI0.out
      obtain ⟨⟨_, _, _, _, _⟩, _, _, _, _, _⟩ := Op.cells5 HGz10
      clear HGz10 hgz10
      have p341 : 0 ≤ (x10_1 : Int) := of_decide_eq_true ab4
      have q341 : x10_1 < (s0_1.length : Int) := of_decide_eq_true ab4
      obtain ⟨ad341, e341, hx341_0⟩ := Kd.at_int HR.out.2.2.1 x10_1 p341 q341
      cases e341
      replace hx341_0 := pc_ HB hx341_0
      replace p341 := eq_true p341
      replace q341 := eq_true q341
      go_wp2_with (first | ((with_reducible refine gf_ 61 ?_); refine gc_ Tryz.func61 (impl_Page_isTag.calls g s0_0 s0_1 s0_2 x1003_1 x1004_1 (rd s0_1 x10_1) true t343 t344 w0 _ ?side1 ?side2 A6.out) ?_; (case side1 => exact (z29_0 HI0)); (case side2 => exact (z29_2)); rintro w11 ⟨hi, hb, hk⟩; replace HK := am (KeepBut.trans (z29_1) hk (.inl rfl)); replace HB := am hb; replace HI0 := am hi; (try clear hb); (try clear hk); (try clear hi); obtain ⟨ASz12_0, cSz12_0, ASz12_1, cSz12_1, ASz12_2, cSz12_2, HGz12, hgz12, HSz12_0, HSz12_1, HSz12_2⟩ := HI0.out; obtain ⟨⟨_, _, _, _, _⟩, _, _, _, _, _⟩ := Op.cells5 HGz12; clear HGz12) | (go_at_call 62; (with_reducible refine (impl_PageOk.ix k1 g s0_0 s0_1 s0_2 t343 t344 (rd s0_1 x10_1) t345 t346 t347 w0 _ ASz12_1 cSz12_1 ?side1 ?side2 HSz12_1 hgz12.2.2.1 A8.out).mono ?_); (case side1 => exact (z29_0 HI0)); (case side2 => exact (z29_2)); rintro e w13 ⟨rfl, hi, hb, hk⟩; replace HK := am (KeepBut.trans (z29_1) hk (.inl rfl)); replace HB := am hb; replace HI0 := am hi; (try clear hb); (try clear hk); (try clear hi)))
      go_roundg k1
      case measure => have := HK1.out; omega
      case rel => exact ⟨(wrap64 (x10_1 + 1)), (t346), (t347), ab6, H', ⟨by have := HK1.out; omega⟩, ⟨z29_0 HI0⟩, ⟨z29_1⟩, ⟨ab1⟩⟩
     ·simp only [Option.some.injEq, Prod.mk.injEq] at H
      obtain ⟨rfl, rfl, rfl⟩ := H
      obtain ⟨ASz14_0, cSz14_0, ASz14_1, cSz14_1, ASz14_2, cSz14_2, HGz14, hgz14, HSz14_0, HSz14_1, HSz14_2⟩ := HI0.out
      obtain ⟨⟨_, _, _, _, _⟩, _, _, _, _, _⟩ := Op.cells5 HGz14
      clear HGz14 hgz14
      have p341 : 0 ≤ (x10_1 : Int) := of_decide_eq_true ab4
      have q341 : x10_1 < (s0_1.length : Int) := of_decide_eq_true ab4
      obtain ⟨ad341, e341, hx341_0⟩ := Kd.at_int HR.out.2.2.1 x10_1 p341 q341
      cases e341
      replace hx341_0 := pc_ HB hx341_0
      replace p341 := eq_true p341
      replace q341 := eq_true q341
      go_wp2_with (first | ((with_reducible refine gf_ 61 ?_); refine gc_ Tryz.func61 (impl_Page_isTag.calls g s0_0 s0_1 s0_2 x1003_1 x1004_1 (rd s0_1 x10_1) true t343 t344 w0 _ ?side1 ?side2 A6.out) ?_; (case side1 => exact (z29_0 HI0)); (case side2 => exact (z29_2)); rintro w15 ⟨hi, hb, hk⟩; replace HK := am (KeepBut.trans (z29_1) hk (.inl rfl)); replace HB := am hb; replace HI0 := am hi; (try clear hb); (try clear hk); (try clear hi); obtain ⟨ASz16_0, cSz16_0, ASz16_1, cSz16_1, ASz16_2, cSz16_2, HGz16, hgz16, HSz16_0, HSz16_1, HSz16_2⟩ := HI0.out; obtain ⟨⟨_, _, _, _, _⟩, _, _, _, _, _⟩ := Op.cells5 HGz16; clear HGz16) | (go_at_call 62; (with_reducible refine (impl_PageOk.ix k1 g s0_0 s0_1 s0_2 t343 t344 (rd s0_1 x10_1) t345 t346 t347 w0 _ ASz16_1 cSz16_1 ?side1 ?side2 HSz16_1 hgz16.2.2.1 A8.out).mono ?_); (case side1 => exact (z29_0 HI0)); (case side2 => exact (z29_2)); rintro e w17 ⟨rfl, hi, hb, hk⟩; replace HK := am (KeepBut.trans (z29_1) hk (.inl rfl)); replace HB := am hb; replace HI0 := am hi; (try clear hb); (try clear hk); (try clear hi)))
      go_ret
      exact ⟨ab7, ab1⟩
    ·simp only [Option.some.injEq, Prod.mk.injEq] at H
     obtain ⟨rfl, rfl, rfl⟩ := H
     obtain ⟨ASz18_0, cSz18_0, ASz18_1, cSz18_1, ASz18_2, cSz18_2, HGz18, hgz18, HSz18_0, HSz18_1, HSz18_2⟩ := HI0.out
     obtain ⟨⟨_, _, _, _, _⟩, _, _, _, _, _⟩ := Op.cells5 HGz18
     clear HGz18 hgz18
     have p341 : 0 ≤ (x10_1 : Int) := of_decide_eq_true ab4
     have q341 : x10_1 < (s0_1.length : Int) := of_decide_eq_true ab4
     obtain ⟨ad341, e341, hx341_0⟩ := Kd.at_int HR.out.2.2.1 x10_1 p341 q341
     cases e341
     replace hx341_0 := pc_ HB hx341_0
     replace p341 := eq_true p341
     replace q341 := eq_true q341
     go_wp2_with (first | ((with_reducible refine gf_ 61 ?_); refine gc_ Tryz.func61 (impl_Page_isTag.calls g s0_0 s0_1 s0_2 x1003_1 x1004_1 (rd s0_1 x10_1) false t343 t344 w0 _ ?side1 ?side2 A6.out) ?_; (case side1 => exact (z29_0 HI0)); (case side2 => exact (z29_2)); rintro w19 ⟨hi, hb, hk⟩; replace HK := am (KeepBut.trans (z29_1) hk (.inl rfl)); replace HB := am hb; replace HI0 := am hi; (try clear hb); (try clear hk); (try clear hi)))
     go_ret
     exact ⟨ab7, ab1⟩
   ·have H' := am H
    clear H
    obtain ⟨ASz20_0, cSz20_0, ASz20_1, cSz20_1, ASz20_2, cSz20_2, HGz20, hgz20, HSz20_0, HSz20_1, HSz20_2⟩ := HI0.out
    obtain ⟨⟨_, _, _, _, _⟩, _, _, _, _, _⟩ := Op.cells5 HGz20
    clear HGz20 hgz20
    go_wp2
    go_loopg [30] k1 (fun kq v30 w' => ∃ (x30_2 : Int), v30 = .int .i64 x30_2 ∧ Aside0 (impl_PageOk.l1 kq s0_2 (s0_2.length : Int) x30_2 s0_0 s0_1 s0_2 x1003_1 x1004_1 = some (r1, r2, r3)) ∧ Aside0 (kq ≤ k1) ∧ Aside0 (IsS31 w0 w' g s0_0 s0_1 s0_2 x1003_1 x1004_1) ∧ Aside0 (KeepBut w w' g none) ∧ Aside0 (Below w0.heap.size w0 w'))
    case atStart => exact ⟨(0), ab6, H', ⟨Nat.le_refl _⟩, ⟨z29_0 HI0⟩, ⟨z29_1⟩, ⟨ab1⟩⟩
    case round =>
     clear H'
     (try clear p2); (try clear c3); (try clear c3b0); (try clear p3); (try clear q3); (try clear hx3); (try clear c4); (try clear c4b0); (try clear c5); (try clear c5b0); (try clear p6); (try clear c7); (try clear c9); (try clear c9b0); (try clear c9b1); (try clear hcz10_0); (try clear hcz10_1); (try clear hcz10_2); (try clear hcz10_3); (try clear hcz10_4); (try clear hcz12_0); (try clear hcz12_1); (try clear hcz12_2); (try clear hcz12_3); (try clear hcz12_4); (try clear hcz14_0); (try clear hcz14_1); (try clear hcz14_2); (try clear hcz14_3); (try clear hcz14_4); (try clear hcz16_0); (try clear hcz16_1); (try clear hcz16_2); (try clear hcz16_3); (try clear hcz16_4); (try clear hcz18_0); (try clear hcz18_1); (try clear hcz18_2); (try clear hcz18_3); (try clear hcz18_4); (try clear hcz20_0); (try clear hcz20_1); (try clear hcz20_2); (try clear hcz20_3); (try clear hcz20_4); (try clear hcz2_0); (try clear hcz2_1); (try clear hcz2_2); (try clear hcz2_3); (try clear hcz2_4); (try clear hfz10_3); (try clear hfz10_4); (try clear hfz12_3); (try clear hfz12_4); (try clear hfz14_3); (try clear hfz14_4); (try clear hfz16_3); (try clear hfz16_4); (try clear hfz18_3); (try clear hfz18_4); (try clear hfz20_3); (try clear hfz20_4); (try clear hfz2_3); (try clear hfz2_4); (try clear hx341_0); (try clear p2); (try clear p341); (try clear q341)
     obtain ⟨x30_2, rfl, HA, HK2, HI0, HK, HB⟩ := hrel
     cases gk with
     | zero => exact absurd HA.out (by simp [impl_PageOk.l1])
     | succ k2 =>
      have H := HA.out
      clear HA
      simp only [impl_PageOk.l1] at H
      replace H := ir_ H; rcases H with ⟨c21b0, H⟩ | ⟨c21b0, H⟩
      ·replace H := iq_ H; obtain ⟨c22b0, H⟩ := H
       replace H := iq_ H; obtain ⟨c23b0, H⟩ := H
       replace H := ie_ H; rcases H with ⟨c24b0, c24b1, H⟩ | ⟨c24, c24b0, c24b1, H⟩
       ·have H' := am H
        clear H
        obtain ⟨ASz25_0, cSz25_0, ASz25_1, cSz25_1, ASz25_2, cSz25_2, HGz25, hgz25, HSz25_0, HSz25_1, HSz25_2⟩ := HI0.out
        obtain ⟨⟨_, _, _, _, _⟩, _, _, _, _, _⟩ := Op.cells5 HGz25
        clear HGz25 hgz25
        have p348 : 0 ≤ (x30_2 : Int) := of_decide_eq_true ab4
        have q348 : x30_2 < (s0_2.length : Int) := of_decide_eq_true ab4
        obtain ⟨ad348, e348, hx348_0⟩ := Kd.at_int HSz20_2 x30_2 p348 q348
        cases e348
        replace hx348_0 := pc_ HB hx348_0
        replace p348 := eq_true p348
        replace q348 := eq_true q348
        go_wp2
        go_roundg k2
        case measure => have := HK1.out; have := HK2.out; omega
        case rel => exact ⟨(wrap64 (x30_2 + 1)), ab6, H', ⟨by have := HK1.out; have := HK2.out; omega⟩, ⟨z29_0 HI0⟩, ⟨z29_1⟩, ⟨ab1⟩⟩
       ·replace H := Option.bind_eq_some_iff.mp H
        obtain ⟨⟨t349, t350, t351⟩, A260, H⟩ := H
        obtain ⟨rfl, rfl⟩ := impl_Page_isFormat.stays A260
        try dsimp only at H
        have A26 := am A260
        clear A260
        replace H := ib_ H; rcases H with ⟨rfl, H⟩ | ⟨rfl, H⟩
        ·have H' := am H
         clear H
         obtain ⟨ASz28_0, cSz28_0, ASz28_1, cSz28_1, ASz28_2, cSz28_2, HGz28, hgz28, HSz28_0, HSz28_1, HSz28_2⟩ := HI0.out
         obtain ⟨⟨_, _, _, _, _⟩, _, _, _, _, _⟩ := Op.cells5 HGz28
         clear HGz28 hgz28
         have p348 : 0 ≤ (x30_2 : Int) := of_decide_eq_true ab4
         have q348 : x30_2 < (s0_2.length : Int) := of_decide_eq_true ab4
         obtain ⟨ad348, e348, hx348_0⟩ := Kd.at_int HSz20_2 x30_2 p348 q348
         cases e348
         replace hx348_0 := pc_ HB hx348_0
         replace p348 := eq_true p348
         replace q348 := eq_true q348
         go_wp2_with (first | (go_at_call 63; (with_reducible refine (impl_Page_isFormat.calls g s0_0 s0_1 s0_2 x1003_1 x1004_1 (rd s0_2 x30_2) true x1003_1 x1004_1 w0 _ ?side1 ?side2 M_ HM_.out A26.out).mono ?_); (case side1 => exact (z29_0 HI0)); (case side2 => exact (z29_2)); rintro e w29 ⟨rfl, hi, hb, hk⟩; replace HK := am (KeepBut.trans (z29_1) hk (.inl rfl)); replace HB := am hb; replace HI0 := am hi; (try clear hb); (try clear hk); (try clear hi)))
         go_roundg k2
         case measure => have := HK1.out; have := HK2.out; omega
         case rel => exact ⟨(wrap64 (x30_2 + 1)), ab6, H', ⟨by have := HK1.out; have := HK2.out; omega⟩, ⟨z29_0 HI0⟩, ⟨z29_1⟩, ⟨ab1⟩⟩
        ·simp only [Option.some.injEq, Prod.mk.injEq] at H
         obtain ⟨rfl, rfl, rfl⟩ := H
         obtain ⟨ASz30_0, cSz30_0, ASz30_1, cSz30_1, ASz30_2, cSz30_2, HGz30, hgz30, HSz30_0, HSz30_1, HSz30_2⟩ := HI0.out
         obtain ⟨⟨_, _, _, _, _⟩, _, _, _, _, _⟩ := Op.cells5 HGz30
         clear HGz30 hgz30
         have p348 : 0 ≤ (x30_2 : Int) := of_decide_eq_true ab4
         have q348 : x30_2 < (s0_2.length : Int) := of_decide_eq_true ab4
         obtain ⟨ad348, e348, hx348_0⟩ := Kd.at_int HSz20_2 x30_2 p348 q348
         cases e348
         replace hx348_0 := pc_ HB hx348_0
         replace p348 := eq_true p348
         replace q348 := eq_true q348
         go_wp2_with (first | (go_at_call 63; (with_reducible refine (impl_Page_isFormat.calls g s0_0 s0_1 s0_2 x1003_1 x1004_1 (rd s0_2 x30_2) false x1003_1 x1004_1 w0 _ ?side1 ?side2 M_ HM_.out A26.out).mono ?_); (case side1 => exact (z29_0 HI0)); (case side2 => exact (z29_2)); rintro e w31 ⟨rfl, hi, hb, hk⟩; replace HK := am (KeepBut.trans (z29_1) hk (.inl rfl)); replace HB := am hb; replace HI0 := am hi; (try clear hb); (try clear hk); (try clear hi)))
         go_ret
         exact ⟨ab7, ab1⟩
      ·by_cases c32 : (s0_1.length : Int) ≤ 40
       ·rw [if_pos c32] at H
        have c32b0 := decide_eq_true c32
        have c32b1 : decide (s0_1.length ≤ 40) = true := decide_eq_true (by omega)
        clear c32
        by_cases c33 : (s0_2.length : Int) ≤ 120
        ·rw [if_pos c33] at H
         have c33b0 := decide_eq_true c33
         have c33b1 : decide (s0_2.length ≤ 120) = true := decide_eq_true (by omega)
         clear c33
         replace H := Option.bind_eq_some_iff.mp H
         obtain ⟨⟨t352, t353, t354⟩, A340, H⟩ := H
         try dsimp only at H
         have A34 := am A340
         clear A340
         replace H := ib_ H; rcases H with ⟨rfl, H⟩ | ⟨rfl, H⟩
         ·replace H := Option.bind_eq_some_iff.mp H
          obtain ⟨⟨t355, t356, t357⟩, A360, H⟩ := H
          try dsimp only at H
          have A36 := am A360
          clear A360
          replace H := ib_ H; rcases H with ⟨rfl, H⟩ | ⟨rfl, H⟩
          ·replace H := Option.bind_eq_some_iff.mp H
           obtain ⟨⟨t358, t359, t360⟩, A380, H⟩ := H
           try dsimp only at H
           have A38 := am A380
           clear A380
           simp only [Option.some.injEq, Prod.mk.injEq] at H
           obtain ⟨rfl, rfl, rfl⟩ := H
           obtain ⟨ASz39_0, cSz39_0, ASz39_1, cSz39_1, ASz39_2, cSz39_2, HGz39, hgz39, HSz39_0, HSz39_1, HSz39_2⟩ := HI0.out
           obtain ⟨⟨_, _, _, _, _⟩, _, _, _, _, _⟩ := Op.cells5 HGz39
           clear HGz39 hgz39
           go_wp2_with (first | (go_at_call 64; (with_reducible refine (impl_Page_isNamed.calls g s0_0 s0_1 s0_2 x1003_1 x1004_1 x1003_1 (⟨#[104, 101, 97, 100]⟩ : ByteArray) true t353 t354 w0 _ ?side1 ?side2 A34.out).mono ?_); (case side1 => exact (z29_0 HI0)); (case side2 => exact (z29_2)); rintro e w40 ⟨rfl, hi, hb, hk⟩; replace HK := am (KeepBut.trans (z29_1) hk (.inl rfl)); replace HB := am hb; replace HI0 := am hi; (try clear hb); (try clear hk); (try clear hi); obtain ⟨ASz41_0, cSz41_0, ASz41_1, cSz41_1, ASz41_2, cSz41_2, HGz41, hgz41, HSz41_0, HSz41_1, HSz41_2⟩ := HI0.out; obtain ⟨⟨_, _, _, _, _⟩, _, _, _, _, _⟩ := Op.cells5 HGz41; clear HGz41 hgz41) | (go_at_call 64; (with_reducible refine (impl_Page_isNamed.calls g s0_0 s0_1 s0_2 t353 t354 t354 (⟨#[98, 111, 100, 121]⟩ : ByteArray) true t356 t357 w0 _ ?side1 ?side2 A36.out).mono ?_); (case side1 => exact (z29_0 HI0)); (case side2 => exact (z29_2)); rintro e w42 ⟨rfl, hi, hb, hk⟩; replace HK := am (KeepBut.trans (z29_1) hk (.inl rfl)); replace HB := am hb; replace HI0 := am hi; (try clear hb); (try clear hk); (try clear hi); obtain ⟨ASz43_0, cSz43_0, ASz43_1, cSz43_1, ASz43_2, cSz43_2, HGz43, hgz43, HSz43_0, HSz43_1, HSz43_2⟩ := HI0.out; obtain ⟨⟨_, _, _, _, _⟩, _, _, _, _, _⟩ := Op.cells5 HGz43; clear HGz43) | (go_at_call 65; (with_reducible refine (impl_PageOk.tr k2 g s0_0 s0_1 s0_2 t356 t357 t358 t359 t360 w0 _ ASz43_0 cSz43_0 ?side1 ?side2 HSz43_0 hgz43.2.1 A38.out).mono ?_); (case side1 => exact (z29_0 HI0)); (case side2 => exact (z29_2)); rintro e w44 ⟨rfl, hi, hb, hk⟩; replace HK := am (KeepBut.trans (z29_1) hk (.inl rfl)); replace HB := am hb; replace HI0 := am hi; (try clear hb); (try clear hk); (try clear hi)))
           go_ret
           exact ⟨ab7, ab1⟩
          ·simp only [Option.some.injEq, Prod.mk.injEq] at H
           obtain ⟨rfl, rfl, rfl⟩ := H
           obtain ⟨ASz45_0, cSz45_0, ASz45_1, cSz45_1, ASz45_2, cSz45_2, HGz45, hgz45, HSz45_0, HSz45_1, HSz45_2⟩ := HI0.out
           obtain ⟨⟨_, _, _, _, _⟩, _, _, _, _, _⟩ := Op.cells5 HGz45
           clear HGz45 hgz45
           go_wp2_with (first | (go_at_call 64; (with_reducible refine (impl_Page_isNamed.calls g s0_0 s0_1 s0_2 x1003_1 x1004_1 x1003_1 (⟨#[104, 101, 97, 100]⟩ : ByteArray) true t353 t354 w0 _ ?side1 ?side2 A34.out).mono ?_); (case side1 => exact (z29_0 HI0)); (case side2 => exact (z29_2)); rintro e w46 ⟨rfl, hi, hb, hk⟩; replace HK := am (KeepBut.trans (z29_1) hk (.inl rfl)); replace HB := am hb; replace HI0 := am hi; (try clear hb); (try clear hk); (try clear hi); obtain ⟨ASz47_0, cSz47_0, ASz47_1, cSz47_1, ASz47_2, cSz47_2, HGz47, hgz47, HSz47_0, HSz47_1, HSz47_2⟩ := HI0.out; obtain ⟨⟨_, _, _, _, _⟩, _, _, _, _, _⟩ := Op.cells5 HGz47; clear HGz47 hgz47) | (go_at_call 64; (with_reducible refine (impl_Page_isNamed.calls g s0_0 s0_1 s0_2 t353 t354 t354 (⟨#[98, 111, 100, 121]⟩ : ByteArray) false t356 t357 w0 _ ?side1 ?side2 A36.out).mono ?_); (case side1 => exact (z29_0 HI0)); (case side2 => exact (z29_2)); rintro e w48 ⟨rfl, hi, hb, hk⟩; replace HK := am (KeepBut.trans (z29_1) hk (.inl rfl)); replace HB := am hb; replace HI0 := am hi; (try clear hb); (try clear hk); (try clear hi)))
           go_ret
           exact ⟨ab7, ab1⟩
         ·simp only [Option.some.injEq, Prod.mk.injEq] at H
          obtain ⟨rfl, rfl, rfl⟩ := H
          obtain ⟨ASz49_0, cSz49_0, ASz49_1, cSz49_1, ASz49_2, cSz49_2, HGz49, hgz49, HSz49_0, HSz49_1, HSz49_2⟩ := HI0.out
          obtain ⟨⟨_, _, _, _, _⟩, _, _, _, _, _⟩ := Op.cells5 HGz49
          clear HGz49 hgz49
          go_wp2_with (first | (go_at_call 64; (with_reducible refine (impl_Page_isNamed.calls g s0_0 s0_1 s0_2 x1003_1 x1004_1 x1003_1 (⟨#[104, 101, 97, 100]⟩ : ByteArray) false t353 t354 w0 _ ?side1 ?side2 A34.out).mono ?_); (case side1 => exact (z29_0 HI0)); (case side2 => exact (z29_2)); rintro e w50 ⟨rfl, hi, hb, hk⟩; replace HK := am (KeepBut.trans (z29_1) hk (.inl rfl)); replace HB := am hb; replace HI0 := am hi; (try clear hb); (try clear hk); (try clear hi)))
          go_ret
          exact ⟨ab7, ab1⟩
        ·rw [if_neg c33] at H
         have c33b0 := decide_eq_false c33
         have c33b1 : decide (s0_2.length ≤ 120) = false := decide_eq_false (by omega)
         clear c33
         simp only [Option.some.injEq, Prod.mk.injEq] at H
         obtain ⟨rfl, rfl, rfl⟩ := H
         obtain ⟨ASz51_0, cSz51_0, ASz51_1, cSz51_1, ASz51_2, cSz51_2, HGz51, hgz51, HSz51_0, HSz51_1, HSz51_2⟩ := HI0.out
         obtain ⟨⟨_, _, _, _, _⟩, _, _, _, _, _⟩ := Op.cells5 HGz51
         clear HGz51 hgz51
         go_wp2
         go_ret
         exact ⟨ab7, ab1⟩
       ·rw [if_neg c32] at H
        have c32b0 := decide_eq_false c32
        have c32b1 : decide (s0_1.length ≤ 40) = false := decide_eq_false (by omega)
        clear c32
        simp only [Option.some.injEq, Prod.mk.injEq] at H
        obtain ⟨rfl, rfl, rfl⟩ := H
        obtain ⟨ASz52_0, cSz52_0, ASz52_1, cSz52_1, ASz52_2, cSz52_2, HGz52, hgz52, HSz52_0, HSz52_1, HSz52_2⟩ := HI0.out
        obtain ⟨⟨_, _, _, _, _⟩, _, _, _, _, _⟩ := Op.cells5 HGz52
        clear HGz52 hgz52
        go_wp2
        go_ret
        exact ⟨ab7, ab1⟩
def impl_PageOk.f (k : Nat) (s0_0 : List (S53)) (s0_1 : List Int) (s0_2 : List Int) (s0_3 : Int) (s0_4 : Int) : Option Bool := (impl_PageOk.gf k s0_0 s0_1 s0_2 s0_3 s0_4).bind fun t => some t.1
theorem impl_PageOk.calls (k : Nat) (A0_0 : Option Addr) (c0_0 : Nat) (s0_0 : List (S53)) (A0_1 : Option Addr) (c0_1 : Nat) (s0_1 : List Int) (A0_2 : Option Addr) (c0_2 : Nat) (s0_2 : List Int) (s0_3 : Int) (s0_4 : Int) (r : Bool) (w0 : World) (hr0_0 : Kd.C k53 w0 A0_0 s0_0.length s0_0) (hc0_0 : s0_0.length ≤ c0_0) (hr0_1 : Kd.C (Kd.int .i64) w0 A0_1 s0_1.length s0_1) (hc0_1 : s0_1.length ≤ c0_1) (hr0_2 : Kd.C (Kd.int .i64) w0 A0_2 s0_2.length s0_2) (hc0_2 : s0_2.length ≤ c0_2) (M_ : Int) (hm_ : w0.cell? ⟨0, 0, none⟩ = some (.int .i64 M_)) (h : impl_PageOk.f k s0_0 s0_1 s0_2 s0_3 s0_4 = some r) :
  Calls Tryz.prog 33 #[.agg #[.slice A0_0 s0_0.length c0_0, .slice A0_1 s0_1.length c0_1, .slice A0_2 s0_2.length c0_2, .int .i64 s0_3, .int .i64 s0_4]] w0 fun e w' => e = .returned (.bool r) ∧ Below w0.heap.size w0 w' := by
 obtain ⟨⟨t1, t2, t3⟩, ht, hq⟩ := Option.bind_eq_some_iff.mp h
 obtain rfl : t1 = r := by simpa using hq
 exact impl_PageOk.gcalls k A0_0 c0_0 s0_0 A0_1 c0_1 s0_1 A0_2 c0_2 s0_2 s0_3 s0_4 t1 t2 t3 w0 hr0_0 hc0_0 hr0_1 hc0_1 hr0_2 hc0_2 M_ hm_ ht
def impl_Page_hasRoom.f (s0_0 : List (S53)) (s0_1 : List Int) (s0_2 : List Int) (s0_3 : Int) (s0_4 : Int) : Option (Bool × Int × Int) := some (decide ((s0_0.length : Int) < 3000), s0_3, s0_4)
theorem impl_Page_hasRoom.calls (g : Nat) (s0_0 : List (S53)) (s0_1 : List Int) (s0_2 : List Int) (s0_3 : Int) (s0_4 : Int) (r1 : Bool) (r2 : Int) (r3 : Int) (w0 w : World) (hI : IsS31 w0 w g s0_0 s0_1 s0_2 s0_3 s0_4) (hB : Below w0.heap.size w0 w) (h : impl_Page_hasRoom.f s0_0 s0_1 s0_2 s0_3 s0_4 = some (r1, r2, r3)) :
  Calls Tryz.prog 97 #[.pointer (some ⟨g, 0, none⟩)] w fun e w' => e = .returned (.bool r1) ∧ IsS31 w0 w' g s0_0 s0_1 s0_2 r2 r3 ∧ Below w0.heap.size w0 w' ∧ KeepBut w w' g none := by
 have HI0 := am hI
 have HK := am (KeepBut.refl w g none)
 have HL := am hB.size
 clear hI
 have HW0 := am hB.size
 have HB := am hB
 clear hB
 have H : (some (decide ((s0_0.length : Int) < 3000), s0_3, s0_4)) = some (r1, r2, r3) := h
 clear h
 simp only [Option.some.injEq, Prod.mk.injEq] at H
 obtain ⟨rfl, rfl, rfl⟩ := H
 obtain ⟨ASz2_0, cSz2_0, ASz2_1, cSz2_1, ASz2_2, cSz2_2, HGz2, hgz2, HSz2_0, HSz2_1, HSz2_2⟩ := HI0.out
 obtain ⟨⟨_, _, _, _, _⟩, _, _, _, _, _⟩ := Op.cells5 HGz2
 clear HGz2 hgz2
 go_enter Tryz.func97, Tryz.ntmps97
 go_wp2
 go_ret
 exact ⟨ab7, by repeat (first | (with_reducible first | exact HI0.out | apply IsS31.alloc | apply IsS31.drewN | apply IsS31.drew | apply IsS31.set_3 | apply IsS31.set_4) | exact HI0.out), ab1, by repeat (first | (with_reducible first | exact HK.out | apply KeepBut.set_ | apply keep_drewN | apply keep_drew | apply keep_alloc) | exact HK.out)⟩
def slices_Contains_int_int.f (k : Nat) (l0 : List Int) (a1 : Int) : Option (Bool) := (slices_Index_int_int.f k l0 a1).bind fun t522 => (some (decide (t522 ≥ 0)))
theorem slices_Contains_int_int.calls (k : Nat) (A0 : Option Addr) (c0 : Nat) (l0 : List Int) (a1 : Int) (r : Bool) (w : World) (hr0 : Kd.C (Kd.int .i64) w A0 l0.length l0) (hc0 : l0.length ≤ c0) (h : slices_Contains_int_int.f k l0 a1 = some r) :
  Calls Tryz.prog 71 #[.slice A0 l0.length c0, .int .i64 a1] w fun e w' => e = .returned (.bool r) ∧ Drawn0 w w' := by
 have HR0 := am hr0
 have HC0 := am hc0
 clear hr0 hc0
 have H : ((slices_Index_int_int.f k l0 a1).bind fun t522 => (some (decide (t522 ≥ 0)))) = some r := h
 clear h
 replace H := bi_ H; obtain ⟨t522, A3, H⟩ := H
 obtain rfl := Option.some.inj H
 go_enter Tryz.func71, Tryz.ntmps71
 go_wp2_with (first | ((with_reducible refine gf_ 62 ?_); refine gc_ Tryz.func62 (slices_Index_int_int.calls k _ _ l0 a1 t522 _ ?side1 HC0.out A3.out) ?_; (case side1 => exact (by repeat (first | exact HR0.out | (with_reducible refine Kd.C_alloc ?_ _) | (with_reducible refine Kd.C_drewN ?_ _) | (with_reducible refine Kd.C_drew ?_)))); rintro w' ⟨nd, rfl⟩))
 go_ret
 exact ⟨ab6, by repeat (first | exact Drawn0.refl _ | apply Drawn0.step)⟩
theorem z30_0 {q0 p : Prop} (g0 : Aside0 q0) (h : Aside0 q0 → p := by intro g0_; repeat (first | (with_reducible first | exact g0_.out | apply IsS31.alloc | apply IsS31.drewN | apply IsS31.drew | apply IsS31.set_3 | apply IsS31.set_4) | exact g0_.out)) : p := h g0
theorem z30_1 {p : Prop} (h : p := by repeat (first | (with_reducible first | exact HK.out | apply KeepBut.set_ | apply keep_drewN | apply keep_drew | apply keep_alloc) | exact HK.out)) : p := h
def impl_Page_nameOf.f (s0_0 : List (S53)) (s0_1 : List Int) (s0_2 : List Int) (s0_3 : Int) (s0_4 : Int) (a1 : Int) : Option (ByteArray × Int × Int) := if 0 ≤ a1 then (if a1 < (s0_1.length : Int) then ((impl_inRange.f (rd s0_1 a1) 0 (wrap64 ((s0_0.length : Int) - 1))).bind fun t483 => (if t483 = true then (if 0 ≤ (rd s0_1 a1) then (if (rd s0_1 a1) < (s0_0.length : Int) then (some ((rd_T53 s0_0 (rd s0_1 a1)).f2, s0_3, s0_4)) else (none)) else (none)) else (some ((⟨#[]⟩ : ByteArray), s0_3, s0_4)))) else (none)) else (none)
theorem impl_Page_nameOf.calls (g : Nat) (s0_0 : List (S53)) (s0_1 : List Int) (s0_2 : List Int) (s0_3 : Int) (s0_4 : Int) (a1 : Int) (r1 : ByteArray) (r2 : Int) (r3 : Int) (w0 w : World) (hI : IsS31 w0 w g s0_0 s0_1 s0_2 s0_3 s0_4) (hB : Below w0.heap.size w0 w) (h : impl_Page_nameOf.f s0_0 s0_1 s0_2 s0_3 s0_4 a1 = some (r1, r2, r3)) :
  Calls Tryz.prog 114 #[.pointer (some ⟨g, 0, none⟩), .int .i64 a1] w fun e w' => e = .returned (.string r1) ∧ IsS31 w0 w' g s0_0 s0_1 s0_2 r2 r3 ∧ Below w0.heap.size w0 w' ∧ KeepBut w w' g none := by
 have HI0 := am hI
 have HK := am (KeepBut.refl w g none)
 have HL := am hB.size
 clear hI
 have HW0 := am hB.size
 have HB := am hB
 clear hB
 have H : (if 0 ≤ a1 then (if a1 < (s0_1.length : Int) then ((impl_inRange.f (rd s0_1 a1) 0 (wrap64 ((s0_0.length : Int) - 1))).bind fun t483 => (if t483 = true then (if 0 ≤ (rd s0_1 a1) then (if (rd s0_1 a1) < (s0_0.length : Int) then (some ((rd_T53 s0_0 (rd s0_1 a1)).f2, s0_3, s0_4)) else (none)) else (none)) else (some ((⟨#[]⟩ : ByteArray), s0_3, s0_4)))) else (none)) else (none)) = some (r1, r2, r3) := h
 clear h
 replace H := iq_ H; obtain ⟨c3b0, H⟩ := H
 replace H := iq_ H; obtain ⟨c4b0, H⟩ := H
 replace H := bi_ H; obtain ⟨t483, A5, H⟩ := H
 replace H := ib_ H; rcases H with ⟨rfl, H⟩ | ⟨rfl, H⟩
 ·replace H := iq_ H; obtain ⟨c7b0, H⟩ := H
  replace H := iq_ H; obtain ⟨c8b0, H⟩ := H
  simp only [Option.some.injEq, Prod.mk.injEq] at H
  obtain ⟨rfl, rfl, rfl⟩ := H
  obtain ⟨ASz9_0, cSz9_0, ASz9_1, cSz9_1, ASz9_2, cSz9_2, HGz9, hgz9, HSz9_0, HSz9_1, HSz9_2⟩ := HI0.out
  obtain ⟨⟨_, _, _, _, _⟩, _, _, _, _, _⟩ := Op.cells5 HGz9
  clear HGz9 hgz9
  have p482 : 0 ≤ (a1 : Int) := of_decide_eq_true ab4
  have q482 : a1 < (s0_1.length : Int) := of_decide_eq_true ab4
  obtain ⟨ad482, e482, hx482_0⟩ := Kd.at_int HSz9_1 a1 p482 q482
  cases e482
  replace hx482_0 := pc_ HB hx482_0
  replace p482 := eq_true p482
  replace q482 := eq_true q482
  have p484 : 0 ≤ (a1 : Int) := of_decide_eq_true ab4; have q484 : a1 < (s0_1.length : Int) := of_decide_eq_true ab4; obtain ⟨ad484, e484, hx484_0⟩ := Kd.at_int HSz9_1 a1 p484 q484; obtain rfl : ad482 = ad484 := (by injection e484); replace hx484_0 := pc_ HB hx484_0; replace p484 := eq_true p484; replace q484 := eq_true q484; have p485 : 0 ≤ ((rd s0_1 a1) : Int) := of_decide_eq_true ab4; have q485 : (rd s0_1 a1) < (s0_0.length : Int) := of_decide_eq_true ab4; obtain ⟨ad485, A485_3, c485_3, A485_6, c485_6, e485, hx485_0, hx485_1, hx485_2, hx485_3, hx485_4, hx485_5, hx485_6, hl485_3, hi485_3, hl485_6, hi485_6⟩ := at_T53 HSz9_0 (rd s0_1 a1) p485 q485; cases e485; replace hx485_0 := pc_ HB hx485_0; replace hx485_1 := pc_ HB hx485_1; replace hx485_2 := pc_ HB hx485_2; replace hx485_3 := pc_ HB hx485_3; replace hx485_4 := pc_ HB hx485_4; replace hx485_5 := pc_ HB hx485_5; replace hx485_6 := pc_ HB hx485_6; have HR485_3 := am hi485_3; have HC485_3 := am hl485_3; clear hi485_3 hl485_3; have HR485_6 := am hi485_6; have HC485_6 := am hl485_6; clear hi485_6 hl485_6; replace p485 := eq_true p485; replace q485 := eq_true q485
  go_enter Tryz.func114, Tryz.ntmps114
  go_wp2_with (first | (go_at_call 87; (with_reducible refine (impl_inRange.calls (rd s0_1 a1) 0 (wrap64 ((s0_0.length : Int) - 1)) true _ A5.out).mono ?_); rintro e w' ⟨rfl, ⟨nd, rfl⟩⟩; (try first | exact ⟨rfl, _, World.drewN_drewN _ _ _⟩ | exact ⟨rfl, _, Eq.trans (World.drewN_drewN _ _ _) (congrArg (World.drewN _) (Nat.add_assoc _ _ _))⟩)))
  repeat (go_quiet (first | (go_at_call 87; (with_reducible refine (impl_inRange.calls (rd s0_1 a1) 0 (wrap64 ((s0_0.length : Int) - 1)) true _ A5.out).mono ?_); rintro e w' ⟨rfl, ⟨nd, rfl⟩⟩; (try first | exact ⟨rfl, _, World.drewN_drewN _ _ _⟩ | exact ⟨rfl, _, Eq.trans (World.drewN_drewN _ _ _) (congrArg (World.drewN _) (Nat.add_assoc _ _ _))⟩))); try go_wp2_with (first | (go_at_call 87; (with_reducible refine (impl_inRange.calls (rd s0_1 a1) 0 (wrap64 ((s0_0.length : Int) - 1)) true _ A5.out).mono ?_); rintro e w' ⟨rfl, ⟨nd, rfl⟩⟩; (try first | exact ⟨rfl, _, World.drewN_drewN _ _ _⟩ | exact ⟨rfl, _, Eq.trans (World.drewN_drewN _ _ _) (congrArg (World.drewN _) (Nat.add_assoc _ _ _))⟩))))
  go_ret
  exact ⟨ab7, (z30_0 HI0), ab1, z30_1⟩
 ·simp only [Option.some.injEq, Prod.mk.injEq] at H
  obtain ⟨rfl, rfl, rfl⟩ := H
  obtain ⟨ASz10_0, cSz10_0, ASz10_1, cSz10_1, ASz10_2, cSz10_2, HGz10, hgz10, HSz10_0, HSz10_1, HSz10_2⟩ := HI0.out
  obtain ⟨⟨_, _, _, _, _⟩, _, _, _, _, _⟩ := Op.cells5 HGz10
  clear HGz10 hgz10
  have p482 : 0 ≤ (a1 : Int) := of_decide_eq_true ab4
  have q482 : a1 < (s0_1.length : Int) := of_decide_eq_true ab4
  obtain ⟨ad482, e482, hx482_0⟩ := Kd.at_int HSz10_1 a1 p482 q482
  cases e482
  replace hx482_0 := pc_ HB hx482_0
  replace p482 := eq_true p482
  replace q482 := eq_true q482
  go_enter Tryz.func114, Tryz.ntmps114
  go_wp2_with (first | (go_at_call 87; (with_reducible refine (impl_inRange.calls (rd s0_1 a1) 0 (wrap64 ((s0_0.length : Int) - 1)) false _ A5.out).mono ?_); rintro e w' ⟨rfl, ⟨nd, rfl⟩⟩; (try first | exact ⟨rfl, _, World.drewN_drewN _ _ _⟩ | exact ⟨rfl, _, Eq.trans (World.drewN_drewN _ _ _) (congrArg (World.drewN _) (Nat.add_assoc _ _ _))⟩)))
  repeat (go_quiet (first | (go_at_call 87; (with_reducible refine (impl_inRange.calls (rd s0_1 a1) 0 (wrap64 ((s0_0.length : Int) - 1)) false _ A5.out).mono ?_); rintro e w' ⟨rfl, ⟨nd, rfl⟩⟩; (try first | exact ⟨rfl, _, World.drewN_drewN _ _ _⟩ | exact ⟨rfl, _, Eq.trans (World.drewN_drewN _ _ _) (congrArg (World.drewN _) (Nat.add_assoc _ _ _))⟩))); try go_wp2_with (first | (go_at_call 87; (with_reducible refine (impl_inRange.calls (rd s0_1 a1) 0 (wrap64 ((s0_0.length : Int) - 1)) false _ A5.out).mono ?_); rintro e w' ⟨rfl, ⟨nd, rfl⟩⟩; (try first | exact ⟨rfl, _, World.drewN_drewN _ _ _⟩ | exact ⟨rfl, _, Eq.trans (World.drewN_drewN _ _ _) (congrArg (World.drewN _) (Nat.add_assoc _ _ _))⟩))))
  go_ret
  exact ⟨ab7, (z30_0 HI0), ab1, z30_1⟩
def impl_Page_lastName.f (s0_0 : List (S53)) (s0_1 : List Int) (s0_2 : List Int) (s0_3 : Int) (s0_4 : Int) : Option (ByteArray × Int × Int) := if (s0_1.length : Int) = 0 then (some ((⟨#[]⟩ : ByteArray), s0_3, s0_4)) else ((impl_Page_nameOf.f s0_0 s0_1 s0_2 s0_3 s0_4 (wrap64 ((s0_1.length : Int) - 1))).bind fun bt486 => (some (bt486.1, bt486.2.1, bt486.2.2)))
theorem impl_Page_lastName.calls (g : Nat) (s0_0 : List (S53)) (s0_1 : List Int) (s0_2 : List Int) (s0_3 : Int) (s0_4 : Int) (r1 : ByteArray) (r2 : Int) (r3 : Int) (w0 w : World) (hI : IsS31 w0 w g s0_0 s0_1 s0_2 s0_3 s0_4) (hB : Below w0.heap.size w0 w) (h : impl_Page_lastName.f s0_0 s0_1 s0_2 s0_3 s0_4 = some (r1, r2, r3)) :
  Calls Tryz.prog 108 #[.pointer (some ⟨g, 0, none⟩)] w fun e w' => e = .returned (.string r1) ∧ IsS31 w0 w' g s0_0 s0_1 s0_2 r2 r3 ∧ Below w0.heap.size w0 w' ∧ KeepBut w w' g none := by
 have HI0 := am hI
 have HK := am (KeepBut.refl w g none)
 have HL := am hB.size
 clear hI
 have HW0 := am hB.size
 have HB := am hB
 clear hB
 have H : (if (s0_1.length : Int) = 0 then (some ((⟨#[]⟩ : ByteArray), s0_3, s0_4)) else ((impl_Page_nameOf.f s0_0 s0_1 s0_2 s0_3 s0_4 (wrap64 ((s0_1.length : Int) - 1))).bind fun bt486 => (some (bt486.1, bt486.2.1, bt486.2.2)))) = some (r1, r2, r3) := h
 clear h
 replace H := ie_ H; rcases H with ⟨c2b0, c2b1, H⟩ | ⟨c2, c2b0, c2b1, H⟩
 ·simp only [Option.some.injEq, Prod.mk.injEq] at H
  obtain ⟨rfl, rfl, rfl⟩ := H
  obtain ⟨ASz3_0, cSz3_0, ASz3_1, cSz3_1, ASz3_2, cSz3_2, HGz3, hgz3, HSz3_0, HSz3_1, HSz3_2⟩ := HI0.out
  obtain ⟨⟨_, _, _, _, _⟩, _, _, _, _, _⟩ := Op.cells5 HGz3
  clear HGz3 hgz3
  go_enter Tryz.func108, Tryz.ntmps108
  go_wp2
  go_ret
  exact ⟨ab7, (z30_0 HI0), ab1, z30_1⟩
 ·have c2b2 : ¬ (s0_1 = []) := fun h_ => c2 (by rw [h_]; rfl)
  replace H := Option.bind_eq_some_iff.mp H
  obtain ⟨⟨t486, t487, t488⟩, A40, H⟩ := H
  try dsimp only at H
  have A4 := am A40
  clear A40
  simp only [Option.some.injEq, Prod.mk.injEq] at H
  obtain ⟨rfl, rfl, rfl⟩ := H
  obtain ⟨ASz5_0, cSz5_0, ASz5_1, cSz5_1, ASz5_2, cSz5_2, HGz5, hgz5, HSz5_0, HSz5_1, HSz5_2⟩ := HI0.out
  obtain ⟨⟨_, _, _, _, _⟩, _, _, _, _, _⟩ := Op.cells5 HGz5
  clear HGz5 hgz5
  go_enter Tryz.func108, Tryz.ntmps108
  go_wp2_with (first | ((with_reducible refine gf_ 114 ?_); refine gc_ Tryz.func114 (impl_Page_nameOf.calls g s0_0 s0_1 s0_2 s0_3 s0_4 (wrap64 ((s0_1.length : Int) - 1)) t486 t487 t488 w0 _ ?side1 ?side2 A4.out) ?_; (case side1 => exact (z30_0 HI0)); (case side2 => exact (by repeat (first | (with_reducible first | exact HB.out | apply below_alloc | apply pw_below_drewN | apply below_drew1) | exact HB.out))); rintro w6 ⟨hi, hb, hk⟩; replace HK := am (KeepBut.trans (z30_1) hk (.inl rfl)); replace HB := am hb; replace HI0 := am hi; (try clear hb); (try clear hk); (try clear hi)))
  go_ret
  exact ⟨ab7, (z30_0 HI0), ab1, z30_1⟩
def impl_Page_inTable.f (s0_0 : List (S53)) (s0_1 : List Int) (s0_2 : List Int) (s0_3 : Int) (s0_4 : Int) : Option (Bool × Int × Int) := (impl_Page_lastName.f s0_0 s0_1 s0_2 s0_3 s0_4).bind fun bt489 => ((impl_isOneOf.f bt489.1 (⟨#[116, 97, 98, 108, 101, 32, 116, 98, 111, 100, 121, 32, 116, 114]⟩ : ByteArray)).bind fun t492 => (some (t492, bt489.2.1, bt489.2.2)))
theorem impl_Page_inTable.calls (g : Nat) (s0_0 : List (S53)) (s0_1 : List Int) (s0_2 : List Int) (s0_3 : Int) (s0_4 : Int) (r1 : Bool) (r2 : Int) (r3 : Int) (w0 w : World) (hI : IsS31 w0 w g s0_0 s0_1 s0_2 s0_3 s0_4) (hB : Below w0.heap.size w0 w) (M_ : Int) (hm_ : w0.cell? ⟨0, 0, none⟩ = some (.int .i64 M_)) (h : impl_Page_inTable.f s0_0 s0_1 s0_2 s0_3 s0_4 = some (r1, r2, r3)) :
  Calls Tryz.prog 94 #[.pointer (some ⟨g, 0, none⟩)] w fun e w' => e = .returned (.bool r1) ∧ IsS31 w0 w' g s0_0 s0_1 s0_2 r2 r3 ∧ Below w0.heap.size w0 w' ∧ KeepBut w w' g none := by
 have HI0 := am hI
 have HK := am (KeepBut.refl w g none)
 have HL := am hB.size
 clear hI
 have HW0 := am hB.size
 have HB := am hB
 clear hB
 have HM_ := am hm_
 clear hm_
 have H : ((impl_Page_lastName.f s0_0 s0_1 s0_2 s0_3 s0_4).bind fun bt489 => ((impl_isOneOf.f bt489.1 (⟨#[116, 97, 98, 108, 101, 32, 116, 98, 111, 100, 121, 32, 116, 114]⟩ : ByteArray)).bind fun t492 => (some (t492, bt489.2.1, bt489.2.2)))) = some (r1, r2, r3) := h
 clear h
 replace H := Option.bind_eq_some_iff.mp H
 obtain ⟨⟨t489, t490, t491⟩, A20, H⟩ := H
 try dsimp only at H
 have A2 := am A20
 clear A20
 replace H := bi_ H; obtain ⟨t492, A3, H⟩ := H
 simp only [Option.some.injEq, Prod.mk.injEq] at H
 obtain ⟨rfl, rfl, rfl⟩ := H
 go_enter Tryz.func94, Tryz.ntmps94
 go_wp2_with (first | ((with_reducible refine gf_ 108 ?_); refine gc_ Tryz.func108 (impl_Page_lastName.calls g s0_0 s0_1 s0_2 s0_3 s0_4 t489 t490 t491 w0 _ ?side1 ?side2 A2.out) ?_; (case side1 => exact (z30_0 HI0)); (case side2 => exact (by repeat (first | (with_reducible first | exact HB.out | apply below_alloc | apply pw_below_drewN | apply below_drew1) | exact HB.out))); rintro w4 ⟨hi, hb, hk⟩; replace HK := am (KeepBut.trans (z30_1) hk (.inl rfl)); replace HB := am hb; replace HI0 := am hi; (try clear hb); (try clear hk); (try clear hi)) | ((with_reducible refine gf_ 106 ?_); refine gc_ Tryz.func106 (impl_isOneOf.calls t489 (⟨#[116, 97, 98, 108, 101, 32, 116, 98, 111, 100, 121, 32, 116, 114]⟩ : ByteArray) t492 _ M_ (pw_cell_below ab1 HM_.out) A3.out) ?_; rintro w' ⟨nd, rfl⟩))
 go_ret
 exact ⟨ab7, (z30_0 HI0), ab1, z30_1⟩
def impl_Page_last.f (s0_0 : List (S53)) (s0_1 : List Int) (s0_2 : List Int) (s0_3 : Int) (s0_4 : Int) : Option (Int × Int × Int) := if (s0_1.length : Int) = 0 then (some (0, s0_3, s0_4)) else (if 0 ≤ (wrap64 ((s0_1.length : Int) - 1)) then (if (wrap64 ((s0_1.length : Int) - 1)) < (s0_1.length : Int) then (some (rd s0_1 (wrap64 ((s0_1.length : Int) - 1)), s0_3, s0_4)) else (none)) else (none))
theorem impl_Page_last.calls (g : Nat) (s0_0 : List (S53)) (s0_1 : List Int) (s0_2 : List Int) (s0_3 : Int) (s0_4 : Int) (r1 : Int) (r2 : Int) (r3 : Int) (w0 w : World) (hI : IsS31 w0 w g s0_0 s0_1 s0_2 s0_3 s0_4) (hB : Below w0.heap.size w0 w) (h : impl_Page_last.f s0_0 s0_1 s0_2 s0_3 s0_4 = some (r1, r2, r3)) :
  Calls Tryz.prog 95 #[.pointer (some ⟨g, 0, none⟩)] w fun e w' => e = .returned (.int .i64 r1) ∧ IsS31 w0 w' g s0_0 s0_1 s0_2 r2 r3 ∧ Below w0.heap.size w0 w' ∧ KeepBut w w' g none := by
 have HI0 := am hI
 have HK := am (KeepBut.refl w g none)
 have HL := am hB.size
 clear hI
 have HW0 := am hB.size
 have HB := am hB
 clear hB
 have H : (if (s0_1.length : Int) = 0 then (some (0, s0_3, s0_4)) else (if 0 ≤ (wrap64 ((s0_1.length : Int) - 1)) then (if (wrap64 ((s0_1.length : Int) - 1)) < (s0_1.length : Int) then (some (rd s0_1 (wrap64 ((s0_1.length : Int) - 1)), s0_3, s0_4)) else (none)) else (none))) = some (r1, r2, r3) := h
 clear h
 replace H := ie_ H; rcases H with ⟨c2b0, c2b1, H⟩ | ⟨c2, c2b0, c2b1, H⟩
 ·simp only [Option.some.injEq, Prod.mk.injEq] at H
  obtain ⟨rfl, rfl, rfl⟩ := H
  obtain ⟨ASz3_0, cSz3_0, ASz3_1, cSz3_1, ASz3_2, cSz3_2, HGz3, hgz3, HSz3_0, HSz3_1, HSz3_2⟩ := HI0.out
  obtain ⟨⟨_, _, _, _, _⟩, _, _, _, _, _⟩ := Op.cells5 HGz3
  clear HGz3 hgz3
  go_enter Tryz.func95, Tryz.ntmps95
  go_wp2
  repeat (go_quiet (fail); try go_wp2)
  go_ret
  exact ⟨ab7, (z30_0 HI0), ab1, z30_1⟩
 ·have c2b2 : ¬ (s0_1 = []) := fun h_ => c2 (by rw [h_]; rfl)
  obtain ⟨ji4, hji4⟩ : ∃ j_ : Int, (wrap64 ((s0_1.length : Int) - 1)) = j_ := ⟨_, rfl⟩
  replace H : (if 0 ≤ (ji4) then (if (ji4) < (s0_1.length : Int) then (some (rd s0_1 (ji4), s0_3, s0_4)) else (none)) else (none)) = some (r1, r2, r3) := by first | (rw [hji4] at H; exact H) | (simp only [hji4] at H ⊢; exact H)
  have hji4w : (IntKind.i64.wrap ((s0_1.length : Int) - 1)) = ji4 := (i64_w _).trans hji4
  replace H := iq_ H; obtain ⟨c5b0, H⟩ := H
  replace H := iq_ H; obtain ⟨c6b0, H⟩ := H
  simp only [Option.some.injEq, Prod.mk.injEq] at H
  obtain ⟨rfl, rfl, rfl⟩ := H
  obtain ⟨ASz7_0, cSz7_0, ASz7_1, cSz7_1, ASz7_2, cSz7_2, HGz7, hgz7, HSz7_0, HSz7_1, HSz7_2⟩ := HI0.out
  obtain ⟨⟨_, _, _, _, _⟩, _, _, _, _, _⟩ := Op.cells5 HGz7
  clear HGz7 hgz7
  have p493 : 0 ≤ ((ji4) : Int) := of_decide_eq_true ab4
  have q493 : (ji4) < (s0_1.length : Int) := of_decide_eq_true ab4
  obtain ⟨ad493, e493, hx493_0⟩ := Kd.at_int HSz7_1 (ji4) p493 q493
  cases e493
  replace hx493_0 := pc_ HB hx493_0
  replace p493 := eq_true p493
  replace q493 := eq_true q493
  go_enter Tryz.func95, Tryz.ntmps95
  go_wp2
  repeat (go_quiet (fail); try go_wp2)
  go_ret
  exact ⟨by first | rfl | (simp [errW_none, errW_some] <;> rfl) | (simp only [← hji4]; first | rfl | (simp [errW_none, errW_some] <;> rfl)) | (simp [*, errW_none, errW_some] <;> rfl), (z30_0 HI0), ab1, z30_1⟩
theorem z31_0 {q0 p : Prop} (g0 : Aside0 q0) (h : Aside0 q0 → p := by intro g0_; repeat (first | (with_reducible first | exact g0_.out | apply IsS31.alloc | apply IsS31.drewN | apply IsS31.drew | apply IsS31.set_3 | apply IsS31.set_4) | exact g0_.out)) : p := h g0
theorem z31_1 {p : Prop} (h : p := by repeat (first | (with_reducible first | exact HK.out | apply KeepBut.set_ | apply keep_drewN | apply keep_drew | apply keep_alloc) | exact HK.out)) : p := h
theorem z31_2 {p : Prop} (h : p := by repeat (first | (with_reducible first | exact HB.out | apply below_alloc | apply pw_below_drewN | apply below_drew1) | exact HB.out)) : p := h
def impl_Page_openAt (name : ByteArray) (s0_0 : List (S53)) (s0_1 : List Int) (s0_2 : List Int) (s0_3 : Int) (s0_4 : Int) : Nat → Option Int
 | 0 => some (-1)
 | j + 1 => (impl_Page_nameOf.f s0_0 s0_1 s0_2 s0_3 s0_4 (j : Int)).bind fun t => if t.1.toList == name.toList then some (j : Int) else impl_Page_openAt name s0_0 s0_1 s0_2 s0_3 s0_4 j
theorem impl_Page_nameOf.stays {s0_0 : List (S53)} {s0_1 : List Int} {s0_2 : List Int} {s0_3 : Int} {s0_4 : Int} {a1 : Int} {r1 : ByteArray} {r2 r3 : Int} (h : impl_Page_nameOf.f s0_0 s0_1 s0_2 s0_3 s0_4 a1 = some (r1, r2, r3)) : r2 = s0_3 ∧ r3 = s0_4 := by
 unfold impl_Page_nameOf.f at h
 split at h
 ·split at h
  ·obtain ⟨t, _, h⟩ := Option.bind_eq_some_iff.mp h
   repeat' split at h
   all_goals simp only [Option.some.injEq, Prod.mk.injEq, reduceCtorEq] at h
   all_goals exact ⟨h.2.1.symm, h.2.2.symm⟩
  ·exact absurd h (by simp)
 ·exact absurd h (by simp)
def impl_Page_tableOpen.f (s0_0 : List (S53)) (s0_1 : List Int) (s0_2 : List Int) (s0_3 : Int) (s0_4 : Int) : Option (Int × Int × Int) := (impl_Page_openAt (⟨#[116, 97, 98, 108, 101]⟩ : ByteArray) s0_0 s0_1 s0_2 s0_3 s0_4 s0_1.length).bind fun t => some (t, s0_3, s0_4)
theorem lit_isName (n name : ByteArray) (b : Nat) (q : Bool) (w : World) (hq : (n.toList == name.toList) = q) (hc : w.cell? ⟨b, 0, none⟩ = some (.string name)) :
  Calls Tryz.prog 118 #[.string n, .pointer (some ⟨b, 0, none⟩)] w fun e w' => e = .returned (.bool q) ∧ Below w.heap.size w w' := by
 subst hq
 have HB := am (Below.refl w.heap.size w)
 go_enter Tryz.func118, Tryz.ntmps118
 go_wp2
 go_ret
 exact ⟨rfl, ab1⟩
theorem impl_isName.calls (name : ByteArray) (w : World) :
  Calls Tryz.prog 110 #[.string name] w fun e w' => ∃ b, e = .returned (.func (.func 118) #[] #[.pointer (some ⟨b, 0, none⟩)]) ∧ w'.heap[b]? = some (.cells #[.string name] 9 (0, 0)) ∧ Below w.heap.size w w' := by
 have HB := am (Below.refl w.heap.size w)
 go_enter Tryz.func110, Tryz.ntmps110
 go_wp2_with (first | ((with_reducible refine gd_ 1 ?_); refine bx_ 1 (cs := #[.string name]) 9 ?_; intro g hg w1 hbox hb; have BK := am hbox; have n0_ := am hb; clear HB; have HB := n0_; clear n0_ hb hbox hg; skip))
 go_ret
 exact ⟨_, rfl, BK.out, ab1⟩
theorem impl_Page_innermost.calls (name : ByteArray) (b : Nat) (g : Nat) (s0_0 : List (S53)) (s0_1 : List Int) (s0_2 : List Int) (s0_3 : Int) (s0_4 : Int) (r : Int) (w0 w : World) (hI : IsS31 w0 w g s0_0 s0_1 s0_2 s0_3 s0_4) (hB : Below w0.heap.size w0 w) (hb : w.heap[b]? = some (.cells #[.string name] 9 (0, 0))) (h : impl_Page_openAt name s0_0 s0_1 s0_2 s0_3 s0_4 s0_1.length = some r) :
  Calls Tryz.prog 109 #[.pointer (some ⟨g, 0, none⟩), .func (.func 118) #[] #[.pointer (some ⟨b, 0, none⟩)]] w fun e w' => e = .returned (.int .i64 r) ∧ IsS31 w0 w' g s0_0 s0_1 s0_2 s0_3 s0_4 ∧ Below w0.heap.size w0 w' ∧ KeepBut w w' g none := by
 have HI0 := am hI
 have HB := am hB
 have HK := am (KeepBut.refl w g none)
 have HBK := am hb
 have HNE := am (hI.ne_blk hb (by decide))
 have HA := am h
 clear hI hB hb h
 obtain ⟨A0, c0, A1, c1, A2, c2, hG, hgz, hR0, hR1, hR2⟩ := HI0.out
 have hlen : s0_1.length ≤ 9223372036854775807 := by have := hR1.2.1; omega
 have HLEN := am hlen
 have hcz_1 := cellS31_1 hG
 clear hG hgz hR0 hR1 hR2
 go_enter Tryz.func109, Tryz.ntmps109
 go_wp2
 go_loopw [5] (fun v5 wr => ∃ (j : Nat), v5 = .int .i64 ((j : Int) - 1) ∧ Aside0 (j ≤ s0_1.length) ∧ Aside0 (impl_Page_openAt name s0_0 s0_1 s0_2 s0_3 s0_4 j = some r) ∧ Aside0 (IsS31 w0 wr g s0_0 s0_1 s0_2 s0_3 s0_4) ∧ Aside0 (Below w0.heap.size w0 wr) ∧ Aside0 (KeepBut w wr g none)) (fun v5 _ => (intOf v5 + 1).toNat)
 case atStart => exact ⟨s0_1.length, by go_num, ⟨Nat.le_refl _⟩, HA, ⟨z31_0 HI0⟩, ⟨ab1⟩, ⟨z31_1⟩⟩
 case round =>
  clear hcz_1 HI0 HB HK HA
  obtain ⟨j, rfl, HJ, HA, HI0, HB, HK⟩ := hrel
  cases j with
  | zero =>
   have HE := am (Option.some.inj HA.out)
   go_wp2
   go_ret
   exact ⟨by rw [← HE.out]; rfl, (z31_0 HI0), ab1, z31_1⟩
  | succ j =>
   have hA := HA.out
   unfold impl_Page_openAt at hA
   obtain ⟨⟨t1, t2, t3⟩, ht, hA⟩ := Option.bind_eq_some_iff.mp hA
   obtain ⟨rfl, rfl⟩ := impl_Page_nameOf.stays ht
   have HT := am ht
   clear ht HA
   have hj : ((j + 1 : Nat) : Int) - 1 = (j : Int) := by omega
   simp only [hj]
   have hcb := fun (w1 : World) (hk : KeepBut w w1 g none) => (blk_cell ((hk.2 b (Array.getElem?_eq_some_iff.mp HBK.out).1 (fun h => HNE.out h.symm) (by simp)).trans HBK.out) 0).trans (rfl : _ = some (Value.string name))
   have HCB := am hcb
   clear hcb
   by_cases hq : (t1.toList == name.toList) = true
   ·rw [if_pos hq] at hA
    have HE := am (Option.some.inj hA)
    have HQ := am hq
    clear hA hq
    go_wp2_with (first | (go_at_call 114; (with_reducible refine (impl_Page_nameOf.calls g s0_0 s0_1 s0_2 t2 t3 (j : Int) t1 t2 t3 w0 _ ?side1 ?side2 HT.out).mono ?_); (case side1 => exact (z31_0 HI0)); (case side2 => exact z31_2); rintro e w1 ⟨rfl, hi, hb, hk⟩; have n0_ := am (KeepBut.trans (z31_1) hk (.inl rfl)); clear HK HB HI0; have HK := n0_; have HB := am hb; have HI0 := am hi; clear n0_ hi hb hk) | (go_at_call 118; (with_reducible refine (lit_isName t1 name b true _ HQ.out (HCB.out _ (z31_1))).mono ?_); rintro e w2 ⟨rfl, hb⟩; have n0_ := am (KeepBut.trans (z31_1) (KeepBut.of_below hb g none) (.inl rfl)); have n1_ := am (below_step ab1 hb); have n2_ := am (IsS31.below (z31_0 HI0) hb); clear HK HB HI0; have HK := n0_; have HB := n1_; have HI0 := n2_; clear n0_ n1_ n2_ hb))
    go_ret
    exact ⟨by rw [← HE.out]; rfl, (z31_0 HI0), ab1, z31_1⟩
   ·rw [if_neg hq] at hA
    have HE := am hA
    have HQ := am (Bool.eq_false_iff.mpr hq)
    clear hA hq
    go_wp2_with (first | (go_at_call 114; (with_reducible refine (impl_Page_nameOf.calls g s0_0 s0_1 s0_2 t2 t3 (j : Int) t1 t2 t3 w0 _ ?side1 ?side2 HT.out).mono ?_); (case side1 => exact (z31_0 HI0)); (case side2 => exact z31_2); rintro e w1 ⟨rfl, hi, hb, hk⟩; have n0_ := am (KeepBut.trans (z31_1) hk (.inl rfl)); clear HK HB HI0; have HK := n0_; have HB := am hb; have HI0 := am hi; clear n0_ hi hb hk) | (go_at_call 118; (with_reducible refine (lit_isName t1 name b false _ HQ.out (HCB.out _ (z31_1))).mono ?_); rintro e w2 ⟨rfl, hb⟩; have n0_ := am (KeepBut.trans (z31_1) (KeepBut.of_below hb g none) (.inl rfl)); have n1_ := am (below_step ab1 hb); have n2_ := am (IsS31.below (z31_0 HI0) hb); clear HK HB HI0; have HK := n0_; have HB := n1_; have HI0 := n2_; clear n0_ n1_ n2_ hb))
    have hw : wrap64 ((j : Int) - 1) = (j : Int) - 1 := by have := HJ.out; have := HLEN.out; unfold wrap64; omega
    go_roundw
    case rel => exact ⟨j, by rw [hw], ⟨by have := HJ.out; omega⟩, HE, ⟨z31_0 HI0⟩, ⟨ab1⟩, ⟨z31_1⟩⟩
    case measure => rw [hw]; simp [intOf]
theorem impl_Page_tableOpen.calls (g : Nat) (s0_0 : List (S53)) (s0_1 : List Int) (s0_2 : List Int) (s0_3 : Int) (s0_4 : Int) (r1 r2 r3 : Int) (w0 w : World) (hI : IsS31 w0 w g s0_0 s0_1 s0_2 s0_3 s0_4) (hB : Below w0.heap.size w0 w) (h : impl_Page_tableOpen.f s0_0 s0_1 s0_2 s0_3 s0_4 = some (r1, r2, r3)) :
  Calls Tryz.prog 96 #[.pointer (some ⟨g, 0, none⟩)] w fun e w' => e = .returned (.int .i64 r1) ∧ IsS31 w0 w' g s0_0 s0_1 s0_2 r2 r3 ∧ Below w0.heap.size w0 w' ∧ KeepBut w w' g none := by
 obtain ⟨t, ht, hq⟩ := Option.bind_eq_some_iff.mp h
 obtain ⟨rfl, rfl, rfl⟩ : t = r1 ∧ s0_3 = r2 ∧ s0_4 = r3 := by simpa using hq
 clear h hq
 have HI0 := am hI
 have HB := am hB
 have HK := am (KeepBut.refl w g none)
 have HT := am ht
 clear hI hB ht
 go_enter Tryz.func96, Tryz.ntmps96
 go_wp2_with (first | (go_at_call 110; (refine (impl_isName.calls (⟨#[116, 97, 98, 108, 101]⟩ : ByteArray) _).mono ?_); rintro e w1 ⟨b, rfl, hbk, hb⟩; have HBK := am hbk; have n0_ := am (KeepBut.trans (z31_1) (KeepBut.of_below hb g none) (.inl rfl)); have n1_ := am (below_step ab1 hb); have n2_ := am (IsS31.below (z31_0 HI0) hb); clear HK HB HI0; have HK := n0_; have HB := n1_; have HI0 := n2_; clear n0_ n1_ n2_ hb hbk) | (go_at_call 109; (refine (impl_Page_innermost.calls (⟨#[116, 97, 98, 108, 101]⟩ : ByteArray) _ g s0_0 s0_1 s0_2 s0_3 s0_4 t w0 _ ?side1 ?side2 HBK.out HT.out).mono ?_); (case side1 => exact (z31_0 HI0)); (case side2 => exact z31_2); rintro e w2 ⟨rfl, hi, hb, hk⟩; have n0_ := am (KeepBut.trans (z31_1) hk (.inl rfl)); clear HK HB HI0; have HK := n0_; have HB := am hb; have HI0 := am hi; clear n0_ hi hb hk))
 go_ret
 exact ⟨rfl, (z31_0 HI0), ab1, z31_1⟩
end Go.Proofs.YtekkalnafngfeaaGreat.P
