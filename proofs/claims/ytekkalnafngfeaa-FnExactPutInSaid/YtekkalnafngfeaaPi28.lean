-- WRITTEN BY this session's own programs
import Derived.Test.YtekkalnafngfeaaPi16
import Derived.Test.YtekkalnafngfeaaPi33
import Derived.Test.YtekkalnafngfeaaPi24
namespace Go.Proofs.Ytekkalnafngfeaa.P
open Go Go.RowKit Go.Proofs.YtekkalnafngfeaaW.PrintWords Go.Proofs.YtekkalnafngfeaaW.PrintLast Go.Proofs.YtekkalnafngfeaaW.PrintMore
set_option linter.unusedVariables false
set_option linter.unusedSimpArgs false
set_option maxHeartbeats 8000000
set_option maxRecDepth 100000
attribute [local go_sem] max2_int min2_int max_two min_two max_three min_three max_four min_four
def laws_markPage.f (k : Nat) (s0 : List S38) (s1 s2 : List Int) (a1 : Int) : Option (Int × List S38 × List Int × List Int) :=
 (laws_markItemS.g k s0 a1).bind fun t => (laws_markIntS.f k s1 t.1).bind fun u => (laws_markIntS.f k s2 u.1).bind fun v => some (v.1, t.2, u.2, v.2)
theorem laws_markPage.calls (k : Nat) (U : Nat → Prop) (v0 v1 v2 : Value) (s0 : List S38) (s1 s2 : List Int) (h b a1 : Int) (r : Int) (r0 : List S38) (r1 r2 : List Int) (w0 w : World) (hB : Below w0.heap.size w0 w) (hO : OwnP w w0.heap.size U v0 v1 v2 s0 s1 s2) (H : laws_markPage.f k s0 s1 s2 a1 = some (r, r0, r1, r2)) :
  Calls Try.prog 12 #[.agg #[v0, v1, v2, .int .i64 h, .int .i64 b], .int .i64 a1] w fun e w' => e = .returned (.int .i64 r) ∧ OwnP w' w0.heap.size (fun k => U k ∨ w.heap.size ≤ k) v0 v1 v2 r0 r1 r2 ∧ Below w0.heap.size w0 w' ∧ Kept w w' U := by
 unfold laws_markPage.f at H
 obtain ⟨⟨t, t0⟩, ht, H⟩ := Option.bind_eq_some_iff.mp H
 obtain ⟨⟨u, u1⟩, hu, H⟩ := Option.bind_eq_some_iff.mp H
 obtain ⟨⟨v, v2_⟩, hv, H⟩ := Option.bind_eq_some_iff.mp H
 simp only [Option.some.injEq, Prod.mk.injEq] at H
 obtain ⟨rfl, rfl, rfl, rfl⟩ := H
 dsimp only at hu hv
 obtain ⟨A0, c0, A1, c1, A2, c2, rfl, rfl, rfl, _, _, _⟩ := hO.slices
 have HB := am hB
 have HO := am (hO.bound.mono (U' := fun k => U k ∧ k < w.heap.size) (fun k hk => ⟨hk.1, hk.2.2⟩))
 have HX := am (Below.refl w.heap.size w)
 have AT := am ht
 have AU := am hu
 have AV := am hv
 clear hB hO ht hu hv
 go_enter Try.func12, Try.ntmps12
 go_wp2_with (first | ((with_reducible refine gd_ 2 ?_); refine bx_ 2 (cs := #[.slice A0 s0.length c0, .slice A1 s1.length c1, .slice A2 s2.length c2, .int .i64 h, .int .i64 b]) 33 ?_; intro gbp hg wp hbox hb; have GE := am (show w.heap.size ≤ gbp by rw [hg]; exact Nat.le_refl _); replace HO := am (HO.out.below hb); replace HB := am (below_step HB.out hb); have HK := am (Kept.of_below hb U); have BKp := am hbox; have LW := am (show w.heap.size ≤ wp.heap.size from hb.size); have LPa := am (blk_lt hbox); clear HX hb hbox hg; have hca0 : wp.cell? ⟨gbp, 0, none⟩ = some (.slice A0 s0.length c0) := (blk_cell BKp.out 0).trans rfl; have hca1 : wp.cell? ⟨gbp, 1, none⟩ = some (.slice A1 s1.length c1) := (blk_cell BKp.out 1).trans rfl; have hca2 : wp.cell? ⟨gbp, 2, none⟩ = some (.slice A2 s2.length c2) := (blk_cell BKp.out 2).trans rfl; have hca3 : wp.cell? ⟨gbp, 3, none⟩ = some (.int .i64 h) := (blk_cell BKp.out 3).trans rfl; have hca4 : wp.cell? ⟨gbp, 4, none⟩ = some (.int .i64 b) := (blk_cell BKp.out 4).trans rfl) | ((with_reducible refine gate_callee (f := 31) rfl ?_); refine goesL_ (some 8) rfl rfl Try.func31 (by kernel_rfl) rfl #[.slice A0 s0.length c0, .int .i64 a1] rfl ab5 ?_; obtain ⟨P_, hP_, h_, hback_⟩ := OwnP.items HO.out; (refine (laws_markItemS.calls_g k P_ _ s0 a1 t t0 w0 _ HB.out h_ AT.out).mono ?_); rintro e wa ⟨rfl, hs_, hb_, hk_⟩; refine ⟨_, rfl, ?_⟩; have HO2 := am (hback_ _ _ _ hs_ hk_); have LWa := am (Nat.le_trans LW.out hk_.1); have LPb := am (Nat.lt_of_lt_of_le LPa.out hk_.1); replace BKp := am (blk_kept BKp.out hk_ (fun q_ => by have h1_ := (hP_ _ q_).2; have h2_ := GE.out; omega)); replace HK := am (Kept.then_ HK.out hk_ (fun k_ q_ => Or.inl (hP_ _ q_).1)); replace HB := am hb_; clear HO; have HO := HO2; clear HO2 h_ hback_ hs_ hb_ hk_ hP_ hca0 hca1 hca2 hca3 hca4; have hcb0 : wa.cell? ⟨gbp, 0, none⟩ = some (.slice A0 s0.length c0) := (blk_cell BKp.out 0).trans rfl; have hcb1 : wa.cell? ⟨gbp, 1, none⟩ = some (.slice A1 s1.length c1) := (blk_cell BKp.out 1).trans rfl; have hcb2 : wa.cell? ⟨gbp, 2, none⟩ = some (.slice A2 s2.length c2) := (blk_cell BKp.out 2).trans rfl; have hcb3 : wa.cell? ⟨gbp, 3, none⟩ = some (.int .i64 h) := (blk_cell BKp.out 3).trans rfl; have hcb4 : wa.cell? ⟨gbp, 4, none⟩ = some (.int .i64 b) := (blk_cell BKp.out 4).trans rfl) | ((with_reducible refine gate_callee (f := 32) rfl ?_); refine goesL_ (some 12) rfl rfl Try.func32 (by kernel_rfl) rfl #[.slice A1 s1.length c1, .int .i64 t] rfl ab5 ?_; obtain ⟨P_, hP_, h_, hback_⟩ := OwnP.open_ HO.out; (refine (laws_markIntS.calls k P_ _ s1 t u u1 w0 _ HB.out h_ AU.out).mono ?_); rintro e wb ⟨rfl, hs_, hb_, hk_⟩; refine ⟨_, rfl, ?_⟩; have HO2 := am (hback_ _ _ _ hs_ hk_); have LWb := am (Nat.le_trans LWa.out hk_.1); replace BKp := am (blk_kept BKp.out hk_ (fun q_ => by have h2_ := GE.out; have h3_ := LPa.out; rcases hP_ _ q_ with h1_ | h1_; (have := h1_.2; omega); omega)); replace HK := am (Kept.then_ HK.out hk_ (fun k_ q_ => (hP_ _ q_).elim (fun z_ => Or.inl z_.1) (fun z_ => Or.inr (Nat.le_trans LW.out z_)))); replace HB := am hb_; clear HO; have HO := HO2; clear HO2 h_ hback_ hs_ hb_ hk_ hP_ hcb0 hcb1 hcb2 hcb3 hcb4; have hcc0 : wb.cell? ⟨gbp, 0, none⟩ = some (.slice A0 s0.length c0) := (blk_cell BKp.out 0).trans rfl; have hcc1 : wb.cell? ⟨gbp, 1, none⟩ = some (.slice A1 s1.length c1) := (blk_cell BKp.out 1).trans rfl; have hcc2 : wb.cell? ⟨gbp, 2, none⟩ = some (.slice A2 s2.length c2) := (blk_cell BKp.out 2).trans rfl; have hcc3 : wb.cell? ⟨gbp, 3, none⟩ = some (.int .i64 h) := (blk_cell BKp.out 3).trans rfl; have hcc4 : wb.cell? ⟨gbp, 4, none⟩ = some (.int .i64 b) := (blk_cell BKp.out 4).trans rfl) | ((with_reducible refine gate_callee (f := 32) rfl ?_); refine goesL_ (some 16) rfl rfl Try.func32 (by kernel_rfl) rfl #[.slice A2 s2.length c2, .int .i64 u] rfl ab5 ?_; obtain ⟨P_, hP_, h_, hback_⟩ := OwnP.forms HO.out; (refine (laws_markIntS.calls k P_ _ s2 u v v2_ w0 _ HB.out h_ AV.out).mono ?_); rintro e wc ⟨rfl, hs_, hb_, hk_⟩; refine ⟨_, rfl, ?_⟩; have HO2 := am (hback_ _ _ _ hs_ hk_); replace BKp := am (blk_kept BKp.out hk_ (fun q_ => by have h2_ := GE.out; have h3_ := LPa.out; have h4_ := LPb.out; rcases hP_ _ q_ with (h1_ | h1_) | h1_; (have := h1_.2; omega); omega; omega)); replace HK := am (Kept.then_ HK.out hk_ (fun k_ q_ => (hP_ _ q_).elim (fun z_ => z_.elim (fun z_ => Or.inl z_.1) (fun z_ => Or.inr (Nat.le_trans LW.out z_))) (fun z_ => Or.inr (Nat.le_trans LWa.out z_)))); replace HB := am hb_; clear HO; have HO := HO2; clear HO2 h_ hback_ hs_ hb_ hk_ hP_ hcc0 hcc1 hcc2 hcc3 hcc4; have hcd0 : wc.cell? ⟨gbp, 0, none⟩ = some (.slice A0 s0.length c0) := (blk_cell BKp.out 0).trans rfl; have hcd1 : wc.cell? ⟨gbp, 1, none⟩ = some (.slice A1 s1.length c1) := (blk_cell BKp.out 1).trans rfl; have hcd2 : wc.cell? ⟨gbp, 2, none⟩ = some (.slice A2 s2.length c2) := (blk_cell BKp.out 2).trans rfl; have hcd3 : wc.cell? ⟨gbp, 3, none⟩ = some (.int .i64 h) := (blk_cell BKp.out 3).trans rfl; have hcd4 : wc.cell? ⟨gbp, 4, none⟩ = some (.int .i64 b) := (blk_cell BKp.out 4).trans rfl))
 go_ret
 refine ⟨rfl, HO.out.mono (fun k hk => ?_), HB.out, HK.out⟩
 rcases hk with ((h1 | h1) | h1) | h1
 ·exact Or.inl h1.1
 ·exact Or.inr (Nat.le_trans LW.out h1)
 ·exact Or.inr (Nat.le_trans LWa.out h1)
 ·exact Or.inr (Nat.le_trans LWb.out h1)
def laws_toIntS.l0 : Nat → List Int → List Int → Int → Option (List Int)
 | 0, _, _, _ => none
 | k + 1, x0, x3, x4 => if x4 < (x0.length : Int) then (if 0 ≤ x4 then (if x4 < (x3.length : Int) then (laws_toIntS.l0 k x0 (x3.set (x4 : Int).toNat (rd x0 x4)) (wrap64 (x4 + 1))) else (none)) else (none)) else (some x3)
def laws_toIntS.f (k : Nat) (l0 : List Int) : Option (List Int) := if 0 ≤ (l0.length : Int) then (if ((l0.length : Int) : Int).toNat ≤ 35184372088832 then (laws_toIntS.l0 k l0 (List.replicate ((l0.length : Int) : Int).toNat 0) 0) else (none)) else (none)
theorem laws_toIntS.calls (k : Nat) (A0 : Option Addr) (c0 : Nat) (l0 : List Int) (r : List Int) (w : World) (hr0 : Kd.C (Kd.int .i64) w A0 l0.length l0) (hc0 : l0.length ≤ c0) (h : laws_toIntS.f k l0 = some r) :
  Calls Try.prog 23 #[.slice A0 l0.length c0] w fun e w' => ∃ v0_ : Value, e = .returned (v0_) ∧ Kd.R (Kd.int .i64) 3 w' w.heap.size (fun _ => True) v0_ r ∧ Below w.heap.size w w' := by
 have HR0 := am hr0
 have HC0 := am hc0
 clear hr0 hc0
 have HB := am (Below.refl w.heap.size w)
 have H : (if 0 ≤ (l0.length : Int) then (if ((l0.length : Int) : Int).toNat ≤ 35184372088832 then (laws_toIntS.l0 k l0 (List.replicate ((l0.length : Int) : Int).toNat 0) 0) else (none)) else (none)) = some r := h
 clear h
 by_cases c2 : 0 ≤ (l0.length : Int)
 case neg => rw [if_neg c2] at H; exact absurd H (by simp)
 rw [if_pos c2] at H
 have c2b0 := eq_true c2
 have c2b1 := decide_eq_true c2
 clear c2
 by_cases c3 : ((l0.length : Int) : Int).toNat ≤ 35184372088832
 case neg => rw [if_neg c3] at H; exact absurd H (by simp)
 rw [if_pos c3] at H
 have c3b0 := eq_true c3
 have c3b1 := decide_eq_true c3
 clear c3
 obtain ⟨y272, hy272⟩ : ∃ y_ : List Int, y_ = (List.replicate ((l0.length : Int) : Int).toNat 0) := ⟨_, rfl⟩
 replace H : (laws_toIntS.l0 k l0 y272 0) = some r := by first | (rw [hy272]; with_reducible exact H) | (have H2_ := (Option.bind_some _ _).symm.trans H; rw [hy272]; with_reducible exact H2_) | (have H2_ := (Option.bind_some _ _).symm.trans H; with_reducible exact H2_) | with_reducible exact H | (rw [hy272]; exact H) | exact H
 have Ny272 := am hy272
 clear hy272
 have H' := am H
 clear H
 go_enter Try.func23, Try.ntmps23
 go_wp2_with (first | ((with_reducible refine gate_dst (N := 7) rfl ?_); refine Kd.R_make (Kd.int .i64) _ 3 rfl (N := 7) rfl 23 _ _ rfl (l0.length : Int) rfl rfl Try.underlying23 (.int .i64 0) 8 info3 rfl (by decide) (by omega) 0 (ok := fun _ => True) (okp := fun _ => True) rfl (fun _ hk => hk) trivial (of_decide_eq_true ab4) (Nat.le_trans (Nat.mul_le_mul_right _ (of_decide_eq_true ab4 : (l0.length : Int).toNat ≤ 35184372088832)) (by omega)) (Below.refl _ _) (Nat.le_refl _) ?_; intro v273 w4 ho5 hb hg_ hnew_; clear hg_ hnew_; (first | rw [← Ny272.out] at ho5 | (simp only [Int.reduceToNat] at ho5; rw [← Ny272.out] at ho5)); have HO274 := am (Kd.R_lower ho5 (below_size ab1)); replace HB := am (below_step ab1 hb); clear hb ho5))
 go_loopg [4] k (fun kq v4 w' => ∃ (x3_1 : List Int) (x4_1 : Int), v4 = .int .i64 x4_1 ∧ Aside0 (laws_toIntS.l0 kq l0 x3_1 x4_1 = some r) ∧ Aside0 (kq ≤ k) ∧ Aside0 (Kd.R (Kd.int .i64) 3 w' w.heap.size (fun _ => True) v273 x3_1) ∧ Aside0 (Below w.heap.size w w'))
 case atStart => exact ⟨(y272), (0), ab6, H', ⟨Nat.le_refl _⟩, ⟨ab8 HO274⟩, ⟨ab1⟩⟩
 case round =>
  clear H'
  (try clear c2); (try clear c2b0); (try clear c2b1); (try clear p2); (try clear c3); (try clear c3b0); (try clear c3b1)
  obtain ⟨x3_1, x4_1, rfl, HA, HK1, HO_3, HB⟩ := hrel
  cases gk with
  | zero => exact absurd HA.out (by simp [laws_toIntS.l0])
  | succ k1 =>
   have H := HA.out
   clear HA
   simp only [laws_toIntS.l0] at H
   replace H := ir_ H; rcases H with ⟨c6b0, H⟩ | ⟨c6b0, H⟩
   ·replace H := iq_ H; obtain ⟨c7b0, H⟩ := H
    replace H := iq_ H; obtain ⟨c8b0, H⟩ := H
    obtain ⟨y276, hy276⟩ : ∃ y_ : List Int, y_ = (x3_1.set (x4_1 : Int).toNat (rd l0 x4_1)) := ⟨_, rfl⟩
    replace H : (laws_toIntS.l0 k1 l0 y276 (wrap64 (x4_1 + 1))) = some r := by first | (rw [hy276]; with_reducible exact H) | (have H2_ := (Option.bind_some _ _).symm.trans H; rw [hy276]; with_reducible exact H2_) | (have H2_ := (Option.bind_some _ _).symm.trans H; with_reducible exact H2_) | with_reducible exact H | (rw [hy276]; exact H) | exact H
    have Ny276 := am hy276
    clear hy276
    have H' := am H
    clear H
    have p275 : 0 ≤ (x4_1 : Int) := of_decide_eq_true ab4
    have q275 : x4_1 < (l0.length : Int) := of_decide_eq_true ab4
    obtain ⟨ad275, e275, hx275_0⟩ := Kd.at_int HR0.out x4_1 p275 q275
    cases e275
    replace hx275_0 := pc_ HB hx275_0
    replace p275 := eq_true p275
    replace q275 := eq_true q275
    have p9 : 0 ≤ (x4_1 : Int) := of_decide_eq_true ab4
    have q9 : (x4_1 : Int) < ((x3_1.length : Int) : Int) := of_decide_eq_true ab4
    obtain ⟨go9, co9, eo9, gb9, gl9, cl9, HG9⟩ := Kd.R_form HO_3.out (by omega)
    (first | cases eo9 | (injection eo9 with ea_ en_ ec_; (first | subst ea_ | (injection ea_ with ea_; subst ea_)); subst ec_; clear en_))
    have GB9 := am gb9
    have GG9 := am HG9
    clear gb9 gl9 HG9
    obtain ⟨hx9_0, hf9_0⟩ := Kd.R_celln 0 HO_3.out (x4_1 : Int) p9 q9
    replace p9 := eq_true p9
    replace q9 := eq_true q9
    have HP10 := Kd.R_putg HO_3.out (x4_1 : Int) (rd l0 x4_1)
    go_wp2_with (first | ((with_reducible refine gate_store (t := 3) (p := 20) rfl ?_); refine store_event (t := 3) (p := 20) (v := ?vo_w11) (w1 := (wr.setCell ⟨go9, (x4_1 : Int).toNat, none⟩ (.int .i64 (rd l0 x4_1)))) ?hg ?ho ?hn ?hr ?_; (case ho => rfl); (case hg => rfl); (case hn => rfl); (case hr => first | (go_simp; done) | (go_simp; rfl)); intro w11 hw; have hg : wr.grownBy w11 (some go9) := (by rw [hw]; exact HP10.2); have hp_ : Kd.R (Kd.int .i64) 3 w11 w.heap.size (fun _ => True) (.slice (some ⟨go9, 0, none⟩) x3_1.length co9) y276 := (by rw [hw, Ny276.out]; exact HP10.1); clear HP10; replace HO_3 := am hp_; replace HB := am ((by rw [hw]; exact below_set (HB.out) GB9.out : Below w.heap.size w w11)); clear hg hw hp_))
    go_roundg k1
    case measure => have := HK1.out; omega
    case rel => exact ⟨(y276), (wrap64 (x4_1 + 1)), ab6, H', ⟨by have := HK1.out; omega⟩, ⟨ab8 HO_3⟩, ⟨ab1⟩⟩
   ·obtain rfl := Option.some.inj H
    go_wp2
    go_ret
    exact ⟨_, ab7, ab8 HO_3, ab1⟩
def laws_toAttr.f (a0_0 : ByteArray) (a0_1 : ByteArray) : Option (ByteArray × ByteArray) := some (a0_0, a0_1)
theorem laws_toAttr.calls (a0_0 : ByteArray) (a0_1 : ByteArray) (r1 : ByteArray) (r2 : ByteArray) (w : World) (h : laws_toAttr.f a0_0 a0_1 = some (r1, r2)) :
  Calls Try.prog 43 #[.agg #[.string a0_0, .string a0_1]] w fun e w' => e = .returned (.agg #[.string r1, .string r2]) ∧ Below w.heap.size w w' := by
 have hu63 := Try.underlying63
 have hu69 := Try.underlying69
 have HB := am (Below.refl w.heap.size w)
 have H : (some (a0_0, a0_1)) = some (r1, r2) := h
 clear h
 simp only [Option.some.injEq, Prod.mk.injEq] at H
 obtain ⟨rfl, rfl⟩ := H
 go_enter Try.func43, Try.ntmps43
 go_wp2_with (first | ((with_reducible refine gd_ 1 ?_); refine bx_ 1 (cs := #[.string a0_0, .string a0_1]) 63 ?_; intro gb277 hg w2 hbox hb; have BK277 := am hbox; have GW277 := ge_ (w := w) hg; have GE277 := ge_ (w := w) hg; replace HB := am (below_step ab1 hb); clear hb hbox hg) | ((with_reducible refine gd_ 2 ?_); refine bx_ 2 (cs := #[.string (⟨#[]⟩ : ByteArray), .string (⟨#[]⟩ : ByteArray)]) 69 ?_; intro gb278 hg w3 hbox hb; have BK278 := am hbox; have GW278 := gE_ (w := w) GE277 hg; have GE278 := gE_ (w := w) GE277 hg; replace HB := am (below_step (ab2 GE277) hb); have NB277_278 := nl_ BK277 hg; have NB278_277 := ng_ BK277 hg; replace BK277 := bl_ BK277 hb; clear hb hbox hg) | ((with_reducible refine gd_ 3 ?_); refine bx_ 3 (cs := #[.string (⟨#[]⟩ : ByteArray), .string (⟨#[]⟩ : ByteArray)]) 69 ?_; intro gb279 hg w4 hbox hb; have BK279 := am hbox; have GW279 := am ((by rw [hg]; exact (below_size ba_) : w.heap.size ≤ gb279)); have GE279 := am ((by rw [hg]; exact (below_size ba_) : w.heap.size ≤ gb279)); replace HB := am (below_step ba_ hb); have NB277_279 := nl_ BK277 hg; have NB279_277 := ng_ BK277 hg; replace BK277 := bl_ BK277 hb; have NB278_279 := nl_ BK278 hg; have NB279_278 := ng_ BK278 hg; replace BK278 := bl_ BK278 hb; clear hb hbox hg; have hnb5 := NB277_278.out; have hnc5 := NB278_277.out; have hnb6 := NB277_279.out; have hnc6 := NB279_277.out; obtain ⟨⟨_, _⟩, _, _⟩ := Op.cells2 BK277.out; have hnb8 := NB279_278.out; have hnc8 := NB278_279.out; obtain ⟨⟨_, _⟩, _, _⟩ := Op.cells2 BK279.out; obtain ⟨⟨_, _⟩, _, _⟩ := Op.cells2 BK278.out))
 refine bodyPost_ret (results_cell_row rfl _ _ gb278 69 #[.string a0_0, .string a0_1] (0, 0) _ rfl (bq_ BK278) Try.underlying69 rfl (by kernel_rfl)) rfl ?_
 exact ⟨ab7, ba_⟩
def laws_toAttrS.l0 : Nat → List (S63) → List (S69) → Int → Option ((List (S69)))
 | 0, _, _, _ => none
 | k + 1, x0, x3, x4 => if x4 < (x0.length : Int) then (if 0 ≤ x4 then ((laws_toAttr.f ((rd_T63 x0 x4).f0) ((rd_T63 x0 x4).f1)).bind fun bt284 => (if x4 < (x3.length : Int) then (laws_toAttrS.l0 k x0 (x3.set (x4 : Int).toNat (⟨bt284.1, bt284.2⟩ : S69)) (wrap64 (x4 + 1))) else (none))) else (none)) else (some x3)
def laws_toAttrS.f (k : Nat) (l0 : List (S63)) : Option ((List (S69))) := if 0 ≤ (l0.length : Int) then (if ((l0.length : Int) : Int).toNat ≤ 8796093022208 then (laws_toAttrS.l0 k l0 (List.replicate ((l0.length : Int) : Int).toNat z69) 0) else (none)) else (none)
theorem laws_toAttrS.calls (k : Nat) (A0 : Option Addr) (c0 : Nat) (l0 : List (S63)) (r : List (S69)) (w : World) (hr0 : Kd.C k63 w A0 l0.length l0) (hc0 : l0.length ≤ c0) (h : laws_toAttrS.f k l0 = some r) :
  Calls Try.prog 24 #[.slice A0 l0.length c0] w fun e w' => ∃ v0_ : Value, e = .returned (v0_) ∧ Kd.R k69 69 w' w.heap.size (fun _ => True) v0_ r ∧ Below w.heap.size w w' := by
 have hu63 := Try.underlying63
 have hu69 := Try.underlying69
 have HR0 := am hr0
 have HC0 := am hc0
 clear hr0 hc0
 have HB := am (Below.refl w.heap.size w)
 have H : (if 0 ≤ (l0.length : Int) then (if ((l0.length : Int) : Int).toNat ≤ 8796093022208 then (laws_toAttrS.l0 k l0 (List.replicate ((l0.length : Int) : Int).toNat z69) 0) else (none)) else (none)) = some r := h
 clear h
 by_cases c2 : 0 ≤ (l0.length : Int)
 case neg => rw [if_neg c2] at H; exact absurd H (by simp)
 rw [if_pos c2] at H
 have c2b0 := eq_true c2
 have c2b1 := decide_eq_true c2
 clear c2
 by_cases c3 : ((l0.length : Int) : Int).toNat ≤ 8796093022208
 case neg => rw [if_neg c3] at H; exact absurd H (by simp)
 rw [if_pos c3] at H
 have c3b0 := eq_true c3
 have c3b1 := decide_eq_true c3
 clear c3
 obtain ⟨y280, hy280⟩ : ∃ y_ : List (S69), y_ = (List.replicate ((l0.length : Int) : Int).toNat z69) := ⟨_, rfl⟩
 replace H : (laws_toAttrS.l0 k l0 y280 0) = some r := by first | (rw [hy280]; with_reducible exact H) | (have H2_ := (Option.bind_some _ _).symm.trans H; rw [hy280]; with_reducible exact H2_) | (have H2_ := (Option.bind_some _ _).symm.trans H; with_reducible exact H2_) | with_reducible exact H | (rw [hy280]; exact H) | exact H
 have Ny280 := am hy280
 clear hy280
 have H' := am H
 clear H
 go_enter Try.func24, Try.ntmps24
 go_wp2_with (first | ((with_reducible refine gate_dst (N := 7) rfl ?_); refine Kd.R_make k69 _ 69 rfl (N := 7) rfl 36 _ _ rfl (l0.length : Int) rfl rfl Try.underlying36 (.agg #[(.string ⟨#[]⟩), (.string ⟨#[]⟩)]) 32 info69 rfl (by decide) (by omega) z69 (ok := fun _ => True) (okp := fun _ => True) (k69_mkM _ _ _ z69 ) (fun _ hk => hk) trivial (of_decide_eq_true ab4) (Nat.le_trans (Nat.mul_le_mul_right _ (of_decide_eq_true ab4 : (l0.length : Int).toNat ≤ 8796093022208)) (by omega)) (Below.refl _ _) (Nat.le_refl _) ?_; intro v281 w4 ho5 hb hg_ hnew_; clear hg_ hnew_; (first | rw [← Ny280.out] at ho5 | (simp only [Int.reduceToNat] at ho5; rw [← Ny280.out] at ho5)); have HO282 := am (Kd.R_lower ho5 (below_size ab1)); replace HB := am (below_step ab1 hb); clear hb ho5))
 go_loopg [4] k (fun kq v4 w' => ∃ (x3_1 : List (S69)) (x4_1 : Int), v4 = .int .i64 x4_1 ∧ Aside0 (laws_toAttrS.l0 kq l0 x3_1 x4_1 = some r) ∧ Aside0 (kq ≤ k) ∧ Aside0 (Kd.R k69 69 w' w.heap.size (fun _ => True) v281 x3_1) ∧ Aside0 (Below w.heap.size w w'))
 case atStart => exact ⟨(y280), (0), ab6, H', ⟨Nat.le_refl _⟩, ⟨ab8 HO282⟩, ⟨ab1⟩⟩
 case round =>
  clear H'
  (try clear c2); (try clear c2b0); (try clear c2b1); (try clear p2); (try clear c3); (try clear c3b0); (try clear c3b1)
  obtain ⟨x3_1, x4_1, rfl, HA, HK1, HO_3, HB⟩ := hrel
  cases gk with
  | zero => exact absurd HA.out (by simp [laws_toAttrS.l0])
  | succ k1 =>
   have H := HA.out
   clear HA
   simp only [laws_toAttrS.l0] at H
   replace H := ir_ H; rcases H with ⟨c6b0, H⟩ | ⟨c6b0, H⟩
   ·replace H := iq_ H; obtain ⟨c7b0, H⟩ := H
    replace H := Option.bind_eq_some_iff.mp H
    obtain ⟨⟨t284, t285⟩, A80, H⟩ := H
    try dsimp only at H
    have A8 := am A80
    clear A80
    replace H := iq_ H; obtain ⟨c9b0, H⟩ := H
    obtain ⟨y286, hy286⟩ : ∃ y_ : List (S69), y_ = (x3_1.set (x4_1 : Int).toNat (⟨t284, t285⟩ : S69)) := ⟨_, rfl⟩
    replace H : (laws_toAttrS.l0 k1 l0 y286 (wrap64 (x4_1 + 1))) = some r := by first | (rw [hy286]; with_reducible exact H) | (have H2_ := (Option.bind_some _ _).symm.trans H; rw [hy286]; with_reducible exact H2_) | (have H2_ := (Option.bind_some _ _).symm.trans H; with_reducible exact H2_) | with_reducible exact H | (rw [hy286]; exact H) | exact H
    have Ny286 := am hy286
    clear hy286
    have H' := am H
    clear H
    have p283 : 0 ≤ (x4_1 : Int) := of_decide_eq_true ab4
    have q283 : x4_1 < (l0.length : Int) := of_decide_eq_true ab4
    obtain ⟨ad283, e283, hx283_0, hx283_1⟩ := at_T63 HR0.out x4_1 p283 q283
    cases e283
    replace hx283_0 := pc_ HB hx283_0
    replace hx283_1 := pc_ HB hx283_1
    replace p283 := eq_true p283
    replace q283 := eq_true q283
    go_wp2_with (first | ((with_reducible refine gf_ 43 ?_); refine gc_ Try.func43 (laws_toAttr.calls ((rd_T63 l0 x4_1).f0) ((rd_T63 l0 x4_1).f1) t284 t285 _ A8.out) ?_; rintro w11 hb; replace HO_3 := am (Kd.R_below (ab8 HO_3) hb); replace HB := am (below_step ab1 hb); (try clear hb); (try clear hb2); (try clear hk); (try clear hi); have p10 : 0 ≤ (x4_1 : Int) := of_decide_eq_true ab4; have q10 : (x4_1 : Int) < ((x3_1.length : Int) : Int) := of_decide_eq_true ab4; obtain ⟨go10, co10, eo10, gb10, gl10, cl10, HG10⟩ := Kd.R_form HO_3.out (by omega); (first | cases eo10 | (injection eo10 with ea_ en_ ec_; (first | subst ea_ | (injection ea_ with ea_; subst ea_)); subst ec_; clear en_)); have GB10 := am gb10; have GG10 := am HG10; clear gb10 gl10 HG10; obtain ⟨ce10, hcl10, hM10, hcc10, hfr10⟩ := Kd.R_elem HO_3.out z69 (x4_1 : Int) p10 q10; obtain rfl := k69_openM hM10; have hx10_0 : w11.cell? ⟨go10, (x4_1 : Int).toNat * 2, none⟩ = some (.string ((rd_T69 x3_1 x4_1).f0)) := hcc10 0 _ rfl; have hx10_1 : w11.cell? ⟨go10, (x4_1 : Int).toNat * 2 + 1, none⟩ = some (.string ((rd_T69 x3_1 x4_1).f1)) := hcc10 1 _ rfl; have hf10_0 : w11.frozen? ⟨go10, (x4_1 : Int).toNat * 2, none⟩ = false := hfr10 0; have hf10_1 : w11.frozen? ⟨go10, (x4_1 : Int).toNat * 2 + 1, none⟩ = false := hfr10 1; clear hcl10 hcc10 hfr10 hM10; replace p10 := eq_true p10; replace q10 := eq_true q10; have HX12 := am (show Kd.R k69 69 w11 w.heap.size (fun _ => True) (.slice (some ⟨go10, 0, none⟩) x3_1.length co10) x3_1 from (ab8 HO_3)); obtain ⟨ce12, hcl12, hM12, hcc12, hfr12⟩ := Kd.R_elem HX12.out z69 (x4_1 : Int) (of_decide_eq_true ab4) (by have h_ : (x4_1 : Int) < ((x3_1.length : Int) : Int) := of_decide_eq_true ab4; first | exact h_ | (have e_ := (Kd.R_reads' HO_3.out).1; omega) | simpa using h_); obtain rfl := k69_openM hM12; have HP12 := Kd.R_seg HX12.out (x4_1 : Int) (of_decide_eq_true ab4) (by have h_ : (x4_1 : Int) < ((x3_1.length : Int) : Int) := of_decide_eq_true ab4; first | exact h_ | (have e_ := (Kd.R_reads' HO_3.out).1; omega) | simpa using h_) (seg := [.string t284, .string t285]) (j := 0) hcl12 hcc12 (show 2 ≤ 2 from by decide) (x' := (⟨t284, t285⟩ : S69)) (k69_mkM _ _ _ (⟨t284, t285⟩ : S69) ) (fun _ hk => hk); have hx12_0 := hcc12 0 _ rfl; (try simp only [show (k69).sz = 2 from rfl, Nat.mul_one, Nat.add_zero] at hx12_0); have hf12_0 := hfr12 0; (try simp only [show (k69).sz = 2 from rfl, Nat.mul_one, Nat.add_zero] at hf12_0); have hx12_1 := hcc12 1 _ rfl; (try simp only [show (k69).sz = 2 from rfl, Nat.mul_one, Nat.add_zero] at hx12_1); have hf12_1 := hfr12 1; (try simp only [show (k69).sz = 2 from rfl, Nat.mul_one, Nat.add_zero] at hf12_1); clear hcl12 hcc12 hfr12 hM12) | ((with_reducible refine gate_store (t := 69) (p := 21) rfl ?_); refine store_event (t := 69) (p := 21) (v := ?vo_w13) (w1 := ((w11.setCell ⟨go10, (x4_1 : Int).toNat * 2, none⟩ (.string t284)).setCell ⟨go10, (x4_1 : Int).toNat * 2 + 1, none⟩ (.string t285))) ?hg ?ho ?hn ?hr ?_; (case ho => rfl); (case hg => rfl); (case hn => rfl); (case hr => first | (go_simp; done) | (go_simp; rfl)); intro w13 hw; have hg : w11.grownBy w13 (some go10) := (by rw [hw]; exact HP12.2); have hp_ : Kd.R k69 69 w13 w.heap.size (fun _ => True) (.slice (some ⟨go10, 0, none⟩) x3_1.length co10) y286 := (by rw [hw, Ny286.out]; exact HP12.1); clear HP12; replace HO_3 := am hp_; replace HB := am ((by rw [hw]; exact below_set (below_set (HB.out) GB10.out) GB10.out : Below w.heap.size w w13)); clear hg hw hp_))
    go_roundg k1
    case measure => have := HK1.out; omega
    case rel => exact ⟨(y286), (wrap64 (x4_1 + 1)), ab6, H', ⟨by have := HK1.out; omega⟩, ⟨ab8 HO_3⟩, ⟨ab1⟩⟩
   ·obtain rfl := Option.some.inj H
    go_wp2
    go_ret
    exact ⟨_, ab7, ab8 HO_3, ab1⟩
def laws_toItem.f (k : Nat) (a0_0 : Int) (a0_1 : Int) (a0_2 : ByteArray) (l0_3 : List (S63)) (a0_4 : ByteArray) (a0_5 : Int) (l0_6 : List Int) : Option (Int × Int × ByteArray × (List (S69)) × ByteArray × Int × List Int) := (laws_toAttrS.f k l0_3).bind fun t290 => ((laws_toIntS.f k l0_6).bind fun t293 => (some (a0_0, a0_1, a0_2, t290, a0_4, a0_5, t293)))
theorem laws_toItem.calls (k : Nat) (a0_0 : Int) (a0_1 : Int) (a0_2 : ByteArray) (A0_3 : Option Addr) (c0_3 : Nat) (l0_3 : List (S63)) (a0_4 : ByteArray) (a0_5 : Int) (A0_6 : Option Addr) (c0_6 : Nat) (l0_6 : List Int) (r1 : Int) (r2 : Int) (r3 : ByteArray) (r4 : List (S69)) (r5 : ByteArray) (r6 : Int) (r7 : List Int) (w : World) (hr0_3 : Kd.C k63 w A0_3 l0_3.length l0_3) (hc0_3 : l0_3.length ≤ c0_3) (hr0_6 : Kd.C (Kd.int .i64) w A0_6 l0_6.length l0_6) (hc0_6 : l0_6.length ≤ c0_6) (h : laws_toItem.f k a0_0 a0_1 a0_2 l0_3 a0_4 a0_5 l0_6 = some (r1, r2, r3, r4, r5, r6, r7)) :
  Calls Try.prog 8 #[.agg #[.int .i64 a0_0, .int .i64 a0_1, .string a0_2, .slice A0_3 l0_3.length c0_3, .string a0_4, .int .i64 a0_5, .slice A0_6 l0_6.length c0_6]] w fun e w' => ∃ v3_ v6_ : Value, e = .returned (.agg #[.int .i64 r1, .int .i64 r2, .string r3, v3_, .string r5, .int .i64 r6, v6_]) ∧ Kd.R k69 69 w' w.heap.size (fun _ => True) v3_ r4 ∧ Kd.R (Kd.int .i64) 3 w' w.heap.size (fun _ => True) v6_ r7 ∧ Below w.heap.size w w' := by
 have hu28 := Try.underlying28
 have hu38 := Try.underlying38
 have HR0_3 := am hr0_3
 have HC0_3 := am hc0_3
 clear hr0_3 hc0_3
 have HR0_6 := am hr0_6
 have HC0_6 := am hc0_6
 clear hr0_6 hc0_6
 have HB := am (Below.refl w.heap.size w)
 have H : ((laws_toAttrS.f k l0_3).bind fun t290 => ((laws_toIntS.f k l0_6).bind fun t293 => (some (a0_0, a0_1, a0_2, t290, a0_4, a0_5, t293)))) = some (r1, r2, r3, r4, r5, r6, r7) := h
 clear h
 replace H := bi_ H; obtain ⟨t290, A2, H⟩ := H
 replace H := bi_ H; obtain ⟨t293, A3, H⟩ := H
 simp only [Option.some.injEq, Prod.mk.injEq] at H
 obtain ⟨rfl, rfl, rfl, rfl, rfl, rfl, rfl⟩ := H
 go_enter Try.func8, Try.ntmps8
 go_wp2_with (first | ((with_reducible refine gd_ 1 ?_); refine bx_ 1 (cs := #[.int .i64 a0_0, .int .i64 a0_1, .string a0_2, .slice A0_3 l0_3.length c0_3, .string a0_4, .int .i64 a0_5, .slice A0_6 l0_6.length c0_6]) 28 ?_; intro gb287 hg w4 hbox hb; have BK287 := am hbox; have GW287 := ge_ (w := w) hg; have GE287 := ge_ (w := w) hg; replace HB := am (below_step ab1 hb); clear hb hbox hg) | ((with_reducible refine gd_ 2 ?_); refine bx_ 2 (cs := #[.int .i64 0, .int .i64 0, .string (⟨#[]⟩ : ByteArray), .slice none 0 0, .string (⟨#[]⟩ : ByteArray), .int .i64 0, .slice none 0 0]) 38 ?_; intro gb288 hg w5 hbox hb; have BK288 := am hbox; have GW288 := gE_ (w := w) GE287 hg; have GE288 := gE_ (w := w) GE287 hg; replace HB := am (below_step (ab2 GE287) hb); have NB287_288 := nl_ BK287 hg; have NB288_287 := ng_ BK287 hg; replace BK287 := bl_ BK287 hb; clear hb hbox hg) | ((with_reducible refine gd_ 3 ?_); refine bx_ 3 (cs := #[.int .i64 0, .int .i64 0, .string (⟨#[]⟩ : ByteArray), .slice none 0 0, .string (⟨#[]⟩ : ByteArray), .int .i64 0, .slice none 0 0]) 38 ?_; intro gb289 hg w6 hbox hb; have BK289 := am hbox; have GW289 := am ((by rw [hg]; exact (below_size ba_) : w.heap.size ≤ gb289)); have GE289 := am ((by rw [hg]; exact (below_size ba_) : w.heap.size ≤ gb289)); replace HB := am (below_step ba_ hb); have NB287_289 := nl_ BK287 hg; have NB289_287 := ng_ BK287 hg; replace BK287 := bl_ BK287 hb; have NB288_289 := nl_ BK288 hg; have NB289_288 := ng_ BK288 hg; replace BK288 := bl_ BK288 hb; clear hb hbox hg; have hnb7 := NB287_288.out; have hnc7 := NB288_287.out; have hnb8 := NB287_289.out; have hnc8 := NB289_287.out; obtain ⟨⟨_, _, _, _, _, _, _⟩, _, _, _, _, _, _, _⟩ := Op.cells7 BK287.out; have hnb10 := NB289_288.out; have hnc10 := NB288_289.out; obtain ⟨⟨_, _, _, _, _, _, _⟩, _, _, _, _, _, _, _⟩ := Op.cells7 BK289.out) | ((with_reducible refine gf_ 24 ?_); refine gx_ Try.func24 (laws_toAttrS.calls k _ _ l0_3 t290 _ ?side1 HC0_3.out A2.out) ?_; (case side1 => exact Kd.C_below HR0_3.out ba_); rintro v291 w12 ⟨ho0, hb⟩; have HO292 := am (Kd.R_lower ho0 (below_size ba_)); replace BK287 := bp_ BK287 hb; replace BK288 := bp_ BK288 hb; replace BK289 := bp_ BK289 hb; replace HB := am (below_step ba_ hb); (try clear hb); (try clear hb2); (try clear hk); (try clear hi); (try clear ho0); obtain ⟨Ao13, co13, eo13⟩ := Kd.R_slice HO292.out; subst eo13; obtain ⟨⟨_, _, _, _, _, _, _⟩, _, _, _, _, _, _, _⟩ := Op.cells7 BK289.out; obtain ⟨⟨_, _, _, _, _, _, _⟩, _, _, _, _, _, _, _⟩ := Op.cells7 BK287.out) | ((with_reducible refine gf_ 23 ?_); refine gx_ Try.func23 (laws_toIntS.calls k _ _ l0_6 t293 _ ?side1 HC0_6.out A3.out) ?_; (case side1 => exact Kd.C_below HR0_6.out ba_); rintro v294 w16 ⟨ho0, hb⟩; replace HO292 := am (Kd.R_below (by (with_reducible repeat (first | apply Kd.R_alloc | apply Kd.R_drewN | apply Kd.R_drew)); exact (Kd.R_mono (Kd.R_far (p := ⟨gb289, 5, none⟩) (Kd.R_far (p := ⟨gb289, 4, none⟩) (Kd.R_far (p := ⟨gb289, 3, none⟩) (Kd.R_types HO292.out BK289.out (by decide)) (fun _ hk => hk.2) (.slice Ao13 t290.length co13)) (fun _ hk => hk.2) (.string a0_4)) (fun _ hk => hk.2) (.int .i64 a0_5)) (fun _ h_ => h_.1))) hb); have HO295 := am (Kd.R_lower ho0 (below_size ba_)); replace BK287 := bp_ BK287 hb; replace BK288 := bp_ BK288 hb; replace BK289 := bp_ BK289 hb; replace HB := am (below_step ba_ hb); (try clear hb); (try clear hb2); (try clear hk); (try clear hi); (try clear ho0); obtain ⟨Ao17, co17, eo17⟩ := Kd.R_slice HO295.out; subst eo17; obtain ⟨⟨_, _, _, _, _, _, _⟩, _, _, _, _, _, _, _⟩ := Op.cells7 BK289.out; obtain ⟨⟨_, _, _, _, _, _, _⟩, _, _, _, _, _, _, _⟩ := Op.cells7 BK288.out))
 refine bodyPost_ret (results_cell_row rfl _ _ gb288 38 #[.int .i64 a0_0, .int .i64 a0_1, .string a0_2, .slice Ao13 t290.length co13, .string a0_4, .int .i64 a0_5, .slice Ao17 t293.length co17] (0, 0) _ rfl (bq_ BK288) Try.underlying38 rfl (by kernel_rfl)) rfl ?_
 exact ⟨_, _, ab7, by (with_reducible repeat (first | apply Kd.R_alloc | apply Kd.R_drewN | apply Kd.R_drew)); exact Kd.R_mono (Kd.R_far (p := ⟨gb288, 6, none⟩) (Kd.R_far (p := ⟨gb288, 5, none⟩) (Kd.R_far (p := ⟨gb288, 4, none⟩) (Kd.R_far (p := ⟨gb288, 3, none⟩) (Kd.R_far (p := ⟨gb288, 2, none⟩) (Kd.R_far (p := ⟨gb288, 1, none⟩) (Kd.R_far (p := ⟨gb288, 0, none⟩) (Kd.R_far (p := ⟨gb289, 6, none⟩) (Kd.R_types (Kd.R_types HO292.out BK289.out (by decide)) BK288.out (by decide)) (fun _ hk => hk.1.2) (.slice Ao17 t293.length co17)) (fun _ hk => hk.2) (.int .i64 a0_0)) (fun _ hk => hk.2) (.int .i64 a0_1)) (fun _ hk => hk.2) (.string a0_2)) (fun _ hk => hk.2) (.slice Ao13 t290.length co13)) (fun _ hk => hk.2) (.string a0_4)) (fun _ hk => hk.2) (.int .i64 a0_5)) (fun _ hk => hk.2) (.slice Ao17 t293.length co17)) (fun _ hk => trivial), by (with_reducible repeat (first | apply Kd.R_alloc | apply Kd.R_drewN | apply Kd.R_drew)); exact Kd.R_mono (Kd.R_far (p := ⟨gb288, 6, none⟩) (Kd.R_far (p := ⟨gb288, 5, none⟩) (Kd.R_far (p := ⟨gb288, 4, none⟩) (Kd.R_far (p := ⟨gb288, 3, none⟩) (Kd.R_far (p := ⟨gb288, 2, none⟩) (Kd.R_far (p := ⟨gb288, 1, none⟩) (Kd.R_far (p := ⟨gb288, 0, none⟩) (Kd.R_far (p := ⟨gb289, 6, none⟩) (Kd.R_types (Kd.R_types HO295.out BK289.out (by decide)) BK288.out (by decide)) (fun _ hk => hk.1.2) (.slice Ao17 t293.length co17)) (fun _ hk => hk.2) (.int .i64 a0_0)) (fun _ hk => hk.2) (.int .i64 a0_1)) (fun _ hk => hk.2) (.string a0_2)) (fun _ hk => hk.2) (.slice Ao13 t290.length co13)) (fun _ hk => hk.2) (.string a0_4)) (fun _ hk => hk.2) (.int .i64 a0_5)) (fun _ hk => hk.2) (.slice Ao17 t293.length co17)) (fun _ hk => trivial), ba_⟩
def laws_toItemS.l0 : Nat → List (S28) → List (S38) → Int → Option ((List (S38)))
 | 0, _, _, _ => none
 | k + 1, x0, x3, x4 => if x4 < (x0.length : Int) then (if 0 ≤ x4 then ((laws_toItem.f k ((rd_T28 x0 x4).f0) ((rd_T28 x0 x4).f1) ((rd_T28 x0 x4).f2) ((rd_T28 x0 x4).f3) ((rd_T28 x0 x4).f4) ((rd_T28 x0 x4).f5) ((rd_T28 x0 x4).f6)).bind fun bt300 => (if x4 < (x3.length : Int) then (laws_toItemS.l0 k x0 (x3.set (x4 : Int).toNat (⟨bt300.1, bt300.2.1, bt300.2.2.1, bt300.2.2.2.1, bt300.2.2.2.2.1, bt300.2.2.2.2.2.1, bt300.2.2.2.2.2.2⟩ : S38)) (wrap64 (x4 + 1))) else (none))) else (none)) else (some x3)
def laws_toItemS.f (k : Nat) (l0 : List (S28)) : Option ((List (S38))) := if 0 ≤ (l0.length : Int) then (if ((l0.length : Int) : Int).toNat ≤ 2706490160679 then (laws_toItemS.l0 k l0 (List.replicate ((l0.length : Int) : Int).toNat z38) 0) else (none)) else (none)
theorem laws_toItemS.calls (k : Nat) (A0 : Option Addr) (c0 : Nat) (l0 : List (S28)) (r : List (S38)) (w : World) (hr0 : Kd.C k28 w A0 l0.length l0) (hc0 : l0.length ≤ c0) (h : laws_toItemS.f k l0 = some r) :
  Calls Try.prog 22 #[.slice A0 l0.length c0] w fun e w' => ∃ v0_ : Value, e = .returned (v0_) ∧ Kd.S k38 38 w' w.heap.size (fun _ => True) v0_ r ∧ Below w.heap.size w w' := by
 have hu28 := Try.underlying28
 have hu38 := Try.underlying38
 have HR0 := am hr0
 have HC0 := am hc0
 clear hr0 hc0
 have HB := am (Below.refl w.heap.size w)
 have H : (if 0 ≤ (l0.length : Int) then (if ((l0.length : Int) : Int).toNat ≤ 2706490160679 then (laws_toItemS.l0 k l0 (List.replicate ((l0.length : Int) : Int).toNat z38) 0) else (none)) else (none)) = some r := h
 clear h
 by_cases c2 : 0 ≤ (l0.length : Int)
 case neg => rw [if_neg c2] at H; exact absurd H (by simp)
 rw [if_pos c2] at H
 have c2b0 := eq_true c2
 have c2b1 := decide_eq_true c2
 clear c2
 by_cases c3 : ((l0.length : Int) : Int).toNat ≤ 2706490160679
 case neg => rw [if_neg c3] at H; exact absurd H (by simp)
 rw [if_pos c3] at H
 have c3b0 := eq_true c3
 have c3b1 := decide_eq_true c3
 clear c3
 obtain ⟨y296, hy296⟩ : ∃ y_ : List (S38), y_ = (List.replicate ((l0.length : Int) : Int).toNat z38) := ⟨_, rfl⟩
 replace H : (laws_toItemS.l0 k l0 y296 0) = some r := by first | (rw [hy296]; with_reducible exact H) | (have H2_ := (Option.bind_some _ _).symm.trans H; rw [hy296]; with_reducible exact H2_) | (have H2_ := (Option.bind_some _ _).symm.trans H; with_reducible exact H2_) | with_reducible exact H | (rw [hy296]; exact H) | exact H
 have Ny296 := am hy296
 clear hy296
 have H' := am H
 clear H
 go_enter Try.func22, Try.ntmps22
 go_wp2_with (first | ((with_reducible refine gate_dst (N := 7) rfl ?_); refine Kd.S_make k38 _ 38 rfl (N := 7) rfl 31 _ _ rfl (l0.length : Int) rfl rfl Try.underlying31 (.agg #[(.int .i64 0), (.int .i64 0), (.string ⟨#[]⟩), (.slice none 0 0), (.string ⟨#[]⟩), (.int .i64 0), (.slice none 0 0)]) 104 info38 rfl (by decide) (by omega) z38 (ok := fun _ => True) (okp := fun _ => True) (k38_mkM _ _ _ z38 (Kd.R_nil _ _ _ _ _) (Kd.R_nil _ _ _ _ _)) (fun _ hk => hk) trivial (of_decide_eq_true ab4) (Nat.le_trans (Nat.mul_le_mul_right _ (of_decide_eq_true ab4 : (l0.length : Int).toNat ≤ 2706490160679)) (by omega)) (Below.refl _ _) (Nat.le_refl _) ?_; intro v297 w4 ho5 hb hg_ hnew_; clear hg_ hnew_; (first | rw [← Ny296.out] at ho5 | (simp only [Int.reduceToNat] at ho5; rw [← Ny296.out] at ho5)); have HO298 := am (Kd.S_lower ho5 (below_size ab1)); replace HB := am (below_step ab1 hb); clear hb ho5))
 go_loopg [4] k (fun kq v4 w' => ∃ (x3_1 : List (S38)) (x4_1 : Int), v4 = .int .i64 x4_1 ∧ Aside0 (laws_toItemS.l0 kq l0 x3_1 x4_1 = some r) ∧ Aside0 (kq ≤ k) ∧ Aside0 (Kd.S k38 38 w' w.heap.size (fun _ => True) v297 x3_1) ∧ Aside0 (Below w.heap.size w w'))
 case atStart => exact ⟨(y296), (0), ab6, H', ⟨Nat.le_refl _⟩, ⟨by (with_reducible repeat (first | apply Kd.S_alloc | apply Kd.S_drewN | apply Kd.S_drew)); exact HO298.out⟩, ⟨ab1⟩⟩
 case round =>
  clear H'
  (try clear c2); (try clear c2b0); (try clear c2b1); (try clear p2); (try clear c3); (try clear c3b0); (try clear c3b1)
  obtain ⟨x3_1, x4_1, rfl, HA, HK1, HO_3, HB⟩ := hrel
  cases gk with
  | zero => exact absurd HA.out (by simp [laws_toItemS.l0])
  | succ k1 =>
   have H := HA.out
   clear HA
   simp only [laws_toItemS.l0] at H
   replace H := ir_ H; rcases H with ⟨c6b0, H⟩ | ⟨c6b0, H⟩
   ·replace H := iq_ H; obtain ⟨c7b0, H⟩ := H
    replace H := Option.bind_eq_some_iff.mp H
    obtain ⟨⟨t300, t301, t302, t303, t306, t307, t308⟩, A80, H⟩ := H
    try dsimp only at H
    have A8 := am A80
    clear A80
    replace H := iq_ H; obtain ⟨c9b0, H⟩ := H
    obtain ⟨y311, hy311⟩ : ∃ y_ : List (S38), y_ = (x3_1.set (x4_1 : Int).toNat (⟨t300, t301, t302, t303, t306, t307, t308⟩ : S38)) := ⟨_, rfl⟩
    replace H : (laws_toItemS.l0 k1 l0 y311 (wrap64 (x4_1 + 1))) = some r := by first | (rw [hy311]; with_reducible exact H) | (have H2_ := (Option.bind_some _ _).symm.trans H; rw [hy311]; with_reducible exact H2_) | (have H2_ := (Option.bind_some _ _).symm.trans H; with_reducible exact H2_) | with_reducible exact H | (rw [hy311]; exact H) | exact H
    have Ny311 := am hy311
    clear hy311
    have H' := am H
    clear H
    have p299 : 0 ≤ (x4_1 : Int) := of_decide_eq_true ab4
    have q299 : x4_1 < (l0.length : Int) := of_decide_eq_true ab4
    obtain ⟨ad299, A299_3, c299_3, A299_6, c299_6, e299, hx299_0, hx299_1, hx299_2, hx299_3, hx299_4, hx299_5, hx299_6, hl299_3, hi299_3, hl299_6, hi299_6⟩ := at_T28 HR0.out x4_1 p299 q299
    cases e299
    replace hx299_0 := pc_ HB hx299_0
    replace hx299_1 := pc_ HB hx299_1
    replace hx299_2 := pc_ HB hx299_2
    replace hx299_3 := pc_ HB hx299_3
    replace hx299_4 := pc_ HB hx299_4
    replace hx299_5 := pc_ HB hx299_5
    replace hx299_6 := pc_ HB hx299_6
    have HR299_3 := am hi299_3
    have HC299_3 := am hl299_3
    clear hi299_3 hl299_3
    have HR299_6 := am hi299_6
    have HC299_6 := am hl299_6
    clear hi299_6 hl299_6
    replace p299 := eq_true p299
    replace q299 := eq_true q299
    go_wp2_with (first | ((with_reducible refine gate_callee (f := 8) rfl ?_); refine goesL_ (some 20) rfl rfl Try.func8 (by kernel_rfl) rfl #[.agg #[.int .i64 ((rd_T28 l0 x4_1).f0), .int .i64 ((rd_T28 l0 x4_1).f1), .string ((rd_T28 l0 x4_1).f2), .slice A299_3 ((rd_T28 l0 x4_1).f3).length c299_3, .string ((rd_T28 l0 x4_1).f4), .int .i64 ((rd_T28 l0 x4_1).f5), .slice A299_6 ((rd_T28 l0 x4_1).f6).length c299_6]] rfl ab5 ?_; (with_reducible refine (laws_toItem.calls k1 ((rd_T28 l0 x4_1).f0) ((rd_T28 l0 x4_1).f1) ((rd_T28 l0 x4_1).f2) _ _ ((rd_T28 l0 x4_1).f3) ((rd_T28 l0 x4_1).f4) ((rd_T28 l0 x4_1).f5) _ _ ((rd_T28 l0 x4_1).f6) t300 t301 t302 t303 t306 t307 t308 _ (sc_ HR299_3) HC299_3.out (sc_ HR299_6) HC299_6.out A8.out).mono ?_); rintro e w11 ⟨v304, v309, rfl, ho0, ho1, hb⟩; refine ⟨_, rfl, ?_⟩; replace HO_3 := am (Kd.S_mono (Kd.S_told (Kd.S_told (Kd.S_old (by (with_reducible repeat (first | apply Kd.S_alloc | apply Kd.S_drewN | apply Kd.S_drew)); exact HO_3.out) hb) (Kd.R_base ho0)) (Kd.R_base ho1)) (fun _ h_ => h_.1)); have HO305 := am (Kd.R_lower ho0 (below_size ab1)); have HO310 := am (Kd.R_lower ho1 (below_size ab1)); replace HB := am (below_step ab1 hb); (try clear hb); (try clear hb2); (try clear hk); (try clear hi); (try clear ho0); (try clear ho1); have p10 : 0 ≤ (x4_1 : Int) := of_decide_eq_true ab4; have q10 : (x4_1 : Int) < ((x3_1.length : Int) : Int) := of_decide_eq_true ab4; obtain ⟨go10, co10, eo10, gb10, gl10, cl10, HG10⟩ := Kd.S_form HO_3.out (by omega); (first | cases eo10 | (injection eo10 with ea_ en_ ec_; (first | subst ea_ | (injection ea_ with ea_; subst ea_)); subst ec_; clear en_)); have GB10 := am gb10; have GG10 := am HG10; clear gb10 gl10 HG10; obtain ⟨_, ce10, hcl10, hM10, hcc10, hfr10, _, _⟩ := Kd.S_elem HO_3.out z38 (x4_1 : Int) p10 q10; obtain ⟨ve10_3, ve10_6, rfl, ge10_3, ge10_6⟩ := k38_openM hM10; have hx10_0 : w11.cell? ⟨go10, (x4_1 : Int).toNat * 7, none⟩ = some (.int .i64 ((rd_T38 x3_1 x4_1).f0)) := hcc10 0 _ rfl; have hx10_1 : w11.cell? ⟨go10, (x4_1 : Int).toNat * 7 + 1, none⟩ = some (.int .i64 ((rd_T38 x3_1 x4_1).f1)) := hcc10 1 _ rfl; have hx10_2 : w11.cell? ⟨go10, (x4_1 : Int).toNat * 7 + 2, none⟩ = some (.string ((rd_T38 x3_1 x4_1).f2)) := hcc10 2 _ rfl; have hx10_3 : w11.cell? ⟨go10, (x4_1 : Int).toNat * 7 + 3, none⟩ = some (ve10_3) := hcc10 3 _ rfl; have hx10_4 : w11.cell? ⟨go10, (x4_1 : Int).toNat * 7 + 4, none⟩ = some (.string ((rd_T38 x3_1 x4_1).f4)) := hcc10 4 _ rfl; have hx10_5 : w11.cell? ⟨go10, (x4_1 : Int).toNat * 7 + 5, none⟩ = some (.int .i64 ((rd_T38 x3_1 x4_1).f5)) := hcc10 5 _ rfl; have hx10_6 : w11.cell? ⟨go10, (x4_1 : Int).toNat * 7 + 6, none⟩ = some (ve10_6) := hcc10 6 _ rfl; have hf10_0 : w11.frozen? ⟨go10, (x4_1 : Int).toNat * 7, none⟩ = false := hfr10 0; have hf10_1 : w11.frozen? ⟨go10, (x4_1 : Int).toNat * 7 + 1, none⟩ = false := hfr10 1; have hf10_2 : w11.frozen? ⟨go10, (x4_1 : Int).toNat * 7 + 2, none⟩ = false := hfr10 2; have hf10_3 : w11.frozen? ⟨go10, (x4_1 : Int).toNat * 7 + 3, none⟩ = false := hfr10 3; have hf10_4 : w11.frozen? ⟨go10, (x4_1 : Int).toNat * 7 + 4, none⟩ = false := hfr10 4; have hf10_5 : w11.frozen? ⟨go10, (x4_1 : Int).toNat * 7 + 5, none⟩ = false := hfr10 5; have hf10_6 : w11.frozen? ⟨go10, (x4_1 : Int).toNat * 7 + 6, none⟩ = false := hfr10 6; clear hcl10 hcc10 hfr10 hM10; replace p10 := eq_true p10; replace q10 := eq_true q10; have n_ := am (Kd.S_mono (ok' := (fun k_ => some k_ ≠ (v304 : Value).ownBlock ∧ some k_ ≠ (v309 : Value).ownBlock)) HO_3.out (fun k_ hk => ⟨hk.1.2, hk.2⟩)); clear HO_3; have HO_3 := n_; clear n_; have hsv12_3 := fun (a_ : Addr) (W_ : World) (m_ : Mode) => Go.run_store Try.prog W_ a_ v304 m_ (Kd.R_val HO305.out).2; have hsv12_6 := fun (a_ : Addr) (W_ : World) (m_ : Mode) => Go.run_store Try.prog W_ a_ v309 m_ (Kd.R_val HO310.out).2; have HX12 := am (show Kd.S k38 38 w11 w.heap.size (fun k_ => ((fun _ => True)) k_ ∧ ¬ ((fun k_ => some k_ = (v304 : Value).ownBlock ∨ some k_ = (v309 : Value).ownBlock)) k_) (.slice (some ⟨go10, 0, none⟩) x3_1.length co10) x3_1 from (by (with_reducible repeat (first | apply Kd.S_alloc | apply Kd.S_drewN | apply Kd.S_drew)); exact Kd.S_mono HO_3.out (fun k_ hk => ⟨trivial, fun e_ => e_.elim (fun h_ => hk.1 h_) (fun h_ => hk.2 h_)⟩))); obtain ⟨oki12, ce12, hcl12, hM12, hcc12, hfr12, hoki12, hH12⟩ := Kd.S_elem HX12.out z38 (x4_1 : Int) (of_decide_eq_true ab4) (by have h_ : (x4_1 : Int) < ((x3_1.length : Int) : Int) := of_decide_eq_true ab4; first | exact h_ | (have e_ := (Kd.S_reads' HO_3.out).1; omega) | simpa using h_); obtain ⟨ve12_3, ve12_6, rfl, ge12_3, ge12_6⟩ := k38_openM hM12; have HP12 := Kd.S_seg hH12 (of_decide_eq_true ab4) (by have h_ : (x4_1 : Int) < ((x3_1.length : Int) : Int) := of_decide_eq_true ab4; first | exact h_ | (have e_ := (Kd.S_reads' HO_3.out).1; omega) | simpa using h_) (seg := [.int .i64 t300, .int .i64 t301, .string t302, v304, .string t306, .int .i64 t307, v309]) (j := 0) (show 7 ≤ 7 from by decide) (x' := (⟨t300, t301, t302, t303, t306, t307, t308⟩ : S38)) (k38_mkM _ _ _ (⟨t300, t301, t302, t303, t306, t307, t308⟩ : S38) (Kd.R_mono (Kd.R_tight rfl (Kd.R_mono (ok' := fun k_ => ((fun _ => True)) k_ ∧ k_ ≠ go10) (Kd.R_apart' (HO305.out) (Kd.S_typed HO_3.out) (by decide)) (fun k_ hk => ⟨trivial, fun e_ => (hk.2) (by rw [e_]; rfl)⟩))) (fun _ h_ => Or.inr (Or.inl h_))) (Kd.R_mono (Kd.R_tight rfl (Kd.R_mono (ok' := fun k_ => ((fun _ => True)) k_ ∧ k_ ≠ go10) (Kd.R_apart' (HO310.out) (Kd.S_typed HO_3.out) (by decide)) (fun k_ hk => ⟨trivial, fun e_ => (hk.2) (by rw [e_]; rfl)⟩))) (fun _ h_ => Or.inr (Or.inr (h_))))) (fun _ hk => hk) (fun k_ hk_ => hk_.elim (fun h_ => ((Kd.R_mono (ok' := fun k_ => ((fun _ => True)) k_ ∧ k_ ≠ go10) (Kd.R_apart' (HO305.out) (Kd.S_typed HO_3.out) (by decide)) (fun k_ hk => ⟨trivial, fun e_ => (hk.2) (by rw [e_]; rfl)⟩))).1 k_ h_.symm) (fun h_ => ((Kd.R_mono (ok' := fun k_ => ((fun _ => True)) k_ ∧ k_ ≠ go10) (Kd.R_apart' (HO310.out) (Kd.S_typed HO_3.out) (by decide)) (fun k_ hk => ⟨trivial, fun e_ => (hk.2) (by rw [e_]; rfl)⟩))).1 k_ h_.symm)); have hx12_0 := hcc12 0 _ rfl; (try simp only [show (k38).sz = 7 from rfl, Nat.mul_one, Nat.add_zero] at hx12_0); have hf12_0 := hfr12 0; (try simp only [show (k38).sz = 7 from rfl, Nat.mul_one, Nat.add_zero] at hf12_0); have hx12_1 := hcc12 1 _ rfl; (try simp only [show (k38).sz = 7 from rfl, Nat.mul_one, Nat.add_zero] at hx12_1); have hf12_1 := hfr12 1; (try simp only [show (k38).sz = 7 from rfl, Nat.mul_one, Nat.add_zero] at hf12_1); have hx12_2 := hcc12 2 _ rfl; (try simp only [show (k38).sz = 7 from rfl, Nat.mul_one, Nat.add_zero] at hx12_2); have hf12_2 := hfr12 2; (try simp only [show (k38).sz = 7 from rfl, Nat.mul_one, Nat.add_zero] at hf12_2); have hx12_3 := hcc12 3 _ rfl; (try simp only [show (k38).sz = 7 from rfl, Nat.mul_one, Nat.add_zero] at hx12_3); have hf12_3 := hfr12 3; (try simp only [show (k38).sz = 7 from rfl, Nat.mul_one, Nat.add_zero] at hf12_3); have hx12_4 := hcc12 4 _ rfl; (try simp only [show (k38).sz = 7 from rfl, Nat.mul_one, Nat.add_zero] at hx12_4); have hf12_4 := hfr12 4; (try simp only [show (k38).sz = 7 from rfl, Nat.mul_one, Nat.add_zero] at hf12_4); have hx12_5 := hcc12 5 _ rfl; (try simp only [show (k38).sz = 7 from rfl, Nat.mul_one, Nat.add_zero] at hx12_5); have hf12_5 := hfr12 5; (try simp only [show (k38).sz = 7 from rfl, Nat.mul_one, Nat.add_zero] at hf12_5); have hx12_6 := hcc12 6 _ rfl; (try simp only [show (k38).sz = 7 from rfl, Nat.mul_one, Nat.add_zero] at hx12_6); have hf12_6 := hfr12 6; (try simp only [show (k38).sz = 7 from rfl, Nat.mul_one, Nat.add_zero] at hf12_6); clear hcl12 hcc12 hfr12 hM12 hoki12 hH12) | ((with_reducible refine gate_store (t := 38) (p := 21) rfl ?_); refine store_event (t := 38) (p := 21) (v := ?vo_w13) (w1 := (((((((w11.setCell ⟨go10, (x4_1 : Int).toNat * 7, none⟩ (.int .i64 t300)).setCell ⟨go10, (x4_1 : Int).toNat * 7 + 1, none⟩ (.int .i64 t301)).setCell ⟨go10, (x4_1 : Int).toNat * 7 + 2, none⟩ (.string t302)).setCell ⟨go10, (x4_1 : Int).toNat * 7 + 3, none⟩ (v304)).setCell ⟨go10, (x4_1 : Int).toNat * 7 + 4, none⟩ (.string t306)).setCell ⟨go10, (x4_1 : Int).toNat * 7 + 5, none⟩ (.int .i64 t307)).setCell ⟨go10, (x4_1 : Int).toNat * 7 + 6, none⟩ (v309))) ?hg ?ho ?hn ?hr ?_; (case ho => rfl); (case hg => rfl); (case hn => rfl); (case hr => first | (go_simp; done) | (go_simp; rfl)); intro w13 hw; have hg : w11.grownBy w13 (some go10) := (by rw [hw]; exact HP12.2); have hp_ : Kd.S k38 38 w13 w.heap.size (fun _ => True) (.slice (some ⟨go10, 0, none⟩) x3_1.length co10) y311 := (by rw [hw, Ny311.out]; exact HP12.1); clear HP12; replace HO_3 := am hp_; replace HB := am ((by rw [hw]; exact below_set (below_set (below_set (below_set (below_set (below_set (below_set (HB.out) GB10.out) GB10.out) GB10.out) GB10.out) GB10.out) GB10.out) GB10.out : Below w.heap.size w w13)); clear HO305 HO310; clear hg hw hp_))
    go_roundg k1
    case measure => have := HK1.out; omega
    case rel => exact ⟨(y311), (wrap64 (x4_1 + 1)), ab6, H', ⟨by have := HK1.out; omega⟩, ⟨by (with_reducible repeat (first | apply Kd.S_alloc | apply Kd.S_drewN | apply Kd.S_drew)); exact HO_3.out⟩, ⟨ab1⟩⟩
   ·obtain rfl := Option.some.inj H
    go_wp2
    go_ret
    exact ⟨_, ab7, by (with_reducible repeat (first | apply Kd.S_alloc | apply Kd.S_drewN | apply Kd.S_drew)); exact HO_3.out, ab1⟩
def laws_toPage.f (k : Nat) (l0_0 : List (S28)) (l0_1 : List Int) (l0_2 : List Int) (a0_3 : Int) (a0_4 : Int) : Option ((List (S38)) × List Int × List Int × Int × Int) := (laws_toItemS.f k l0_0).bind fun t315 => ((laws_toIntS.f k l0_1).bind fun t318 => ((laws_toIntS.f k l0_2).bind fun t321 => (some (t315, t318, t321, a0_3, a0_4))))
theorem laws_toPage.calls (k : Nat) (A0_0 : Option Addr) (c0_0 : Nat) (l0_0 : List (S28)) (A0_1 : Option Addr) (c0_1 : Nat) (l0_1 : List Int) (A0_2 : Option Addr) (c0_2 : Nat) (l0_2 : List Int) (a0_3 : Int) (a0_4 : Int) (r1 : List (S38)) (r2 : List Int) (r3 : List Int) (r4 : Int) (r5 : Int) (w : World) (hr0_0 : Kd.C k28 w A0_0 l0_0.length l0_0) (hc0_0 : l0_0.length ≤ c0_0) (hr0_1 : Kd.C (Kd.int .i64) w A0_1 l0_1.length l0_1) (hc0_1 : l0_1.length ≤ c0_1) (hr0_2 : Kd.C (Kd.int .i64) w A0_2 l0_2.length l0_2) (hc0_2 : l0_2.length ≤ c0_2) (h : laws_toPage.f k l0_0 l0_1 l0_2 a0_3 a0_4 = some (r1, r2, r3, r4, r5)) :
  Calls Try.prog 7 #[.agg #[.slice A0_0 l0_0.length c0_0, .slice A0_1 l0_1.length c0_1, .slice A0_2 l0_2.length c0_2, .int .i64 a0_3, .int .i64 a0_4]] w fun e w' => ∃ v0_ v1_ v2_ : Value, e = .returned (.agg #[v0_, v1_, v2_, .int .i64 r4, .int .i64 r5]) ∧ Kd.S k38 38 w' w.heap.size (fun k_ => some k_ ≠ (v1_ : Value).ownBlock ∧ some k_ ≠ (v2_ : Value).ownBlock) v0_ r1 ∧ Kd.R (Kd.int .i64) 3 w' w.heap.size (fun k_ => some k_ ≠ (v2_ : Value).ownBlock) v1_ r2 ∧ Kd.R (Kd.int .i64) 3 w' w.heap.size (fun k_ => some k_ ≠ (v1_ : Value).ownBlock) v2_ r3 ∧ Below w.heap.size w w' := by
 have hu25 := Try.underlying25
 have hu33 := Try.underlying33
 have HR0_0 := am hr0_0
 have HC0_0 := am hc0_0
 clear hr0_0 hc0_0
 have HR0_1 := am hr0_1
 have HC0_1 := am hc0_1
 clear hr0_1 hc0_1
 have HR0_2 := am hr0_2
 have HC0_2 := am hc0_2
 clear hr0_2 hc0_2
 have HB := am (Below.refl w.heap.size w)
 have H : ((laws_toItemS.f k l0_0).bind fun t315 => ((laws_toIntS.f k l0_1).bind fun t318 => ((laws_toIntS.f k l0_2).bind fun t321 => (some (t315, t318, t321, a0_3, a0_4))))) = some (r1, r2, r3, r4, r5) := h
 clear h
 replace H := bi_ H; obtain ⟨t315, A2, H⟩ := H
 replace H := bi_ H; obtain ⟨t318, A3, H⟩ := H
 replace H := bi_ H; obtain ⟨t321, A4, H⟩ := H
 simp only [Option.some.injEq, Prod.mk.injEq] at H
 obtain ⟨rfl, rfl, rfl, rfl, rfl⟩ := H
 go_enter Try.func7, Try.ntmps7
 go_wp2_with (first | ((with_reducible refine gd_ 1 ?_); refine bx_ 1 (cs := #[.slice A0_0 l0_0.length c0_0, .slice A0_1 l0_1.length c0_1, .slice A0_2 l0_2.length c0_2, .int .i64 a0_3, .int .i64 a0_4]) 25 ?_; intro gb312 hg w5 hbox hb; have BK312 := am hbox; have GW312 := ge_ (w := w) hg; have GE312 := ge_ (w := w) hg; replace HB := am (below_step ab1 hb); clear hb hbox hg) | ((with_reducible refine gd_ 2 ?_); refine bx_ 2 (cs := #[.slice none 0 0, .slice none 0 0, .slice none 0 0, .int .i64 0, .int .i64 0]) 33 ?_; intro gb313 hg w6 hbox hb; have BK313 := am hbox; have GW313 := gE_ (w := w) GE312 hg; have GE313 := gE_ (w := w) GE312 hg; replace HB := am (below_step (ab2 GE312) hb); have NB312_313 := nl_ BK312 hg; have NB313_312 := ng_ BK312 hg; replace BK312 := bl_ BK312 hb; clear hb hbox hg) | ((with_reducible refine gd_ 3 ?_); refine bx_ 3 (cs := #[.slice none 0 0, .slice none 0 0, .slice none 0 0, .int .i64 0, .int .i64 0]) 33 ?_; intro gb314 hg w7 hbox hb; have BK314 := am hbox; have GW314 := am ((by rw [hg]; exact (below_size ba_) : w.heap.size ≤ gb314)); have GE314 := am ((by rw [hg]; exact (below_size ba_) : w.heap.size ≤ gb314)); replace HB := am (below_step ba_ hb); have NB312_314 := nl_ BK312 hg; have NB314_312 := ng_ BK312 hg; replace BK312 := bl_ BK312 hb; have NB313_314 := nl_ BK313 hg; have NB314_313 := ng_ BK313 hg; replace BK313 := bl_ BK313 hb; clear hb hbox hg; have hnb8 := NB312_313.out; have hnc8 := NB313_312.out; have hnb9 := NB312_314.out; have hnc9 := NB314_312.out; obtain ⟨⟨_, _, _, _, _⟩, _, _, _, _, _⟩ := Op.cells5 BK312.out) | ((with_reducible refine gf_ 22 ?_); refine gx_ Try.func22 (laws_toItemS.calls k _ _ l0_0 t315 _ (sc_ HR0_0) HC0_0.out A2.out) ?_; rintro v316 w11 ⟨ho0, hb⟩; have HO317 := am (Kd.S_lower ho0 (below_size ba_)); replace BK312 := bl_ BK312 hb; replace BK313 := bl_ BK313 hb; replace BK314 := bl_ BK314 hb; replace HB := am (below_step ba_ hb); (try clear hb); (try clear hb2); (try clear hk); (try clear hi); (try clear ho0); obtain ⟨Ao12, co12, eo12⟩ := Kd.S_slice HO317.out; subst eo12; have hnb13 := NB314_313.out; have hnc13 := NB313_314.out; obtain ⟨⟨_, _, _, _, _⟩, _, _, _, _, _⟩ := Op.cells5 BK314.out; obtain ⟨⟨_, _, _, _, _⟩, _, _, _, _, _⟩ := Op.cells5 BK312.out) | ((with_reducible refine gf_ 23 ?_); refine gx_ Try.func23 (laws_toIntS.calls k _ _ l0_1 t318 _ ?side1 HC0_1.out A3.out) ?_; (case side1 => exact Kd.C_below HR0_1.out ba_); rintro v319 w16 ⟨ho0, hb⟩; replace HO317 := am (Kd.S_elder' (by (with_reducible repeat (first | apply Kd.S_alloc | apply Kd.S_drewN | apply Kd.S_drew)); exact (Kd.S_mono (Kd.S_far (p := ⟨gb314, 0, none⟩) (Kd.S_types HO317.out BK314.out (by decide)) (fun _ hk => hk.2) (.slice Ao12 t315.length co12)) (fun _ h_ => h_.1))) (Kd.R_base ho0) hb); have HO320 := am (Kd.R_lower ho0 (below_size ba_)); replace BK312 := bp_ BK312 hb; replace BK313 := bp_ BK313 hb; replace BK314 := bp_ BK314 hb; replace HB := am (below_step ba_ hb); (try clear hb); (try clear hb2); (try clear hk); (try clear hi); (try clear ho0); obtain ⟨Ao17, co17, eo17⟩ := Kd.R_slice HO320.out; subst eo17; obtain ⟨⟨_, _, _, _, _⟩, _, _, _, _, _⟩ := Op.cells5 BK314.out; obtain ⟨⟨_, _, _, _, _⟩, _, _, _, _, _⟩ := Op.cells5 BK312.out) | ((with_reducible refine gf_ 23 ?_); refine gx_ Try.func23 (laws_toIntS.calls k _ _ l0_2 t321 _ ?side1 HC0_2.out A4.out) ?_; (case side1 => exact Kd.C_below HR0_2.out ba_); rintro v322 w20 ⟨ho0, hb⟩; replace HO317 := am (Kd.S_elder' (by (with_reducible repeat (first | apply Kd.S_alloc | apply Kd.S_drewN | apply Kd.S_drew)); exact (Kd.S_mono (Kd.S_far (p := ⟨gb314, 1, none⟩) (Kd.S_types HO317.out BK314.out (by decide)) (fun _ hk => hk.2) (.slice Ao17 t318.length co17)) (fun _ h_ => h_.1))) (Kd.R_base ho0) hb); have HO323 := am (Kd.R_lower (Kd.R_new' ho0 (Kd.R_lt (by (with_reducible repeat (first | apply Kd.R_alloc | apply Kd.R_drewN | apply Kd.R_drew)); exact (Kd.R_mono (Kd.R_far (p := ⟨gb314, 1, none⟩) (Kd.R_types HO320.out BK314.out (by decide)) (fun _ hk => hk.2) (.slice Ao17 t318.length co17)) (fun _ h_ => h_.1))))) (below_size ba_)); replace HO320 := am (Kd.R_elder' (by (with_reducible repeat (first | apply Kd.R_alloc | apply Kd.R_drewN | apply Kd.R_drew)); exact (Kd.R_mono (Kd.R_far (p := ⟨gb314, 1, none⟩) (Kd.R_types HO320.out BK314.out (by decide)) (fun _ hk => hk.2) (.slice Ao17 t318.length co17)) (fun _ h_ => h_.1))) (Kd.R_base ho0) hb); replace BK312 := bp_ BK312 hb; replace BK313 := bp_ BK313 hb; replace BK314 := bp_ BK314 hb; replace HB := am (below_step ba_ hb); (try clear hb); (try clear hb2); (try clear hk); (try clear hi); (try clear ho0); obtain ⟨Ao21, co21, eo21⟩ := Kd.R_slice HO323.out; subst eo21; obtain ⟨⟨_, _, _, _, _⟩, _, _, _, _, _⟩ := Op.cells5 BK314.out; obtain ⟨⟨_, _, _, _, _⟩, _, _, _, _, _⟩ := Op.cells5 BK312.out; obtain ⟨⟨_, _, _, _, _⟩, _, _, _, _, _⟩ := Op.cells5 BK313.out))
 refine bodyPost_ret (results_cell_row rfl _ _ gb313 33 #[.slice Ao12 t315.length co12, .slice Ao17 t318.length co17, .slice Ao21 t321.length co21, .int .i64 a0_3, .int .i64 a0_4] (0, 0) _ rfl (bq_ BK313) Try.underlying33 rfl (by kernel_rfl)) rfl ?_
 exact ⟨_, _, _, ab7, by (with_reducible repeat (first | apply Kd.S_alloc | apply Kd.S_drewN | apply Kd.S_drew)); exact Kd.S_mono (Kd.S_far (p := ⟨gb313, 4, none⟩) (Kd.S_far (p := ⟨gb313, 3, none⟩) (Kd.S_far (p := ⟨gb313, 2, none⟩) (Kd.S_far (p := ⟨gb313, 1, none⟩) (Kd.S_far (p := ⟨gb313, 0, none⟩) (Kd.S_far (p := ⟨gb314, 4, none⟩) (Kd.S_far (p := ⟨gb314, 3, none⟩) (Kd.S_far (p := ⟨gb314, 2, none⟩) (Kd.S_types (Kd.S_types HO317.out BK314.out (by decide)) BK313.out (by decide)) (fun _ hk => hk.1.2) (.slice Ao21 t321.length co21)) (fun _ hk => hk.1.2) (.int .i64 a0_3)) (fun _ hk => hk.1.2) (.int .i64 a0_4)) (fun _ hk => hk.2) (.slice Ao12 t315.length co12)) (fun _ hk => hk.2) (.slice Ao17 t318.length co17)) (fun _ hk => hk.2) (.slice Ao21 t321.length co21)) (fun _ hk => hk.2) (.int .i64 a0_3)) (fun _ hk => hk.2) (.int .i64 a0_4)) (fun _ hk => ⟨hk.1.1.1.2, hk.1.1.2⟩), by (with_reducible repeat (first | apply Kd.R_alloc | apply Kd.R_drewN | apply Kd.R_drew)); exact Kd.R_mono (Kd.R_far (p := ⟨gb313, 4, none⟩) (Kd.R_far (p := ⟨gb313, 3, none⟩) (Kd.R_far (p := ⟨gb313, 2, none⟩) (Kd.R_far (p := ⟨gb313, 1, none⟩) (Kd.R_far (p := ⟨gb313, 0, none⟩) (Kd.R_far (p := ⟨gb314, 4, none⟩) (Kd.R_far (p := ⟨gb314, 3, none⟩) (Kd.R_far (p := ⟨gb314, 2, none⟩) (Kd.R_types (Kd.R_types HO320.out BK314.out (by decide)) BK313.out (by decide)) (fun _ hk => hk.1.2) (.slice Ao21 t321.length co21)) (fun _ hk => hk.1.2) (.int .i64 a0_3)) (fun _ hk => hk.1.2) (.int .i64 a0_4)) (fun _ hk => hk.2) (.slice Ao12 t315.length co12)) (fun _ hk => hk.2) (.slice Ao17 t318.length co17)) (fun _ hk => hk.2) (.slice Ao21 t321.length co21)) (fun _ hk => hk.2) (.int .i64 a0_3)) (fun _ hk => hk.2) (.int .i64 a0_4)) (fun _ hk => hk.1.1.2), by (with_reducible repeat (first | apply Kd.R_alloc | apply Kd.R_drewN | apply Kd.R_drew)); exact Kd.R_mono (Kd.R_far (p := ⟨gb313, 4, none⟩) (Kd.R_far (p := ⟨gb313, 3, none⟩) (Kd.R_far (p := ⟨gb313, 2, none⟩) (Kd.R_far (p := ⟨gb313, 1, none⟩) (Kd.R_far (p := ⟨gb313, 0, none⟩) (Kd.R_far (p := ⟨gb314, 4, none⟩) (Kd.R_far (p := ⟨gb314, 3, none⟩) (Kd.R_far (p := ⟨gb314, 2, none⟩) (Kd.R_types (Kd.R_types HO323.out BK314.out (by decide)) BK313.out (by decide)) (fun _ hk => hk.1.2) (.slice Ao21 t321.length co21)) (fun _ hk => hk.1.2) (.int .i64 a0_3)) (fun _ hk => hk.1.2) (.int .i64 a0_4)) (fun _ hk => hk.2) (.slice Ao12 t315.length co12)) (fun _ hk => hk.2) (.slice Ao17 t318.length co17)) (fun _ hk => hk.2) (.slice Ao21 t321.length co21)) (fun _ hk => hk.2) (.int .i64 a0_3)) (fun _ hk => hk.2) (.int .i64 a0_4)) (fun _ hk => hk.1.1.2), ba_⟩
theorem z28_0 {q0 p : Prop} (g0 : Aside0 q0) (h : Aside0 q0 → p := by intro g0_; repeat (first | (with_reducible first | exact HK.out | apply Kept.alloc | apply Kept.drewN | apply Kept.drew | refine Kept.setCell ?_ (.inr g0_.out) _) | exact HK.out)) : p := h g0
def laws_markItem.f (k : Nat) (a0_0 : Int) (a0_1 : Int) (a0_2 : ByteArray) (l0_3 : List (S69)) (a0_4 : ByteArray) (a0_5 : Int) (l0_6 : List Int) (a1 : Int) : Option (Int × (List (S69)) × List Int) := (laws_markAttrS.f k l0_3 a1).bind fun bt480 => ((laws_markIntS.f k l0_6 bt480.1).bind fun bt482 => (some (bt482.1, bt480.2, bt482.2)))
theorem laws_markItem.calls (k : Nat) (a0_0 : Int) (a0_1 : Int) (a0_2 : ByteArray) (P0_3_ : Nat → Prop) (u9000_ : Value) (l0_3 : List (S69)) (a0_4 : ByteArray) (a0_5 : Int) (P0_6_ : Nat → Prop) (u9001_ : Value) (l0_6 : List Int) (a1 : Int) (r1 : Int) (r2 : List (S69)) (r3 : List Int) (w0 w : World) (hB : Below w0.heap.size w0 w) (ho0_3 : Kd.R k69 69 w w0.heap.size P0_3_ u9000_ l0_3) (ho0_6 : Kd.R (Kd.int .i64) 3 w w0.heap.size P0_6_ u9001_ l0_6) (h : laws_markItem.f k a0_0 a0_1 a0_2 l0_3 a0_4 a0_5 l0_6 a1 = some (r1, r2, r3)) :
  Calls Try.prog 13 #[.agg #[.int .i64 a0_0, .int .i64 a0_1, .string a0_2, u9000_, .string a0_4, .int .i64 a0_5, u9001_], .int .i64 a1] w fun e w' => e = .returned (.int .i64 r1) ∧ Kd.R k69 69 w' w0.heap.size (fun k_ => ((P0_3_ k_ ∨ P0_6_ k_) ∨ w.heap.size ≤ k_)) u9000_ r2 ∧ Kd.R (Kd.int .i64) 3 w' w0.heap.size (fun k_ => ((P0_3_ k_ ∨ P0_6_ k_) ∨ w.heap.size ≤ k_)) u9001_ r3 ∧ Below w0.heap.size w0 w' ∧ Kept w w' (fun k_ => P0_3_ k_ ∨ P0_6_ k_) := by
 have hu38 := Try.underlying38
 have HO0_3 := am (show Kd.R k69 69 w w0.heap.size (fun k_ => ((P0_3_ k_ ∨ P0_6_ k_) ∨ w.heap.size ≤ k_)) u9000_ l0_3 from Kd.R_mono ho0_3 (fun k_ hk => (.inl (.inl hk))))
 have HO0_6 := am (show Kd.R (Kd.int .i64) 3 w w0.heap.size (fun k_ => ((P0_3_ k_ ∨ P0_6_ k_) ∨ w.heap.size ≤ k_)) u9001_ l0_6 from Kd.R_mono ho0_6 (fun k_ hk => (.inl (.inr hk))))
 have HK := am (Kept.refl w (fun k_ => P0_3_ k_ ∨ P0_6_ k_))
 have HW0 := am hB.size
 have HB := am hB
 clear hB
 have H : ((laws_markAttrS.f k l0_3 a1).bind fun bt480 => ((laws_markIntS.f k l0_6 bt480.1).bind fun bt482 => (some (bt482.1, bt480.2, bt482.2)))) = some (r1, r2, r3) := h
 clear h
 replace H := Option.bind_eq_some_iff.mp H
 obtain ⟨⟨t480, t481⟩, A30, H⟩ := H
 try dsimp only at H
 have A3 := am A30
 clear A30
 replace H := Option.bind_eq_some_iff.mp H
 obtain ⟨⟨t482, t483⟩, A40, H⟩ := H
 try dsimp only at H
 have A4 := am A40
 clear A40
 simp only [Option.some.injEq, Prod.mk.injEq] at H
 obtain ⟨rfl, rfl, rfl⟩ := H
 obtain ⟨Ao5, co5, eo5⟩ := Kd.R_slice HO0_3.out
 subst eo5
 obtain ⟨Ao6, co6, eo6⟩ := Kd.R_slice HO0_6.out
 subst eo6
 go_enter Try.func13, Try.ntmps13
 go_wp2_with (first | ((with_reducible refine gd_ 2 ?_); refine bx_ 2 (cs := #[.int .i64 a0_0, .int .i64 a0_1, .string a0_2, .slice Ao5 l0_3.length co5, .string a0_4, .int .i64 a0_5, .slice Ao6 l0_6.length co6]) 38 ?_; intro gb479 hg w7 hbox hb; replace HO0_3 := am (Kd.R_below (ab8 HO0_3) hb); replace HO0_6 := am (Kd.R_below (ab8 HO0_6) hb); have BK479 := am hbox; have GW479 := am ((by rw [hg]; exact (by first | exact HK.out.1 | exact (show Kept w _ (fun k_ => P0_3_ k_ ∨ P0_6_ k_) from by repeat (first | (with_reducible first | exact HK.out | apply Kept.alloc | apply Kept.drewN | apply Kept.drew) | exact HK.out)).1) : w.heap.size ≤ gb479)); replace HK := am (Kept.below (S := (fun k_ => P0_3_ k_ ∨ P0_6_ k_)) (by repeat (first | (with_reducible first | exact HK.out | apply Kept.alloc | apply Kept.drewN | apply Kept.drew) | exact HK.out)) hb); have GE479 := ge_ (w := w0) hg; replace HB := am (below_step ab1 hb); clear hb hbox hg; obtain ⟨⟨_, _, _, _, _, _, _⟩, _, _, _, _, _, _, _⟩ := Op.cells7 BK479.out) | ((with_reducible refine gf_ 33 ?_); refine gc_ Try.func33 (laws_markAttrS.calls k (fun k_ => some k_ = (.slice Ao5 l0_3.length co5 : Value).ownBlock) (.slice Ao5 l0_3.length co5) l0_3 a1 t480 t481 w0 _ ?side1 (Kd.R_tight rfl HO0_3.out) A3.out) ?_; (case side1 => exact ba_); rintro w9 ⟨hy0, hb, hkp⟩; replace HO0_6 := am (Kd.R_mono (ok' := fun k_ => ((P0_3_ k_ ∨ P0_6_ k_) ∨ w.heap.size ≤ k_)) (Kd.R_keptB ((Kd.R_apart' HO0_6.out (Kd.R_typed HO0_3.out) (by decide))) hkp (fun k_ hk_ hs_ => (hk_.2) hs_)) (fun k_ hk_ => hk_.1.1)); replace BK479 := am (blk_kept (ab3 BK479) hkp (fun hs_ => (fun e_ => (Kd.R_ne HO0_3.out BK479.out (by decide)) e_) hs_)); replace HK := am (Kept.then_ (S := (fun k_ => P0_3_ k_ ∨ P0_6_ k_)) (z28_0 GW479) hkp (fun k_ hs_ => (fun e_ => (HO0_3.out.1 k_ e_.symm)) hs_)); replace HO0_3 := am (Kd.R_reok rfl hy0 (fun k_ e_ => HO0_3.out.1 k_ e_)); replace HB := am hb; (try clear hb); (try clear hkp); (try clear hy0); obtain ⟨⟨_, _, _, _, _, _, _⟩, _, _, _, _, _, _, _⟩ := Op.cells7 BK479.out) | ((with_reducible refine gf_ 32 ?_); refine gc_ Try.func32 (laws_markIntS.calls k (fun k_ => some k_ = (.slice Ao6 l0_6.length co6 : Value).ownBlock) (.slice Ao6 l0_6.length co6) l0_6 t480 t482 t483 w0 _ ?side1 (Kd.R_tight rfl HO0_6.out) A4.out) ?_; (case side1 => exact ba_); rintro w11 ⟨hy0, hb, hkp⟩; replace HO0_3 := am (Kd.R_mono (ok' := fun k_ => ((P0_3_ k_ ∨ P0_6_ k_) ∨ w.heap.size ≤ k_)) (Kd.R_keptB ((Kd.R_apart' HO0_3.out (Kd.R_typed HO0_6.out) (by decide))) hkp (fun k_ hk_ hs_ => (hk_.2) hs_)) (fun k_ hk_ => hk_.1.1)); replace BK479 := am (blk_kept (ab3 BK479) hkp (fun hs_ => (fun e_ => (Kd.R_ne HO0_6.out BK479.out (by decide)) e_) hs_)); replace HK := am (Kept.then_ (S := (fun k_ => P0_3_ k_ ∨ P0_6_ k_)) (z28_0 GW479) hkp (fun k_ hs_ => (fun e_ => (HO0_6.out.1 k_ e_.symm)) hs_)); replace HO0_6 := am (Kd.R_reok rfl hy0 (fun k_ e_ => HO0_6.out.1 k_ e_)); replace HB := am hb; (try clear hb); (try clear hkp); (try clear hy0)))
 go_ret
 exact ⟨ab7, ab8 HO0_3, ab8 HO0_6, ab2 GE479, (z28_0 GW479)⟩
def laws_heldIntS.l0 : Nat → List Int → Int → Int → Option (Int)
 | 0, _, _, _ => none
 | k + 1, x0, x1, x5 => if x5 < (x0.length : Int) then (if 0 ≤ x5 then (if (rd x0 x5) = x1 then (laws_heldIntS.l0 k x0 (wrap64 (x1 + 1)) (wrap64 (x5 + 1))) else (some (-1))) else (none)) else (some x1)
def laws_heldIntS.f (k : Nat) (l0 : List Int) (a1 : Int) : Option (Int) := laws_heldIntS.l0 k l0 a1 0
theorem laws_heldIntS.calls (k : Nat) (A0 : Option Addr) (c0 : Nat) (l0 : List Int) (a1 : Int) (r : Int) (w : World) (hr0 : Kd.C (Kd.int .i64) w A0 l0.length l0) (hc0 : l0.length ≤ c0) (h : laws_heldIntS.f k l0 a1 = some r) :
  Calls Try.prog 35 #[.slice A0 l0.length c0, .int .i64 a1] w fun e w' => e = .returned (.int .i64 r) ∧ Drawn0 w w' := by
 have HR0 := am hr0
 have HC0 := am hc0
 clear hr0 hc0
 have H : (laws_heldIntS.l0 k l0 a1 0) = some r := h
 clear h
 have H' := am H
 clear H
 go_enter Try.func35, Try.ntmps35
 go_wp2
 go_loopg [1, 5] k (fun kq v1 v5 w' => ∃ (x1_1 : Int) (x5_1 : Int), v1 = .int .i64 x1_1 ∧ v5 = .int .i64 x5_1 ∧ Aside0 (laws_heldIntS.l0 kq l0 x1_1 x5_1 = some r) ∧ Aside0 (kq ≤ k) ∧ Drawn0 w w')
 case atStart => exact ⟨(a1), (0), ab6, ab6, H', ⟨Nat.le_refl _⟩, by repeat (first | exact Drawn0.refl _ | apply Drawn0.step)⟩
 case round =>
  clear H'
  try clear p2
  obtain ⟨x1_1, x5_1, rfl, rfl, HA, HK1, ⟨m1, rfl⟩⟩ := hrel
  cases gk with
  | zero => exact absurd HA.out (by simp [laws_heldIntS.l0])
  | succ k1 =>
   have H := HA.out
   clear HA
   simp only [laws_heldIntS.l0] at H
   replace H := ir_ H; rcases H with ⟨c3b0, H⟩ | ⟨c3b0, H⟩
   ·replace H := iq_ H; obtain ⟨c4b0, H⟩ := H
    replace H := ie_ H; rcases H with ⟨c5b0, c5b1, H⟩ | ⟨c5, c5b0, c5b1, H⟩
    ·have H' := am H
     clear H
     have p484 : 0 ≤ (x5_1 : Int) := of_decide_eq_true ab4
     have q484 : x5_1 < (l0.length : Int) := of_decide_eq_true ab4
     obtain ⟨ad484, e484, hx484_0⟩ := Kd.at_int HR0.out x5_1 p484 q484
     cases e484
     replace p484 := eq_true p484
     replace q484 := eq_true q484
     go_wp2
     go_roundg k1
     case measure => have := HK1.out; omega
     case rel => exact ⟨(wrap64 (x1_1 + 1)), (wrap64 (x5_1 + 1)), ab6, ab6, H', ⟨by have := HK1.out; omega⟩, by repeat (first | exact Drawn0.refl _ | apply Drawn0.step)⟩
    ·obtain rfl := Option.some.inj H
     have p484 : 0 ≤ (x5_1 : Int) := of_decide_eq_true ab4
     have q484 : x5_1 < (l0.length : Int) := of_decide_eq_true ab4
     obtain ⟨ad484, e484, hx484_0⟩ := Kd.at_int HR0.out x5_1 p484 q484
     cases e484
     replace p484 := eq_true p484
     replace q484 := eq_true q484
     go_wp2
     go_ret
     exact ⟨ab6, by repeat (first | exact Drawn0.refl _ | apply Drawn0.step)⟩
   ·obtain rfl := Option.some.inj H
    go_wp2
    go_ret
    exact ⟨ab6, by repeat (first | exact Drawn0.refl _ | apply Drawn0.step)⟩
def laws_heldAttrS.l0 : Nat → List (S69) → Int → Int → Option (Int)
 | 0, _, _, _ => none
 | k + 1, x0, x1, x5 => if x5 < (x0.length : Int) then (if 0 ≤ x5 then ((laws_markText.f k x1).bind fun t486 => (if ((rd_T69 x0 x5).f0).toList = t486.toList then ((laws_markText.f k (wrap64 (x1 + 1))).bind fun t488 => (if ((rd_T69 x0 x5).f1).toList = t488.toList then (laws_heldAttrS.l0 k x0 (wrap64 ((wrap64 (x1 + 1)) + 1)) (wrap64 (x5 + 1))) else (some (-1)))) else (some (-1)))) else (none)) else (some x1)
def laws_heldAttrS.f (k : Nat) (l0 : List (S69)) (a1 : Int) : Option (Int) := laws_heldAttrS.l0 k l0 a1 0
def laws_heldAttrS.T4 : Bool × List (List Nat × List Nat) := (true, [([], []), ([], []), ([0, 1], [0, 1]), ([2], [2]), ([3], [3]), ([], []), ([5], [5]), ([4, 6], [4, 6])])
def laws_heldAttrS.B4 : List Nat := [0, 0, 3, 7, 15, 0, 32, 127]
theorem laws_heldAttrS.tab4 : rtab .any (opsOf Try.f57 4) = laws_heldAttrS.T4 := by kernel_rfl
theorem laws_heldAttrS.bits4 : waitsOk laws_heldAttrS.T4.2 laws_heldAttrS.B4 = true := by kernel_rfl
def laws_heldAttrS.T7 : Bool × List (List Nat × List Nat) := (true, [([], []), ([], []), ([0, 1], [0, 1]), ([2], [2]), ([3], [3]), ([], []), ([5], [5]), ([4, 6], [4, 6])])
def laws_heldAttrS.B7 : List Nat := [0, 0, 3, 7, 15, 0, 32, 127]
theorem laws_heldAttrS.tab7 : rtab .any (opsOf Try.f57 7) = laws_heldAttrS.T7 := by kernel_rfl
theorem laws_heldAttrS.bits7 : waitsOk laws_heldAttrS.T7.2 laws_heldAttrS.B7 = true := by kernel_rfl
theorem laws_heldAttrS.calls (k : Nat) (A0 : Option Addr) (c0 : Nat) (l0 : List (S69)) (a1 : Int) (r : Int) (w : World) (hr0 : Kd.C k69 w A0 l0.length l0) (hc0 : l0.length ≤ c0) (h : laws_heldAttrS.f k l0 a1 = some r) :
  Calls Try.prog 57 #[.slice A0 l0.length c0, .int .i64 a1] w fun e w' => e = .returned (.int .i64 r) ∧ Below w.heap.size w w' := by
 have HR0 := am hr0
 have HC0 := am hc0
 clear hr0 hc0
 have HB := am (Below.refl w.heap.size w)
 have H : (laws_heldAttrS.l0 k l0 a1 0) = some r := h
 clear h
 have H' := am H
 clear H
 go_enter Try.func57, Try.ntmps57
 go_wp2
 go_loopg [1, 5] k (fun kq v1 v5 w' => ∃ (x1_1 : Int) (x5_1 : Int), v1 = .int .i64 x1_1 ∧ v5 = .int .i64 x5_1 ∧ Aside0 (laws_heldAttrS.l0 kq l0 x1_1 x5_1 = some r) ∧ Aside0 (kq ≤ k) ∧ Aside0 (Below w.heap.size w w'))
 case atStart => exact ⟨(a1), (0), ab6, ab6, H', ⟨Nat.le_refl _⟩, ⟨ab1⟩⟩
 case round =>
  clear H'
  try clear p2
  obtain ⟨x1_1, x5_1, rfl, rfl, HA, HK1, HB⟩ := hrel
  cases gk with
  | zero => exact absurd HA.out (by simp [laws_heldAttrS.l0])
  | succ k1 =>
   have H := HA.out
   clear HA
   simp only [laws_heldAttrS.l0] at H
   replace H := ir_ H; rcases H with ⟨c3b0, H⟩ | ⟨c3b0, H⟩
   ·replace H := iq_ H; obtain ⟨c4b0, H⟩ := H
    replace H := bi_ H; obtain ⟨t486, A5, H⟩ := H
    replace H := ie_ H; rcases H with ⟨c6b0, c6b1, H⟩ | ⟨c6, c6b0, c6b1, H⟩
    ·replace H := bi_ H; obtain ⟨t488, A7, H⟩ := H
     replace H := ie_ H; rcases H with ⟨c8b0, c8b1, H⟩ | ⟨c8, c8b0, c8b1, H⟩
     ·have H' := am H
      clear H
      try go_wp2
      replace HB := am (below_drew1 HB.out)
      have p485 : 0 ≤ (x5_1 : Int) := of_decide_eq_true ab4
      have q485 : x5_1 < (l0.length : Int) := of_decide_eq_true ab4
      obtain ⟨ad485, e485, hx485_0, hx485_1⟩ := at_T69 HR0.out x5_1 p485 q485
      have hw485_1 := hx485_1
      have hw485_0 := hx485_0
      cases e485
      replace hx485_0 := pc_ HB hx485_0
      replace hx485_1 := pc_ HB hx485_1
      replace p485 := eq_true p485
      replace q485 := eq_true q485
      refine start_ (n := 8) (S := fun w' => w'.cell? (ad485.add ((x5_1).toNat * 2)) = some (.string ((rd_T69 l0 x5_1).f0)) ∧ w'.cell? ⟨(ad485.add ((x5_1).toNat * 2)).block, (ad485.add ((x5_1).toNat * 2)).off + 1, none⟩ = some (.string ((rd_T69 l0 x5_1).f1))) (ds := []) #[false, false, false, false, false, false, false, false] (by kernel_rfl) rfl rfl ⟨(pc_ HB hw485_0 :), (pc_ HB hw485_1 :)⟩ (fun hHeld => ?_); refine with_tabW laws_heldAttrS.tab4 laws_heldAttrS.bits4 (fun HT_ HW_ => ?_)
      generalize wr.drew = w9 at HB hx485_0 hx485_1 hHeld ⊢
      refine pa_ 0 12 HT_ ?_
      refine pa_ 1 13 HT_ ?_
      refine pa_ 2 14 HT_ ?_
      refine pa_ 3 15 HT_ ?_
      refine pa_ 5 17 HT_ ?_
      refine tk_ 4 16 HT_ HW_ hHeld ?_
      refine on_ 6 18 HT_ fun K hK => ?_
      refine goes_ Try.func56 (by kernel_rfl) rfl #[.int .i64 x1_1] (by rfl) rfl rfl ab5 ?_
      with_reducible refine (laws_markText.calls k1 x1_1 t486 _ A5.out).mono ?_
      rintro e w10 ⟨rfl, hb⟩
      refine ⟨_, rfl, ?_⟩
      replace HB := am (below_step ab1 hb)
      (try clear hb)
      (try clear hb2)
      (try clear hk)
      (try clear hi)
      refine hK.out _ _ ⟨(pc_ HB hw485_0 :), (pc_ HB hw485_1 :)⟩ (fun hHeld => ?_)
      clear hK K
      refine nm_ ?_
      refine pa_ 7 19 HT_ ?_
      refine dn_ HT_ ?_
      try go_wp2
      replace HB := am (below_drew1 HB.out)
      have p487 : 0 ≤ (x5_1 : Int) := of_decide_eq_true ab4
      have q487 : x5_1 < (l0.length : Int) := of_decide_eq_true ab4
      obtain ⟨ad487, e487, hx487_0, hx487_1⟩ := at_T69 HR0.out x5_1 p487 q487
      have hw487_1 := hx487_1
      have hw487_0 := hx487_0
      obtain rfl : ad485 = ad487 := (by injection e487)
      replace hx487_0 := pc_ HB hx487_0
      replace hx487_1 := pc_ HB hx487_1
      replace p487 := eq_true p487
      replace q487 := eq_true q487
      refine start_ (n := 8) (S := fun w' => w'.cell? (ad485.add ((x5_1).toNat * 2)) = some (.string ((rd_T69 l0 x5_1).f0)) ∧ w'.cell? ⟨(ad485.add ((x5_1).toNat * 2)).block, (ad485.add ((x5_1).toNat * 2)).off + 1, none⟩ = some (.string ((rd_T69 l0 x5_1).f1))) (ds := []) #[false, false, false, false, false, false, false, false] (by kernel_rfl) rfl rfl ⟨(pc_ HB hw487_0 :), (pc_ HB hw487_1 :)⟩ (fun hHeld => ?_); refine with_tabW laws_heldAttrS.tab7 laws_heldAttrS.bits7 (fun HT_ HW_ => ?_)
      generalize w10.drew = w11 at HB hx487_0 hx487_1 hHeld ⊢
      refine pa_ 0 22 HT_ ?_
      refine pa_ 1 23 HT_ ?_
      refine pa_ 2 24 HT_ ?_
      refine pa_ 3 25 HT_ ?_
      refine pa_ 5 27 HT_ ?_
      refine tk_ 4 26 HT_ HW_ hHeld ?_
      refine on_ 6 28 HT_ fun K hK => ?_
      refine goes_ Try.func56 (by kernel_rfl) rfl #[.int .i64 (wrap64 (x1_1 + 1))] (by rfl) rfl rfl ab5 ?_
      with_reducible refine (laws_markText.calls k1 (wrap64 (x1_1 + 1)) t488 _ A7.out).mono ?_
      rintro e w12 ⟨rfl, hb⟩
      refine ⟨_, rfl, ?_⟩
      replace HB := am (below_step ab1 hb)
      (try clear hb)
      (try clear hb2)
      (try clear hk)
      (try clear hi)
      refine hK.out _ _ ⟨(pc_ HB hw487_0 :), (pc_ HB hw487_1 :)⟩ (fun hHeld => ?_)
      clear hK K
      refine nm_ ?_
      refine pa_ 7 29 HT_ ?_
      refine dn_ HT_ ?_
      try go_wp2
      go_roundg k1
      case measure => have := HK1.out; omega
      case rel => exact ⟨(wrap64 ((wrap64 (x1_1 + 1)) + 1)), (wrap64 (x5_1 + 1)), ab6, ab6, H', ⟨by have := HK1.out; omega⟩, ⟨ab1⟩⟩
     ·obtain rfl := Option.some.inj H
      try go_wp2
      replace HB := am (below_drew1 HB.out)
      have p485 : 0 ≤ (x5_1 : Int) := of_decide_eq_true ab4
      have q485 : x5_1 < (l0.length : Int) := of_decide_eq_true ab4
      obtain ⟨ad485, e485, hx485_0, hx485_1⟩ := at_T69 HR0.out x5_1 p485 q485
      have hw485_1 := hx485_1
      have hw485_0 := hx485_0
      cases e485
      replace hx485_0 := pc_ HB hx485_0
      replace hx485_1 := pc_ HB hx485_1
      replace p485 := eq_true p485
      replace q485 := eq_true q485
      refine start_ (n := 8) (S := fun w' => w'.cell? (ad485.add ((x5_1).toNat * 2)) = some (.string ((rd_T69 l0 x5_1).f0)) ∧ w'.cell? ⟨(ad485.add ((x5_1).toNat * 2)).block, (ad485.add ((x5_1).toNat * 2)).off + 1, none⟩ = some (.string ((rd_T69 l0 x5_1).f1))) (ds := []) #[false, false, false, false, false, false, false, false] (by kernel_rfl) rfl rfl ⟨(pc_ HB hw485_0 :), (pc_ HB hw485_1 :)⟩ (fun hHeld => ?_); refine with_tabW laws_heldAttrS.tab4 laws_heldAttrS.bits4 (fun HT_ HW_ => ?_)
      generalize wr.drew = w13 at HB hx485_0 hx485_1 hHeld ⊢
      refine pa_ 0 12 HT_ ?_
      refine pa_ 1 13 HT_ ?_
      refine pa_ 2 14 HT_ ?_
      refine pa_ 3 15 HT_ ?_
      refine pa_ 5 17 HT_ ?_
      refine tk_ 4 16 HT_ HW_ hHeld ?_
      refine on_ 6 18 HT_ fun K hK => ?_
      refine goes_ Try.func56 (by kernel_rfl) rfl #[.int .i64 x1_1] (by rfl) rfl rfl ab5 ?_
      with_reducible refine (laws_markText.calls k1 x1_1 t486 _ A5.out).mono ?_
      rintro e w14 ⟨rfl, hb⟩
      refine ⟨_, rfl, ?_⟩
      replace HB := am (below_step ab1 hb)
      (try clear hb)
      (try clear hb2)
      (try clear hk)
      (try clear hi)
      refine hK.out _ _ ⟨(pc_ HB hw485_0 :), (pc_ HB hw485_1 :)⟩ (fun hHeld => ?_)
      clear hK K
      refine nm_ ?_
      refine pa_ 7 19 HT_ ?_
      refine dn_ HT_ ?_
      try go_wp2
      replace HB := am (below_drew1 HB.out)
      have p487 : 0 ≤ (x5_1 : Int) := of_decide_eq_true ab4
      have q487 : x5_1 < (l0.length : Int) := of_decide_eq_true ab4
      obtain ⟨ad487, e487, hx487_0, hx487_1⟩ := at_T69 HR0.out x5_1 p487 q487
      have hw487_1 := hx487_1
      have hw487_0 := hx487_0
      obtain rfl : ad485 = ad487 := (by injection e487)
      replace hx487_0 := pc_ HB hx487_0
      replace hx487_1 := pc_ HB hx487_1
      replace p487 := eq_true p487
      replace q487 := eq_true q487
      refine start_ (n := 8) (S := fun w' => w'.cell? (ad485.add ((x5_1).toNat * 2)) = some (.string ((rd_T69 l0 x5_1).f0)) ∧ w'.cell? ⟨(ad485.add ((x5_1).toNat * 2)).block, (ad485.add ((x5_1).toNat * 2)).off + 1, none⟩ = some (.string ((rd_T69 l0 x5_1).f1))) (ds := []) #[false, false, false, false, false, false, false, false] (by kernel_rfl) rfl rfl ⟨(pc_ HB hw487_0 :), (pc_ HB hw487_1 :)⟩ (fun hHeld => ?_); refine with_tabW laws_heldAttrS.tab7 laws_heldAttrS.bits7 (fun HT_ HW_ => ?_)
      generalize w14.drew = w15 at HB hx487_0 hx487_1 hHeld ⊢
      refine pa_ 0 22 HT_ ?_
      refine pa_ 1 23 HT_ ?_
      refine pa_ 2 24 HT_ ?_
      refine pa_ 3 25 HT_ ?_
      refine pa_ 5 27 HT_ ?_
      refine tk_ 4 26 HT_ HW_ hHeld ?_
      refine on_ 6 28 HT_ fun K hK => ?_
      refine goes_ Try.func56 (by kernel_rfl) rfl #[.int .i64 (wrap64 (x1_1 + 1))] (by rfl) rfl rfl ab5 ?_
      with_reducible refine (laws_markText.calls k1 (wrap64 (x1_1 + 1)) t488 _ A7.out).mono ?_
      rintro e w16 ⟨rfl, hb⟩
      refine ⟨_, rfl, ?_⟩
      replace HB := am (below_step ab1 hb)
      (try clear hb)
      (try clear hb2)
      (try clear hk)
      (try clear hi)
      refine hK.out _ _ ⟨(pc_ HB hw487_0 :), (pc_ HB hw487_1 :)⟩ (fun hHeld => ?_)
      clear hK K
      refine nm_ ?_
      refine pa_ 7 29 HT_ ?_
      refine dn_ HT_ ?_
      try go_wp2
      go_ret
      exact ⟨ab7, ab1⟩
    ·obtain rfl := Option.some.inj H
     try go_wp2
     replace HB := am (below_drew1 HB.out)
     have p485 : 0 ≤ (x5_1 : Int) := of_decide_eq_true ab4
     have q485 : x5_1 < (l0.length : Int) := of_decide_eq_true ab4
     obtain ⟨ad485, e485, hx485_0, hx485_1⟩ := at_T69 HR0.out x5_1 p485 q485
     have hw485_1 := hx485_1
     have hw485_0 := hx485_0
     cases e485
     replace hx485_0 := pc_ HB hx485_0
     replace hx485_1 := pc_ HB hx485_1
     replace p485 := eq_true p485
     replace q485 := eq_true q485
     refine start_ (n := 8) (S := fun w' => w'.cell? (ad485.add ((x5_1).toNat * 2)) = some (.string ((rd_T69 l0 x5_1).f0)) ∧ w'.cell? ⟨(ad485.add ((x5_1).toNat * 2)).block, (ad485.add ((x5_1).toNat * 2)).off + 1, none⟩ = some (.string ((rd_T69 l0 x5_1).f1))) (ds := []) #[false, false, false, false, false, false, false, false] (by kernel_rfl) rfl rfl ⟨(pc_ HB hw485_0 :), (pc_ HB hw485_1 :)⟩ (fun hHeld => ?_); refine with_tabW laws_heldAttrS.tab4 laws_heldAttrS.bits4 (fun HT_ HW_ => ?_)
     generalize wr.drew = w17 at HB hx485_0 hx485_1 hHeld ⊢
     refine pa_ 0 12 HT_ ?_
     refine pa_ 1 13 HT_ ?_
     refine pa_ 2 14 HT_ ?_
     refine pa_ 3 15 HT_ ?_
     refine pa_ 5 17 HT_ ?_
     refine tk_ 4 16 HT_ HW_ hHeld ?_
     refine on_ 6 18 HT_ fun K hK => ?_
     refine goes_ Try.func56 (by kernel_rfl) rfl #[.int .i64 x1_1] (by rfl) rfl rfl ab5 ?_
     with_reducible refine (laws_markText.calls k1 x1_1 t486 _ A5.out).mono ?_
     rintro e w18 ⟨rfl, hb⟩
     refine ⟨_, rfl, ?_⟩
     replace HB := am (below_step ab1 hb)
     (try clear hb)
     (try clear hb2)
     (try clear hk)
     (try clear hi)
     refine hK.out _ _ ⟨(pc_ HB hw485_0 :), (pc_ HB hw485_1 :)⟩ (fun hHeld => ?_)
     clear hK K
     refine nm_ ?_
     refine pa_ 7 19 HT_ ?_
     refine dn_ HT_ ?_
     try go_wp2
     go_ret
     exact ⟨ab7, ab1⟩
   ·obtain rfl := Option.some.inj H
    go_wp2
    go_ret
    exact ⟨ab7, ab1⟩
end Go.Proofs.Ytekkalnafngfeaa.P
