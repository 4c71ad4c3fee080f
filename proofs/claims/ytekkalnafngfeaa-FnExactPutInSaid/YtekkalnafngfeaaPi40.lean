-- WRITTEN BY this session's own programs
import Derived.Test.YtekkalnafngfeaaPi37
import Derived.Test.YtekkalnafngfeaaPi16
import Derived.Test.YtekkalnafngfeaaPi38
import Derived.Test.YtekkalnafngfeaaPi28
import Derived.Test.YtekkalnafngfeaaPi30
namespace Go.Proofs.Ytekkalnafngfeaa.P
open Go Go.RowKit Go.Proofs.YtekkalnafngfeaaW.PrintWords Go.Proofs.YtekkalnafngfeaaW.PrintLast Go.Proofs.YtekkalnafngfeaaW.PrintMore
set_option linter.unusedVariables false
set_option linter.unusedSimpArgs false
set_option maxHeartbeats 16000000
set_option maxRecDepth 100000
attribute [local go_sem] max2_int min2_int max_two min_two max_three min_three max_four min_four
def laws_FnExactPutIn.f (k : Nat) (l0 : List S28) (l1 l2 : List Int) (h b : Int) (b0 b1 : Int) (b2 : ByteArray) (l3 : List S63) (b4 : ByteArray) (b5 : Int) (l6 : List Int) : Option Bool :=
 (laws_szPage.f k l0 l1 l2 h b 1048576).bind fun n => if n < 0 then some true else
 (laws_szItem.f k b0 b1 b2 l3 b4 b5 l6 n).bind fun m => if m < 0 then some true else
 (laws_toPage.f k l0 l1 l2 h b).bind fun x => (laws_toItem.f k b0 b1 b2 l3 b4 b5 l6).bind fun y =>
 (spec_PutIn.f k x.1 x.2.1 x.2.2.1 x.2.2.2.1 x.2.2.2.2 y.1 y.2.1 y.2.2.1 y.2.2.2.1 y.2.2.2.2.1 y.2.2.2.2.2.1 y.2.2.2.2.2.2).bind fun q =>
 (impl_PutIn.f k x.1 x.2.1 x.2.2.1 x.2.2.2.1 x.2.2.2.2 y.1 y.2.1 y.2.2.1 y.2.2.2.1 y.2.2.2.2.1 y.2.2.2.2.2.1).bind fun g =>
 (laws_eqPage.f k g.1 g.2.1 g.2.2.1 g.2.2.2.1 g.2.2.2.2 q.1 q.2.1 q.2.2.1 q.2.2.2.1 q.2.2.2.2).bind fun t1 => if t1 = true then
 (laws_eqPage.f k x.1 x.2.1 x.2.2.1 x.2.2.2.1 x.2.2.2.2 x.1 x.2.1 x.2.2.1 x.2.2.2.1 x.2.2.2.2).bind fun t2 => if t2 = true then
 (laws_eqItem.f k y.1 y.2.1 y.2.2.1 y.2.2.2.1 y.2.2.2.2.1 y.2.2.2.2.2.1 y.2.2.2.2.2.2 y.1 y.2.1 y.2.2.1 y.2.2.2.1 y.2.2.2.2.1 y.2.2.2.2.2.1 y.2.2.2.2.2.2).bind fun t3 => if t3 = true then
 (laws_markPage.f k x.1 x.2.1 x.2.2.1 1).bind fun u => (laws_markItem.f k y.1 y.2.1 y.2.2.1 y.2.2.2.1 y.2.2.2.2.1 y.2.2.2.2.2.1 y.2.2.2.2.2.2 u.1).bind fun v => if v.1 < 0 then none else
 (laws_markPage.f k g.1 g.2.1 g.2.2.1 1).bind fun z => (laws_heldPage.f k z.2.1 z.2.2.1 z.2.2.2 g.2.2.2.1 g.2.2.2.2 1).bind fun j => if j < 0 then none else if j = z.1 then some true else none
 else none else none else none
theorem laws_FnExactPutIn.calls (k : Nat) (A0 : Option Addr) (c0 : Nat) (l0 : List S28) (A1 : Option Addr) (c1 : Nat) (l1 : List Int) (A2 : Option Addr) (c2 : Nat) (l2 : List Int) (h b : Int) (b0 b1 : Int) (b2 : ByteArray) (A3 : Option Addr) (c3 : Nat) (l3 : List S63) (b4 : ByteArray) (b5 : Int) (A6 : Option Addr) (c6 : Nat) (l6 : List Int) (w : World) (hp0 : Kd.C k28 w A0 l0.length l0) (hd0 : l0.length ≤ c0) (hp1 : Kd.C (Kd.int .i64) w A1 l1.length l1) (hd1 : l1.length ≤ c1) (hp2 : Kd.C (Kd.int .i64) w A2 l2.length l2) (hd2 : l2.length ≤ c2) (hp3 : Kd.C k63 w A3 l3.length l3) (hd3 : l3.length ≤ c3) (hp6 : Kd.C (Kd.int .i64) w A6 l6.length l6) (hd6 : l6.length ≤ c6) (M_ : Int) (hm_ : w.cell? ⟨0, 0, none⟩ = some (.int .i64 M_)) (H : laws_FnExactPutIn.f k l0 l1 l2 h b b0 b1 b2 l3 b4 b5 l6 = some true) :
  Calls Try.prog 3 #[.agg #[.slice A0 l0.length c0, .slice A1 l1.length c1, .slice A2 l2.length c2, .int .i64 h, .int .i64 b], .agg #[.int .i64 b0, .int .i64 b1, .string b2, .slice A3 l3.length c3, .string b4, .int .i64 b5, .slice A6 l6.length c6]] w fun e w' => e = .returned (.bool true) ∧ Below w.heap.size w w' := by
 unfold laws_FnExactPutIn.f at H
 obtain ⟨n, hn, H⟩ := Option.bind_eq_some_iff.mp H
 have hu25 := Try.underlying25
 have hu28 := Try.underlying28
 have hu33 := Try.underlying33
 have hu38 := Try.underlying38
 have Hhp0 := am hp0
 have Hhd0 := am hd0
 have Hhp1 := am hp1
 have Hhd1 := am hd1
 have Hhp2 := am hp2
 have Hhd2 := am hd2
 have Hhp3 := am hp3
 have Hhd3 := am hd3
 have Hhp6 := am hp6
 have Hhd6 := am hd6
 have Hhm_ := am hm_
 have HX := am (Below.refl w.heap.size w)
 have AN := am hn
 clear hn hp0 hd0 hp1 hd1 hp2 hd2 hp3 hd3 hp6 hd6 hm_
 by_cases cn : n < 0
 ·have cnb : decide (n < 0) = true := decide_eq_true cn
  clear H cn
  go_enter Try.func3, Try.ntmps3
  go_wp2_with (first | ((with_reducible refine gd_ 2 ?_); refine bx_ 2 (cs := #[.slice A0 l0.length c0, .slice A1 l1.length c1, .slice A2 l2.length c2, .int .i64 h, .int .i64 b]) 25 ?_; intro gbp hg wp hbox hb; have GEp := gE HX hg; replace HX := xb HX hb; have BKp := am hbox; clear hb hbox hg) | ((with_reducible refine gd_ 3 ?_); refine bx_ 3 (cs := #[.int .i64 b0, .int .i64 b1, .string b2, .slice A3 l3.length c3, .string b4, .int .i64 b5, .slice A6 l6.length c6]) 28 ?_; intro gbi hg wi hbox hb; have GEi := gE HX hg; have NEp_i := nE BKp hg; replace BKp := bb BKp hb; replace HX := xb HX hb; have BKi := am hbox; clear hb hbox hg; obtain ⟨h2p0, h2p1, h2p2, h2p3, h2p4⟩ := cl5 BKp) | (go_at_call 4; (with_reducible refine (laws_szPage.calls k A0 c0 l0 A1 c1 l1 A2 c2 l2 h b 1048576 n _ ?sa Hhd0.out ?sb Hhd1.out ?sc Hhd2.out AN.out).mono ?_); (case sa => exact Kd.C_below Hhp0.out HX.out); (case sb => exact Kd.C_below Hhp1.out HX.out); (case sc => exact Kd.C_below Hhp2.out HX.out); rintro e wq ⟨rfl, hb⟩; replace BKp := bb BKp hb; replace BKi := bb BKi hb; replace HX := xb HX hb; clear hb; (try clear h2p0 h2p1 h2p2 h2p3 h2p4); obtain ⟨h3i0, h3i1, h3i2, h3i3, h3i4, h3i5, h3i6⟩ := cl7 BKi))
  go_ret
  exact ⟨rfl, HX.out⟩
 rw [if_neg cn] at H
 have cnb : decide (n < 0) = false := decide_eq_false cn
 clear cn
 obtain ⟨m, hm, H⟩ := Option.bind_eq_some_iff.mp H
 have AM := am hm
 clear hm
 by_cases cm : m < 0
 ·have cmb : decide (m < 0) = true := decide_eq_true cm
  clear H cm
  go_enter Try.func3, Try.ntmps3
  go_wp2_with (first | ((with_reducible refine gd_ 2 ?_); refine bx_ 2 (cs := #[.slice A0 l0.length c0, .slice A1 l1.length c1, .slice A2 l2.length c2, .int .i64 h, .int .i64 b]) 25 ?_; intro gbp hg wp hbox hb; have GEp := gE HX hg; replace HX := xb HX hb; have BKp := am hbox; clear hb hbox hg) | ((with_reducible refine gd_ 3 ?_); refine bx_ 3 (cs := #[.int .i64 b0, .int .i64 b1, .string b2, .slice A3 l3.length c3, .string b4, .int .i64 b5, .slice A6 l6.length c6]) 28 ?_; intro gbi hg wi hbox hb; have GEi := gE HX hg; have NEp_i := nE BKp hg; replace BKp := bb BKp hb; replace HX := xb HX hb; have BKi := am hbox; clear hb hbox hg; obtain ⟨h2p0, h2p1, h2p2, h2p3, h2p4⟩ := cl5 BKp) | (go_at_call 4; (with_reducible refine (laws_szPage.calls k A0 c0 l0 A1 c1 l1 A2 c2 l2 h b 1048576 n _ ?sa Hhd0.out ?sb Hhd1.out ?sc Hhd2.out AN.out).mono ?_); (case sa => exact Kd.C_below Hhp0.out HX.out); (case sb => exact Kd.C_below Hhp1.out HX.out); (case sc => exact Kd.C_below Hhp2.out HX.out); rintro e wq ⟨rfl, hb⟩; replace BKp := bb BKp hb; replace BKi := bb BKi hb; replace HX := xb HX hb; clear hb; (try clear h2p0 h2p1 h2p2 h2p3 h2p4); obtain ⟨h3i0, h3i1, h3i2, h3i3, h3i4, h3i5, h3i6⟩ := cl7 BKi) | (go_at_call 5; (with_reducible refine (laws_szItem.calls k b0 b1 b2 A3 c3 l3 b4 b5 A6 c6 l6 n m _ ?sd Hhd3.out ?se Hhd6.out AM.out).mono ?_); (case sd => exact Kd.C_below Hhp3.out HX.out); (case se => exact Kd.C_below Hhp6.out HX.out); rintro e wr ⟨rfl, hb⟩; replace BKp := bb BKp hb; replace BKi := bb BKi hb; replace HX := xb HX hb; clear hb; (try clear h3i0 h3i1 h3i2 h3i3 h3i4 h3i5 h3i6)))
  go_ret
  exact ⟨rfl, HX.out⟩
 rw [if_neg cm] at H
 have cmb : decide (m < 0) = false := decide_eq_false cm
 clear cm
 obtain ⟨⟨x0, x1, x2, x3, x4⟩, hx, H⟩ := Option.bind_eq_some_iff.mp H
 obtain ⟨⟨y0, y1, y2, y3, y4, y5, y6⟩, hy, H⟩ := Option.bind_eq_some_iff.mp H
 obtain ⟨⟨q0, q1, q2, q3, q4⟩, hq, H⟩ := Option.bind_eq_some_iff.mp H
 obtain ⟨⟨g0, g1, g2, g3, g4⟩, hg, H⟩ := Option.bind_eq_some_iff.mp H
 obtain ⟨t1, h1, H⟩ := Option.bind_eq_some_iff.mp H
 dsimp only at hx hy hq hg h1 H
 obtain rfl : t1 = true := by
  cases t1
  ·exact absurd H (by simp)
  ·rfl
 simp only [if_true] at H
 obtain ⟨t2, h2, H⟩ := Option.bind_eq_some_iff.mp H
 obtain rfl : t2 = true := by
  cases t2
  ·exact absurd H (by simp)
  ·rfl
 simp only [if_true] at H
 obtain ⟨t3, h3, H⟩ := Option.bind_eq_some_iff.mp H
 obtain rfl : t3 = true := by
  cases t3
  ·exact absurd H (by simp)
  ·rfl
 simp only [if_true] at H
 obtain ⟨⟨u, u0, u1, u2⟩, h4, H⟩ := Option.bind_eq_some_iff.mp H
 obtain ⟨⟨v, v3, v6⟩, h5, H⟩ := Option.bind_eq_some_iff.mp H
 dsimp only at h4 h5 H
 by_cases cv : v < 0
 ·rw [if_pos cv] at H; exact absurd H (by simp)
 rw [if_neg cv] at H
 have cvb : decide (v < 0) = false := decide_eq_false cv
 clear cv
 obtain ⟨⟨z, z0, z1, z2⟩, h6, H⟩ := Option.bind_eq_some_iff.mp H
 obtain ⟨j, h7, H⟩ := Option.bind_eq_some_iff.mp H
 dsimp only at h6 h7 H
 by_cases cj : j < 0
 ·rw [if_pos cj] at H; exact absurd H (by simp)
 rw [if_neg cj] at H
 have cjb : decide (j < 0) = false := decide_eq_false cj
 clear cj
 by_cases cz : j = z
 case neg => rw [if_neg cz] at H; exact absurd H (by simp)
 subst cz
 have cjz : (j == j) = true := beq_self_eq_true j
 have cjn : (j != j) = false := by simp
 have BAX := am hx
 have BAY := am hy
 have BAQ := am hq
 have BAG := am hg
 have BA1 := am h1
 have BA2_ := am h2
 have BA3_ := am h3
 have BA4 := am h4
 have BA5 := am h5
 have BA6_ := am h6
 have BA7 := am h7
 clear hx hy hq hg h1 h2 h3 h4 h5 h6 h7 H
 go_enter Try.func3, Try.ntmps3
 go_wp2_with (first | ((with_reducible refine gd_ 2 ?_); refine bx_ 2 (cs := #[.slice A0 l0.length c0, .slice A1 l1.length c1, .slice A2 l2.length c2, .int .i64 h, .int .i64 b]) 25 ?_; intro gbp hg wp hbox hb; have GEp := gE HX hg; replace HX := xb HX hb; have BKp := am hbox; clear hb hbox hg) | ((with_reducible refine gd_ 3 ?_); refine bx_ 3 (cs := #[.int .i64 b0, .int .i64 b1, .string b2, .slice A3 l3.length c3, .string b4, .int .i64 b5, .slice A6 l6.length c6]) 28 ?_; intro gbi hg wi hbox hb; have GEi := gE HX hg; have NEp_i := nE BKp hg; replace BKp := bb BKp hb; replace HX := xb HX hb; have BKi := am hbox; clear hb hbox hg; obtain ⟨h2p0, h2p1, h2p2, h2p3, h2p4⟩ := cl5 BKp) | (go_at_call 4; (with_reducible refine (laws_szPage.calls k A0 c0 l0 A1 c1 l1 A2 c2 l2 h b 1048576 n _ ?sa Hhd0.out ?sb Hhd1.out ?sc Hhd2.out AN.out).mono ?_); (case sa => exact Kd.C_below Hhp0.out HX.out); (case sb => exact Kd.C_below Hhp1.out HX.out); (case sc => exact Kd.C_below Hhp2.out HX.out); rintro e wq ⟨rfl, hb⟩; replace BKp := bb BKp hb; replace BKi := bb BKi hb; replace HX := xb HX hb; clear hb; (try clear h2p0 h2p1 h2p2 h2p3 h2p4); obtain ⟨h3i0, h3i1, h3i2, h3i3, h3i4, h3i5, h3i6⟩ := cl7 BKi) | (go_at_call 5; (with_reducible refine (laws_szItem.calls k b0 b1 b2 A3 c3 l3 b4 b5 A6 c6 l6 n m _ ?sd Hhd3.out ?se Hhd6.out AM.out).mono ?_); (case sd => exact Kd.C_below Hhp3.out HX.out); (case se => exact Kd.C_below Hhp6.out HX.out); rintro e wr ⟨rfl, hb⟩; replace BKp := bb BKp hb; replace BKi := bb BKi hb; replace HX := xb HX hb; clear hb; (try clear h3i0 h3i1 h3i2 h3i3 h3i4 h3i5 h3i6)))
 have LaX := am (below_drew1 HX.out)
 have Lap := am (blk_lt (blk_drew BKp.out))
 have Lai := am (blk_lt (blk_drew BKi.out))
 have HXd := am (below_drew1 HX.out)
 replace BKp := am (blk_drew BKp.out)
 replace BKi := am (blk_drew BKi.out)
 refine start_ (n := 7) (S := fun w' => w'.heap[gbp]? = some (.cells #[.slice A0 l0.length c0, .slice A1 l1.length c1, .slice A2 l2.length c2, .int .i64 h, .int .i64 b] 25 (0, 0)) ∧ w'.heap[gbi]? = some (.cells #[.int .i64 b0, .int .i64 b1, .string b2, .slice A3 l3.length c3, .string b4, .int .i64 b5, .slice A6 l6.length c6] 28 (0, 0))) (ds := [6]) #[false, false, false, false, false, false, false] (by kernel_rfl) rfl rfl ⟨BKp.out, BKi.out⟩ (fun hHeld => ?_)
 clear HX
 have HX := HXd
 clear HXd
 generalize World.drew _ = ra0 at HX BKp BKi   hHeld LaX Lap Lai ⊢
 refine tk2_ 0 24 hHeld ?_
 refine tk2_ 2 26 hHeld ?_
 refine join_ (σ := Value × Value × Value × Value × Value × Nat × Nat × Nat) 1 #[true, true, true, true, true, true, false] (fun s_ => [(25, s_.1), (27, s_.2.1), (28, .agg #[s_.2.2.1, s_.2.2.2.1, s_.2.2.2.2.1, .int .i64 q3, .int .i64 q4]), (6, .pointer (some ⟨s_.2.2.2.2.2.1, 0, none⟩))]) (fun s_ w' => w'.heap[gbp]? = some (.cells #[.slice A0 l0.length c0, .slice A1 l1.length c1, .slice A2 l2.length c2, .int .i64 h, .int .i64 b] 25 (0, 0)) ∧ w'.heap[gbi]? = some (.cells #[.int .i64 b0, .int .i64 b1, .string b2, .slice A3 l3.length c3, .string b4, .int .i64 b5, .slice A6 l6.length c6] 28 (0, 0)) ∧ w'.heap[s_.2.2.2.2.2.1]? = some (.cells #[.slice none 0 0, .slice none 0 0, .slice none 0 0, .int .i64 0, .int .i64 0] 33 (0, 0)) ∧ Below w.heap.size w w' ∧ OwnP w' w.heap.size (Bt s_.2.2.2.2.2.2.1 s_.2.2.2.2.2.2.2) s_.2.2.1 s_.2.2.2.1 s_.2.2.2.2.1 q0 q1 q2 ∧ ra0.heap.size ≤ s_.2.2.2.2.2.1 ∧ ra0.heap.size ≤ s_.2.2.2.2.2.2.1 ∧ s_.2.2.2.2.2.2.1 ≤ s_.2.2.2.2.2.2.2 ∧ s_.2.2.2.2.2.2.2 ≤ w'.heap.size ∧ (s_.2.2.2.2.2.1 < s_.2.2.2.2.2.2.1 ∨ s_.2.2.2.2.2.2.2 ≤ s_.2.2.2.2.2.1) ∧ s_.2.2.2.2.2.1 < w'.heap.size) ?_ ?_
 rotate_left
 ·intro hCont
  refine two_ (i := 1) (j := 5) (Ni := some 25) (Nj := some 6) #[true, true, true, false, false, false, false] #[true, false, true, false, false, true, false] rfl rfl rfl rfl (by kernel_rfl) (by decide) (by decide) (fun K hK => ?_) (fun K hK => ?_)
  ·skip
   refine goes_ Try.func7 (by kernel_rfl) rfl #[.agg #[.slice A0 l0.length c0, .slice A1 l1.length c1, .slice A2 l2.length c2, .int .i64 h, .int .i64 b]] (by rfl) rfl rfl ab5 ?_
   refine (laws_toPage.calls k _ _ l0 _ _ l1 _ _ l2 h b x0 x1 x2 x3 x4 _ (Kd.C_below Hhp0.out HX.out) Hhd0.out (Kd.C_below Hhp1.out HX.out) Hhd1.out (Kd.C_below Hhp2.out HX.out) Hhd2.out BAX.out).mono ?_
   rintro e ra1 ⟨v0, v1, v2, rfl, ho0, ho1, ho2, hb⟩
   refine ⟨_, rfl, ?_⟩
   have La1 := am (show ra0.heap.size ≤ ra1.heap.size from hb.size)
   replace BKp := bb BKp hb
   replace BKi := bb BKi hb
   have HOt := am ((OwnP.of_copy ho0 ho1 ho2).lower (below_size HX.out))
   obtain ⟨T0, t0, T1, t1, T2, t2, rfl, rfl, rfl, _, _, _⟩ := HOt.out.slices
   clear ho0 ho1 ho2
   replace HX := xb HX hb
   clear hb hHeld
   refine hK.out _ _ ⟨BKp.out, BKi.out⟩ (fun hHeld => ?_)
   clear hK K
   refine nk_ 25 ?_
   refine two_ (i := 3) (j := 5) (Ni := some 27) (Nj := some 6) #[true, true, true, true, false, false, false] #[true, true, true, false, false, true, false] rfl rfl rfl rfl (by kernel_rfl) (by decide) (by decide) (fun K hK => ?_) (fun K hK => ?_)
   ·skip
    refine goes_ Try.func8 (by kernel_rfl) rfl #[.agg #[.int .i64 b0, .int .i64 b1, .string b2, .slice A3 l3.length c3, .string b4, .int .i64 b5, .slice A6 l6.length c6]] (by rfl) rfl rfl ab5 ?_
    refine (laws_toItem.calls k b0 b1 b2 _ _ l3 b4 b5 _ _ l6 y0 y1 y2 y3 y4 y5 y6 _ (Kd.C_below Hhp3.out HX.out) Hhd3.out (Kd.C_below Hhp6.out HX.out) Hhd6.out BAY.out).mono ?_
    rintro e ra2 ⟨v3, v6, rfl, hr3, hr6, hb⟩
    refine ⟨_, rfl, ?_⟩
    have La2 := am (show ra1.heap.size ≤ ra2.heap.size from hb.size)
    replace BKp := bb BKp hb
    replace BKi := bb BKi hb
    replace HOt := ob HOt hb
    have HRt3 := am hr3
    have HRt6 := am hr6
    obtain ⟨T3, t3, rfl⟩ := Kd.R_slice hr3
    obtain ⟨T6, t6, rfl⟩ := Kd.R_slice hr6
    clear hr3 hr6
    replace HX := xb HX hb
    clear hb hHeld
    refine hK.out _ _ ⟨BKp.out, BKi.out⟩ (fun hHeld => ?_)
    clear hK K
    refine nk_ 27 ?_
    refine two_ (i := 4) (j := 5) (Ni := some 28) (Nj := some 6) #[true, true, true, true, true, false, false] #[true, true, true, true, false, true, false] rfl rfl rfl rfl (by kernel_rfl) (by decide) (by decide) (fun K hK => ?_) (fun K hK => ?_)
    ·skip
     refine goes_ Try.func6 (by kernel_rfl) rfl #[.agg #[.slice T0 x0.length t0, .slice T1 x1.length t1, .slice T2 x2.length t2, .int .i64 x3, .int .i64 x4], .agg #[.int .i64 y0, .int .i64 y1, .string y2, .slice T3 y3.length t3, .string y4, .int .i64 y5, .slice T6 y6.length t6]] (by rfl) rfl rfl ab5 ?_
     refine (spec_PutIn.calls k _ _ x0 _ _ x1 _ _ x2 x3 x4 y0 y1 y2 _ _ y3 y4 y5 _ _ y6 q0 q1 q2 q3 q4 _ HOt.out.reads.1.2.2 HOt.out.reads.1.2.1 HOt.out.reads.2.1.2.2 HOt.out.reads.2.1.2.1 HOt.out.reads.2.2.2.2 HOt.out.reads.2.2.2.1 (Kd.R_reads' HRt3.out).2.2 (Kd.R_reads' HRt3.out).2.1 (Kd.R_reads' HRt6.out).2.2 (Kd.R_reads' HRt6.out).2.1 BAQ.out).mono ?_
     rintro e ra3 ⟨v0, v1, v2, rfl, ho0, ho1, ho2, hb⟩
     refine ⟨_, rfl, ?_⟩
     have La3 := am (show ra2.heap.size ≤ ra3.heap.size from hb.size)
     replace BKp := bb BKp hb
     replace BKi := bb BKi hb
     replace HOt := ob HOt hb
     replace HRt3 := rb HRt3 hb
     replace HRt6 := rb HRt6 hb
     have HOn := am ((OwnP.of_copy ho0 ho1 ho2).lower (below_size HX.out))
     clear ho0 ho1 ho2
     replace HX := xb HX hb
     clear hb hHeld
     refine hK.out _ _ ⟨BKp.out, BKi.out⟩ (fun hHeld => ?_)
     clear hK K
     refine nk_ 28 ?_
     refine one_ (i := 5) (N := some 6) #[true, true, true, true, true, true, false] rfl rfl (by kernel_rfl) (by decide) (fun K hK => ?_)
     refine box_step ?hg (N := 6) ?hd (cs := #[.slice none 0 0, .slice none 0 0, .slice none 0 0, .int .i64 0, .int .i64 0]) (t := 33) ?hr ?_; (case hd => rfl); (case hg => rfl); (case hr => first | (go_simp; done) | (go_simp; rfl))
     intro gba hg ra4 hbox hb
     have HGA := am hg
     have LTA := am (blk_lt hbox)
     have La4 := am (show ra3.heap.size ≤ ra4.heap.size from hb.size)
     replace BKp := bb BKp hb
     replace BKi := bb BKi hb
     replace HOt := ob HOt hb
     replace HRt3 := rb HRt3 hb
     replace HRt6 := rb HRt6 hb
     replace HOn := ob HOn hb
     have BKa := am hbox
     clear hbox hg
     replace HX := xb HX hb
     clear hb hHeld
     refine hK.out _ _ ⟨BKp.out, BKi.out⟩ (fun hHeld => ?_)
     clear hK K
     refine nk_ 6 ?_
     exact norm_ (by simp only [putAll, Act.put, List.setIfInBounds_toArray, List.set_cons_zero, List.set_cons_succ]) (hCont (.agg #[.slice T0 x0.length t0, .slice T1 x1.length t1, .slice T2 x2.length t2, .int .i64 x3, .int .i64 x4], .agg #[.int .i64 y0, .int .i64 y1, .string y2, .slice T3 y3.length t3, .string y4, .int .i64 y5, .slice T6 y6.length t6], _, _, _, gba, ra2.heap.size, ra3.heap.size) _ ⟨BKp.out, BKi.out, BKa.out, HX.out, HOn.out, by refine ⟨?_, ?_, ?_, ?_, ?_, ?_⟩ <;> ((try dsimp only); have := La1.out; have := La2.out; have := La3.out; have := La4.out; have := HGA.out; have := LTA.out; omega)⟩)
    ·skip
     refine box_step ?hg (N := 6) ?hd (cs := #[.slice none 0 0, .slice none 0 0, .slice none 0 0, .int .i64 0, .int .i64 0]) (t := 33) ?hr ?_; (case hd => rfl); (case hg => rfl); (case hr => first | (go_simp; done) | (go_simp; rfl))
     intro gba hg ra3 hbox hb
     have HGA := am hg
     have LTA := am (blk_lt hbox)
     have La3 := am (show ra2.heap.size ≤ ra3.heap.size from hb.size)
     replace BKp := bb BKp hb
     replace BKi := bb BKi hb
     replace HOt := ob HOt hb
     replace HRt3 := rb HRt3 hb
     replace HRt6 := rb HRt6 hb
     have BKa := am hbox
     clear hbox hg
     replace HX := xb HX hb
     clear hb hHeld
     refine hK.out _ _ ⟨BKp.out, BKi.out⟩ (fun hHeld => ?_)
     clear hK K
     refine nk_ 6 ?_
     refine one_ (i := 4) (N := some 28) #[true, true, true, true, true, true, false] rfl rfl (by kernel_rfl) (by decide) (fun K hK => ?_)
     refine goes_ Try.func6 (by kernel_rfl) rfl #[.agg #[.slice T0 x0.length t0, .slice T1 x1.length t1, .slice T2 x2.length t2, .int .i64 x3, .int .i64 x4], .agg #[.int .i64 y0, .int .i64 y1, .string y2, .slice T3 y3.length t3, .string y4, .int .i64 y5, .slice T6 y6.length t6]] (by rfl) rfl rfl ab5 ?_
     refine (spec_PutIn.calls k _ _ x0 _ _ x1 _ _ x2 x3 x4 y0 y1 y2 _ _ y3 y4 y5 _ _ y6 q0 q1 q2 q3 q4 _ HOt.out.reads.1.2.2 HOt.out.reads.1.2.1 HOt.out.reads.2.1.2.2 HOt.out.reads.2.1.2.1 HOt.out.reads.2.2.2.2 HOt.out.reads.2.2.2.1 (Kd.R_reads' HRt3.out).2.2 (Kd.R_reads' HRt3.out).2.1 (Kd.R_reads' HRt6.out).2.2 (Kd.R_reads' HRt6.out).2.1 BAQ.out).mono ?_
     rintro e ra4 ⟨v0, v1, v2, rfl, ho0, ho1, ho2, hb⟩
     refine ⟨_, rfl, ?_⟩
     have La4 := am (show ra3.heap.size ≤ ra4.heap.size from hb.size)
     replace BKp := bb BKp hb
     replace BKi := bb BKi hb
     replace BKa := bb BKa hb
     replace HOt := ob HOt hb
     replace HRt3 := rb HRt3 hb
     replace HRt6 := rb HRt6 hb
     have HOn := am ((OwnP.of_copy ho0 ho1 ho2).lower (below_size HX.out))
     clear ho0 ho1 ho2
     replace HX := xb HX hb
     clear hb hHeld
     refine hK.out _ _ ⟨BKp.out, BKi.out⟩ (fun hHeld => ?_)
     clear hK K
     refine nk_ 28 ?_
     exact norm_ (by simp only [putAll, Act.put, List.setIfInBounds_toArray, List.set_cons_zero, List.set_cons_succ]) (hCont (.agg #[.slice T0 x0.length t0, .slice T1 x1.length t1, .slice T2 x2.length t2, .int .i64 x3, .int .i64 x4], .agg #[.int .i64 y0, .int .i64 y1, .string y2, .slice T3 y3.length t3, .string y4, .int .i64 y5, .slice T6 y6.length t6], _, _, _, gba, ra3.heap.size, ra4.heap.size) _ ⟨BKp.out, BKi.out, BKa.out, HX.out, HOn.out, by refine ⟨?_, ?_, ?_, ?_, ?_, ?_⟩ <;> ((try dsimp only); have := La1.out; have := La2.out; have := La3.out; have := La4.out; have := HGA.out; have := LTA.out; omega)⟩)
   ·skip
    refine box_step ?hg (N := 6) ?hd (cs := #[.slice none 0 0, .slice none 0 0, .slice none 0 0, .int .i64 0, .int .i64 0]) (t := 33) ?hr ?_; (case hd => rfl); (case hg => rfl); (case hr => first | (go_simp; done) | (go_simp; rfl))
    intro gba hg ra2 hbox hb
    have HGA := am hg
    have LTA := am (blk_lt hbox)
    have La2 := am (show ra1.heap.size ≤ ra2.heap.size from hb.size)
    replace BKp := bb BKp hb
    replace BKi := bb BKi hb
    replace HOt := ob HOt hb
    have BKa := am hbox
    clear hbox hg
    replace HX := xb HX hb
    clear hb hHeld
    refine hK.out _ _ ⟨BKp.out, BKi.out⟩ (fun hHeld => ?_)
    clear hK K
    refine nk_ 6 ?_
    refine one_ (i := 3) (N := some 27) #[true, true, true, true, false, true, false] rfl rfl (by kernel_rfl) (by decide) (fun K hK => ?_)
    refine goes_ Try.func8 (by kernel_rfl) rfl #[.agg #[.int .i64 b0, .int .i64 b1, .string b2, .slice A3 l3.length c3, .string b4, .int .i64 b5, .slice A6 l6.length c6]] (by rfl) rfl rfl ab5 ?_
    refine (laws_toItem.calls k b0 b1 b2 _ _ l3 b4 b5 _ _ l6 y0 y1 y2 y3 y4 y5 y6 _ (Kd.C_below Hhp3.out HX.out) Hhd3.out (Kd.C_below Hhp6.out HX.out) Hhd6.out BAY.out).mono ?_
    rintro e ra3 ⟨v3, v6, rfl, hr3, hr6, hb⟩
    refine ⟨_, rfl, ?_⟩
    have La3 := am (show ra2.heap.size ≤ ra3.heap.size from hb.size)
    replace BKp := bb BKp hb
    replace BKi := bb BKi hb
    replace BKa := bb BKa hb
    replace HOt := ob HOt hb
    have HRt3 := am hr3
    have HRt6 := am hr6
    obtain ⟨T3, t3, rfl⟩ := Kd.R_slice hr3
    obtain ⟨T6, t6, rfl⟩ := Kd.R_slice hr6
    clear hr3 hr6
    replace HX := xb HX hb
    clear hb hHeld
    refine hK.out _ _ ⟨BKp.out, BKi.out⟩ (fun hHeld => ?_)
    clear hK K
    refine nk_ 27 ?_
    refine one_ (i := 4) (N := some 28) #[true, true, true, true, true, true, false] rfl rfl (by kernel_rfl) (by decide) (fun K hK => ?_)
    refine goes_ Try.func6 (by kernel_rfl) rfl #[.agg #[.slice T0 x0.length t0, .slice T1 x1.length t1, .slice T2 x2.length t2, .int .i64 x3, .int .i64 x4], .agg #[.int .i64 y0, .int .i64 y1, .string y2, .slice T3 y3.length t3, .string y4, .int .i64 y5, .slice T6 y6.length t6]] (by rfl) rfl rfl ab5 ?_
    refine (spec_PutIn.calls k _ _ x0 _ _ x1 _ _ x2 x3 x4 y0 y1 y2 _ _ y3 y4 y5 _ _ y6 q0 q1 q2 q3 q4 _ HOt.out.reads.1.2.2 HOt.out.reads.1.2.1 HOt.out.reads.2.1.2.2 HOt.out.reads.2.1.2.1 HOt.out.reads.2.2.2.2 HOt.out.reads.2.2.2.1 (Kd.R_reads' HRt3.out).2.2 (Kd.R_reads' HRt3.out).2.1 (Kd.R_reads' HRt6.out).2.2 (Kd.R_reads' HRt6.out).2.1 BAQ.out).mono ?_
    rintro e ra4 ⟨v0, v1, v2, rfl, ho0, ho1, ho2, hb⟩
    refine ⟨_, rfl, ?_⟩
    have La4 := am (show ra3.heap.size ≤ ra4.heap.size from hb.size)
    replace BKp := bb BKp hb
    replace BKi := bb BKi hb
    replace BKa := bb BKa hb
    replace HOt := ob HOt hb
    replace HRt3 := rb HRt3 hb
    replace HRt6 := rb HRt6 hb
    have HOn := am ((OwnP.of_copy ho0 ho1 ho2).lower (below_size HX.out))
    clear ho0 ho1 ho2
    replace HX := xb HX hb
    clear hb hHeld
    refine hK.out _ _ ⟨BKp.out, BKi.out⟩ (fun hHeld => ?_)
    clear hK K
    refine nk_ 28 ?_
    exact norm_ (by simp only [putAll, Act.put, List.setIfInBounds_toArray, List.set_cons_zero, List.set_cons_succ]) (hCont (.agg #[.slice T0 x0.length t0, .slice T1 x1.length t1, .slice T2 x2.length t2, .int .i64 x3, .int .i64 x4], .agg #[.int .i64 y0, .int .i64 y1, .string y2, .slice T3 y3.length t3, .string y4, .int .i64 y5, .slice T6 y6.length t6], _, _, _, gba, ra3.heap.size, ra4.heap.size) _ ⟨BKp.out, BKi.out, BKa.out, HX.out, HOn.out, by refine ⟨?_, ?_, ?_, ?_, ?_, ?_⟩ <;> ((try dsimp only); have := La1.out; have := La2.out; have := La3.out; have := La4.out; have := HGA.out; have := LTA.out; omega)⟩)
  ·skip
   refine box_step ?hg (N := 6) ?hd (cs := #[.slice none 0 0, .slice none 0 0, .slice none 0 0, .int .i64 0, .int .i64 0]) (t := 33) ?hr ?_; (case hd => rfl); (case hg => rfl); (case hr => first | (go_simp; done) | (go_simp; rfl))
   intro gba hg ra1 hbox hb
   have HGA := am hg
   have LTA := am (blk_lt hbox)
   have La1 := am (show ra0.heap.size ≤ ra1.heap.size from hb.size)
   replace BKp := bb BKp hb
   replace BKi := bb BKi hb
   have BKa := am hbox
   clear hbox hg
   replace HX := xb HX hb
   clear hb hHeld
   refine hK.out _ _ ⟨BKp.out, BKi.out⟩ (fun hHeld => ?_)
   clear hK K
   refine nk_ 6 ?_
   refine one_ (i := 1) (N := some 25) #[true, true, true, false, false, true, false] rfl rfl (by kernel_rfl) (by decide) (fun K hK => ?_)
   refine goes_ Try.func7 (by kernel_rfl) rfl #[.agg #[.slice A0 l0.length c0, .slice A1 l1.length c1, .slice A2 l2.length c2, .int .i64 h, .int .i64 b]] (by rfl) rfl rfl ab5 ?_
   refine (laws_toPage.calls k _ _ l0 _ _ l1 _ _ l2 h b x0 x1 x2 x3 x4 _ (Kd.C_below Hhp0.out HX.out) Hhd0.out (Kd.C_below Hhp1.out HX.out) Hhd1.out (Kd.C_below Hhp2.out HX.out) Hhd2.out BAX.out).mono ?_
   rintro e ra2 ⟨v0, v1, v2, rfl, ho0, ho1, ho2, hb⟩
   refine ⟨_, rfl, ?_⟩
   have La2 := am (show ra1.heap.size ≤ ra2.heap.size from hb.size)
   replace BKp := bb BKp hb
   replace BKi := bb BKi hb
   replace BKa := bb BKa hb
   have HOt := am ((OwnP.of_copy ho0 ho1 ho2).lower (below_size HX.out))
   obtain ⟨T0, t0, T1, t1, T2, t2, rfl, rfl, rfl, _, _, _⟩ := HOt.out.slices
   clear ho0 ho1 ho2
   replace HX := xb HX hb
   clear hb hHeld
   refine hK.out _ _ ⟨BKp.out, BKi.out⟩ (fun hHeld => ?_)
   clear hK K
   refine nk_ 25 ?_
   refine one_ (i := 3) (N := some 27) #[true, true, true, true, false, true, false] rfl rfl (by kernel_rfl) (by decide) (fun K hK => ?_)
   refine goes_ Try.func8 (by kernel_rfl) rfl #[.agg #[.int .i64 b0, .int .i64 b1, .string b2, .slice A3 l3.length c3, .string b4, .int .i64 b5, .slice A6 l6.length c6]] (by rfl) rfl rfl ab5 ?_
   refine (laws_toItem.calls k b0 b1 b2 _ _ l3 b4 b5 _ _ l6 y0 y1 y2 y3 y4 y5 y6 _ (Kd.C_below Hhp3.out HX.out) Hhd3.out (Kd.C_below Hhp6.out HX.out) Hhd6.out BAY.out).mono ?_
   rintro e ra3 ⟨v3, v6, rfl, hr3, hr6, hb⟩
   refine ⟨_, rfl, ?_⟩
   have La3 := am (show ra2.heap.size ≤ ra3.heap.size from hb.size)
   replace BKp := bb BKp hb
   replace BKi := bb BKi hb
   replace BKa := bb BKa hb
   replace HOt := ob HOt hb
   have HRt3 := am hr3
   have HRt6 := am hr6
   obtain ⟨T3, t3, rfl⟩ := Kd.R_slice hr3
   obtain ⟨T6, t6, rfl⟩ := Kd.R_slice hr6
   clear hr3 hr6
   replace HX := xb HX hb
   clear hb hHeld
   refine hK.out _ _ ⟨BKp.out, BKi.out⟩ (fun hHeld => ?_)
   clear hK K
   refine nk_ 27 ?_
   refine one_ (i := 4) (N := some 28) #[true, true, true, true, true, true, false] rfl rfl (by kernel_rfl) (by decide) (fun K hK => ?_)
   refine goes_ Try.func6 (by kernel_rfl) rfl #[.agg #[.slice T0 x0.length t0, .slice T1 x1.length t1, .slice T2 x2.length t2, .int .i64 x3, .int .i64 x4], .agg #[.int .i64 y0, .int .i64 y1, .string y2, .slice T3 y3.length t3, .string y4, .int .i64 y5, .slice T6 y6.length t6]] (by rfl) rfl rfl ab5 ?_
   refine (spec_PutIn.calls k _ _ x0 _ _ x1 _ _ x2 x3 x4 y0 y1 y2 _ _ y3 y4 y5 _ _ y6 q0 q1 q2 q3 q4 _ HOt.out.reads.1.2.2 HOt.out.reads.1.2.1 HOt.out.reads.2.1.2.2 HOt.out.reads.2.1.2.1 HOt.out.reads.2.2.2.2 HOt.out.reads.2.2.2.1 (Kd.R_reads' HRt3.out).2.2 (Kd.R_reads' HRt3.out).2.1 (Kd.R_reads' HRt6.out).2.2 (Kd.R_reads' HRt6.out).2.1 BAQ.out).mono ?_
   rintro e ra4 ⟨v0, v1, v2, rfl, ho0, ho1, ho2, hb⟩
   refine ⟨_, rfl, ?_⟩
   have La4 := am (show ra3.heap.size ≤ ra4.heap.size from hb.size)
   replace BKp := bb BKp hb
   replace BKi := bb BKi hb
   replace BKa := bb BKa hb
   replace HOt := ob HOt hb
   replace HRt3 := rb HRt3 hb
   replace HRt6 := rb HRt6 hb
   have HOn := am ((OwnP.of_copy ho0 ho1 ho2).lower (below_size HX.out))
   clear ho0 ho1 ho2
   replace HX := xb HX hb
   clear hb hHeld
   refine hK.out _ _ ⟨BKp.out, BKi.out⟩ (fun hHeld => ?_)
   clear hK K
   refine nk_ 28 ?_
   exact norm_ (by simp only [putAll, Act.put, List.setIfInBounds_toArray, List.set_cons_zero, List.set_cons_succ]) (hCont (.agg #[.slice T0 x0.length t0, .slice T1 x1.length t1, .slice T2 x2.length t2, .int .i64 x3, .int .i64 x4], .agg #[.int .i64 y0, .int .i64 y1, .string y2, .slice T3 y3.length t3, .string y4, .int .i64 y5, .slice T6 y6.length t6], _, _, _, gba, ra3.heap.size, ra4.heap.size) _ ⟨BKp.out, BKi.out, BKa.out, HX.out, HOn.out, by refine ⟨?_, ?_, ?_, ?_, ?_, ?_⟩ <;> ((try dsimp only); have := La1.out; have := La2.out; have := La3.out; have := La4.out; have := HGA.out; have := LTA.out; omega)⟩)
 rintro ⟨v25a, v27a, v0, v1, v2, gba, na1, na2⟩ wa0 ⟨hbp_, hbi_, hbn_, hx_, hon_, hin_⟩
 clear HX hHeld BKp BKi
 dsimp only at *
 have BKp := am hbp_
 have BKi := am hbi_
 have BKa := am hbn_
 have HX := am hx_
 have HOa := am hon_
 have Lan := am hin_
 have GEa := am (show w.heap.size ≤ gba from Nat.le_trans (below_size LaX.out) hin_.1)
 obtain ⟨Sa0, sa0, Sa1, sa1, Sa2, sa2, rfl, rfl, rfl, _, _, _⟩ := HOa.out.slices
 clear hbn_ hx_ hon_ hin_ hbp_ hbi_
 refine norm_ (a' := ?_) ?_ ?_
 rotate_left
 ·simp only [putAll, Act.put, List.setIfInBounds_toArray, List.set_cons_zero, List.set_cons_succ]
  rfl
 have NEp_a := am (show gbp ≠ gba from by have := Lap.out; have := Lan.out.1; omega)
 have NEi_a := am (show gbi ≠ gba from by have := Lai.out; have := Lan.out.1; omega)
 refine last_ (i := 6) (N := none) #[true, true, true, true, true, true, true] rfl rfl (by kernel_rfl) (by decide) (fun K hK => ?_)
 obtain ⟨xx0_, xx1_, xx2_, xx3_, xx4_⟩ := cl5 BKa
 obtain ⟨xf0_, xf1_, xf2_, xf3_, xf4_⟩ := fz5 BKa
 refine skip_ (w1 := (st5 wa0 gba (.slice Sa0 q0.length sa0) (.slice Sa1 q1.length sa1) (.slice Sa2 q2.length sa2) (.int .i64 q3) (.int .i64 q4))) (by rfl) rfl ?_ ?_
 ·first | (go_simp; done) | (go_simp; rfl)
 clear xx0_ xx1_ xx2_ xx3_ xx4_ xf0_ xf1_ xf2_ xf3_ xf4_
 obtain ⟨wa1, hw⟩ : ∃ w1_, w1_ = (st5 wa0 gba (.slice Sa0 q0.length sa0) (.slice Sa1 q1.length sa1) (.slice Sa2 q2.length sa2) (.int .i64 q3) (.int .i64 q4)) := ⟨_, rfl⟩
 replace BKp := kS5 hw BKp NEp_a.out
 replace BKi := kS5 hw BKi NEi_a.out
 replace BKa := sS5 hw BKa
 replace HX := bS5 hw HX GEa.out
 replace HOa := pS5 hw HOa (fun k hk e_ => by have h1_ := hk.1; have h2_ := hk.2; have := Lan.out; omega)
 have Law := am (zS5 hw)
 refine hK.out _ _ ?_
 rw [← hw]
 clear hK K hw
 refine done_ (by kernel_rfl) ?_
 have OR := am (And.intro (And.intro Lan.out Law.out) (And.intro Lap.out Lai.out))
 clear Lan Law Lap Lai
 obtain ⟨h5p0, h5p1, h5p2, h5p3, h5p4⟩ := cl5 BKp
 go_wp2_with (first | ((with_reducible refine gate_callee (f := 7) rfl ?_); refine goesL_ (some 30) rfl rfl Try.func7 (by kernel_rfl) rfl #[.agg #[.slice A0 l0.length c0, .slice A1 l1.length c1, .slice A2 l2.length c2, .int .i64 h, .int .i64 b]] rfl ab5 ?_; (with_reducible refine (laws_toPage.calls k _ _ l0 _ _ l1 _ _ l2 h b x0 x1 x2 x3 x4 _ (Kd.C_below Hhp0.out HX.out) Hhd0.out (Kd.C_below Hhp1.out HX.out) Hhd1.out (Kd.C_below Hhp2.out HX.out) Hhd2.out BAX.out).mono ?_); rintro e wt1 ⟨v0, v1, v2, rfl, ho0, ho1, ho2, hb⟩; refine ⟨_, rfl, ?_⟩; have HOx : Aside0 (OwnP wt1 w.heap.size (Bt wa1.heap.size wt1.heap.size) v0 v1 v2 x0 x1 x2) := am ((OwnP.of_copy ho0 ho1 ho2).lower (below_size HX.out)); replace OR := oadd OR (show wa1.heap.size ≤ wt1.heap.size from hb.size); replace BKp := bb BKp hb; replace BKi := bb BKi hb; replace BKa := bb BKa hb; replace HX := xb HX hb; replace HOa := ob HOa hb; obtain ⟨Sx0, sx0, Sx1, sx1, Sx2, sx2, rfl, rfl, rfl, _, _, _⟩ := HOx.out.slices; clear ho0 ho1 ho2; clear hb; (try clear h5p0 h5p1 h5p2 h5p3 h5p4)) | ((with_reducible refine gd_ 7 ?_); refine bx_ 7 (cs := #[.slice none 0 0, .slice none 0 0, .slice none 0 0, .int .i64 0, .int .i64 0]) 33 ?_; intro gbx hg wt2 hbox hb; have GEx := gE HX hg; have NEp_x := nE BKp hg; have NEi_x := nE BKi hg; have NEa_x := nE BKa hg; replace OR := oadd OR (show gbx = wt1.heap.size ∧ wt1.heap.size ≤ wt2.heap.size ∧ gbx < wt2.heap.size from ⟨hg, hb.size, blk_lt hbox⟩); replace BKp := bb BKp hb; replace BKi := bb BKi hb; replace BKa := bb BKa hb; replace HX := xb HX hb; replace HOa := ob HOa hb; replace HOx := ob HOx hb; have BKx := am hbox; clear hb hbox hg; obtain ⟨h7x0, h7x1, h7x2, h7x3, h7x4⟩ := cl5 BKx; obtain ⟨f7x0, f7x1, f7x2, f7x3, f7x4⟩ := fz5 BKx) | ((with_reducible refine gate_store (t := 33) (p := 7) rfl ?_); refine store_event (t := 33) (p := 7) (v := ?vox1) (w1 := (st5 wt2 gbx (.slice Sx0 x0.length sx0) (.slice Sx1 x1.length sx1) (.slice Sx2 x2.length sx2) (.int .i64 x3) (.int .i64 x4))) ?hg ?ho ?hn ?hr ?_; (case ho => rfl); (case hg => rfl); (case hn => rfl); (case hr => first | (go_simp; done) | (go_simp; rfl)); intro wt3 hw; replace BKp := kS5 hw BKp NEp_x.out; replace BKi := kS5 hw BKi NEi_x.out; replace BKa := kS5 hw BKa NEa_x.out; replace BKx := sS5 hw BKx; replace HX := bS5 hw HX GEx.out; replace HOa := pS5 hw HOa (fun k hk e_ => by have h1_ := hk.1; have h2_ := hk.2; have := OR.out; omega); replace HOx := pS5 hw HOx (fun k hk e_ => by have h1_ := hk.1; have h2_ := hk.2; have := OR.out; omega); replace OR := oadd OR (zS5 hw); clear hw; (try clear h7x0 h7x1 h7x2 h7x3 h7x4 f7x0 f7x1 f7x2 f7x3 f7x4); obtain ⟨h8i0, h8i1, h8i2, h8i3, h8i4, h8i5, h8i6⟩ := cl7 BKi) | ((with_reducible refine gate_callee (f := 8) rfl ?_); refine goesL_ (some 32) rfl rfl Try.func8 (by kernel_rfl) rfl #[.agg #[.int .i64 b0, .int .i64 b1, .string b2, .slice A3 l3.length c3, .string b4, .int .i64 b5, .slice A6 l6.length c6]] rfl ab5 ?_; (with_reducible refine (laws_toItem.calls k b0 b1 b2 _ _ l3 b4 b5 _ _ l6 y0 y1 y2 y3 y4 y5 y6 _ (Kd.C_below Hhp3.out HX.out) Hhd3.out (Kd.C_below Hhp6.out HX.out) Hhd6.out BAY.out).mono ?_); rintro e wt4 ⟨v3_, v6_, rfl, hr3, hr6, hb⟩; refine ⟨_, rfl, ?_⟩; have HRy3 : Aside0 (Kd.R k69 69 wt4 w.heap.size (Bt wt3.heap.size wt4.heap.size) v3_ y3) := ⟨Kd.R_lower (Kd.R_mono (Kd.R_bound hr3) (fun k hk => ⟨hk.2.1, hk.2.2.1⟩)) (below_size HX.out)⟩; have HRy6 : Aside0 (Kd.R (Kd.int .i64) 3 wt4 w.heap.size (Bt wt3.heap.size wt4.heap.size) v6_ y6) := ⟨Kd.R_lower (Kd.R_mono (Kd.R_bound hr6) (fun k hk => ⟨hk.2.1, hk.2.2.1⟩)) (below_size HX.out)⟩; replace OR := oadd OR (show wt3.heap.size ≤ wt4.heap.size from hb.size); replace BKp := bb BKp hb; replace BKi := bb BKi hb; replace BKa := bb BKa hb; replace BKx := bb BKx hb; replace HX := xb HX hb; replace HOa := ob HOa hb; replace HOx := ob HOx hb; obtain ⟨Sy3, sy3, rfl⟩ := Kd.R_slice hr3; obtain ⟨Sy6, sy6, rfl⟩ := Kd.R_slice hr6; clear hr3 hr6; clear hb; (try clear h8i0 h8i1 h8i2 h8i3 h8i4 h8i5 h8i6)) | ((with_reducible refine gd_ 8 ?_); refine bx_ 8 (cs := #[.int .i64 0, .int .i64 0, .string (⟨#[]⟩ : ByteArray), .slice none 0 0, .string (⟨#[]⟩ : ByteArray), .int .i64 0, .slice none 0 0]) 38 ?_; intro gby hg wt5 hbox hb; have GEy := gE HX hg; have NEp_y := nE BKp hg; have NEi_y := nE BKi hg; have NEa_y := nE BKa hg; have NEx_y := nE BKx hg; replace OR := oadd OR (show gby = wt4.heap.size ∧ wt4.heap.size ≤ wt5.heap.size ∧ gby < wt5.heap.size from ⟨hg, hb.size, blk_lt hbox⟩); replace BKp := bb BKp hb; replace BKi := bb BKi hb; replace BKa := bb BKa hb; replace BKx := bb BKx hb; replace HX := xb HX hb; replace HOa := ob HOa hb; replace HOx := ob HOx hb; replace HRy3 := rb HRy3 hb; replace HRy6 := rb HRy6 hb; have BKy := am hbox; clear hb hbox hg; obtain ⟨h10y0, h10y1, h10y2, h10y3, h10y4, h10y5, h10y6⟩ := cl7 BKy; obtain ⟨f10y0, f10y1, f10y2, f10y3, f10y4, f10y5, f10y6⟩ := fz7 BKy) | ((with_reducible refine gate_store (t := 38) (p := 8) rfl ?_); refine store_event (t := 38) (p := 8) (v := ?voy1) (w1 := st7 wt5 gby (.int .i64 y0) (.int .i64 y1) (.string y2) (.slice Sy3 y3.length sy3) (.string y4) (.int .i64 y5) (.slice Sy6 y6.length sy6)) ?hg ?ho ?hn ?hr ?_; (case ho => rfl); (case hg => rfl); (case hn => rfl); (case hr => first | (go_simp; done) | (go_simp; rfl)); intro wt6 hw; replace BKp := kS7 hw BKp NEp_y.out; replace BKi := kS7 hw BKi NEi_y.out; replace BKa := kS7 hw BKa NEa_y.out; replace BKx := kS7 hw BKx NEx_y.out; replace BKy := sS7 hw BKy; replace HX := bS7 hw HX GEy.out; replace HOa := pS7 hw HOa (fun k hk e_ => by have h1_ := hk.1; have h2_ := hk.2; have := OR.out; omega); replace HOx := pS7 hw HOx (fun k hk e_ => by have h1_ := hk.1; have h2_ := hk.2; have := OR.out; omega); replace HRy3 := rS7 hw HRy3 (fun k hk e_ => by have h1_ := hk.1; have h2_ := hk.2; have := OR.out; omega); replace HRy6 := rS7 hw HRy6 (fun k hk e_ => by have h1_ := hk.1; have h2_ := hk.2; have := OR.out; omega); replace OR := oadd OR (zS7 hw); clear hw; (try clear h10y0 h10y1 h10y2 h10y3 h10y4 h10y5 h10y6 f10y0 f10y1 f10y2 f10y3 f10y4 f10y5 f10y6); obtain ⟨h11x0, h11x1, h11x2, h11x3, h11x4⟩ := cl5 BKx; obtain ⟨h11y0, h11y1, h11y2, h11y3, h11y4, h11y5, h11y6⟩ := cl7 BKy) | ((with_reducible refine gate_callee (f := 9) rfl ?_); refine goesL_ (some 35) rfl rfl Try.func9 (by kernel_rfl) rfl #[.agg #[.slice Sx0 x0.length sx0, .slice Sx1 x1.length sx1, .slice Sx2 x2.length sx2, .int .i64 x3, .int .i64 x4], .agg #[.int .i64 y0, .int .i64 y1, .string y2, .slice Sy3 y3.length sy3, .string y4, .int .i64 y5, .slice Sy6 y6.length sy6]] rfl ab5 ?_; (with_reducible refine (impl_PutIn.calls k _ _ x0 _ _ x1 _ _ x2 x3 x4 y0 y1 y2 _ _ y3 y4 y5 _ _ _ g0 g1 g2 g3 g4 _ HOx.out.reads.1.2.2 HOx.out.reads.1.2.1 HOx.out.reads.2.1.2.2 HOx.out.reads.2.1.2.1 HOx.out.reads.2.2.2.2 HOx.out.reads.2.2.2.1 (Kd.R_reads' HRy3.out).2.2 (Kd.R_reads' HRy3.out).2.1 M_ (pw_cell_below HX.out Hhm_.out) BAG.out).mono ?_); rintro e wt7 ⟨v0, v1, v2, rfl, ho0, ho1, ho2, hb⟩; refine ⟨_, rfl, ?_⟩; have HOg : Aside0 (OwnP wt7 w.heap.size (Bt wt6.heap.size wt7.heap.size) v0 v1 v2 g0 g1 g2) := am ((OwnP.of_copy ho0 ho1 ho2).lower (below_size HX.out)); replace OR := oadd OR (show wt6.heap.size ≤ wt7.heap.size from hb.size); replace BKp := bb BKp hb; replace BKi := bb BKi hb; replace BKa := bb BKa hb; replace BKx := bb BKx hb; replace BKy := bb BKy hb; replace HX := xb HX hb; replace HOa := ob HOa hb; replace HOx := ob HOx hb; replace HRy3 := rb HRy3 hb; replace HRy6 := rb HRy6 hb; obtain ⟨Sg0, sg0, Sg1, sg1, Sg2, sg2, rfl, rfl, rfl, _, _, _⟩ := HOg.out.slices; clear ho0 ho1 ho2; clear hb; (try clear h11x0 h11x1 h11x2 h11x3 h11x4 h11y0 h11y1 h11y2 h11y3 h11y4 h11y5 h11y6)) | ((with_reducible refine gd_ 9 ?_); refine bx_ 9 (cs := #[.slice none 0 0, .slice none 0 0, .slice none 0 0, .int .i64 0, .int .i64 0]) 33 ?_; intro gbg hg wt8 hbox hb; have GEg := gE HX hg; have NEp_g := nE BKp hg; have NEi_g := nE BKi hg; have NEa_g := nE BKa hg; have NEx_g := nE BKx hg; have NEy_g := nE BKy hg; replace OR := oadd OR (show gbg = wt7.heap.size ∧ wt7.heap.size ≤ wt8.heap.size ∧ gbg < wt8.heap.size from ⟨hg, hb.size, blk_lt hbox⟩); replace BKp := bb BKp hb; replace BKi := bb BKi hb; replace BKa := bb BKa hb; replace BKx := bb BKx hb; replace BKy := bb BKy hb; replace HX := xb HX hb; replace HOa := ob HOa hb; replace HOx := ob HOx hb; replace HOg := ob HOg hb; replace HRy3 := rb HRy3 hb; replace HRy6 := rb HRy6 hb; have BKg := am hbox; clear hb hbox hg; obtain ⟨h13g0, h13g1, h13g2, h13g3, h13g4⟩ := cl5 BKg; obtain ⟨f13g0, f13g1, f13g2, f13g3, f13g4⟩ := fz5 BKg) | ((with_reducible refine gate_store (t := 33) (p := 9) rfl ?_); refine store_event (t := 33) (p := 9) (v := ?vog1) (w1 := (st5 wt8 gbg (.slice Sg0 g0.length sg0) (.slice Sg1 g1.length sg1) (.slice Sg2 g2.length sg2) (.int .i64 g3) (.int .i64 g4))) ?hg ?ho ?hn ?hr ?_; (case ho => rfl); (case hg => rfl); (case hn => rfl); (case hr => first | (go_simp; done) | (go_simp; rfl)); intro wt9 hw; replace BKp := kS5 hw BKp NEp_g.out; replace BKi := kS5 hw BKi NEi_g.out; replace BKa := kS5 hw BKa NEa_g.out; replace BKx := kS5 hw BKx NEx_g.out; replace BKy := kS5 hw BKy NEy_g.out; replace BKg := sS5 hw BKg; replace HX := bS5 hw HX GEg.out; replace HOa := pS5 hw HOa (fun k hk e_ => by have h1_ := hk.1; have h2_ := hk.2; have := OR.out; omega); replace HOx := pS5 hw HOx (fun k hk e_ => by have h1_ := hk.1; have h2_ := hk.2; have := OR.out; omega); replace HOg := pS5 hw HOg (fun k hk e_ => by have h1_ := hk.1; have h2_ := hk.2; have := OR.out; omega); replace HRy3 := rS5 hw HRy3 (fun k hk e_ => by have h1_ := hk.1; have h2_ := hk.2; have := OR.out; omega); replace HRy6 := rS5 hw HRy6 (fun k hk e_ => by have h1_ := hk.1; have h2_ := hk.2; have := OR.out; omega); replace OR := oadd OR (zS5 hw); clear hw; (try clear h13g0 h13g1 h13g2 h13g3 h13g4 f13g0 f13g1 f13g2 f13g3 f13g4); obtain ⟨h14a0, h14a1, h14a2, h14a3, h14a4⟩ := cl5 BKa; obtain ⟨h14g0, h14g1, h14g2, h14g3, h14g4⟩ := cl5 BKg) | ((with_reducible refine gate_callee (f := 10) rfl ?_); refine goesL_ (some 38) rfl rfl Try.func10 (by kernel_rfl) rfl #[.agg #[.slice Sg0 g0.length sg0, .slice Sg1 g1.length sg1, .slice Sg2 g2.length sg2, .int .i64 g3, .int .i64 g4], .agg #[.slice Sa0 q0.length sa0, .slice Sa1 q1.length sa1, .slice Sa2 q2.length sa2, .int .i64 q3, .int .i64 q4]] rfl ab5 ?_; (with_reducible refine (laws_eqPage.calls k _ _ g0 _ _ g1 _ _ g2 g3 g4 _ _ q0 _ _ q1 _ _ q2 q3 q4 true _ HOg.out.reads.1.2.2 HOg.out.reads.1.2.1 HOg.out.reads.2.1.2.2 HOg.out.reads.2.1.2.1 HOg.out.reads.2.2.2.2 HOg.out.reads.2.2.2.1 HOa.out.reads.1.2.2 HOa.out.reads.1.2.1 HOa.out.reads.2.1.2.2 HOa.out.reads.2.1.2.1 HOa.out.reads.2.2.2.2 HOa.out.reads.2.2.2.1 BA1.out).mono ?_); rintro e wt10 ⟨rfl, hb⟩; refine ⟨_, rfl, ?_⟩; replace BKp := bb BKp hb; replace BKi := bb BKi hb; replace BKa := bb BKa hb; replace BKx := bb BKx hb; replace BKy := bb BKy hb; replace BKg := bb BKg hb; replace HX := xb HX hb; replace HOa := ob HOa hb; replace HOx := ob HOx hb; replace HOg := ob HOg hb; replace HRy3 := rb HRy3 hb; replace HRy6 := rb HRy6 hb; replace OR := oadd OR (show wt9.heap.size ≤ wt10.heap.size from hb.size); clear hb; (try clear h14a0 h14a1 h14a2 h14a3 h14a4 h14g0 h14g1 h14g2 h14g3 h14g4)))
 have HXd := am (below_drew1 HX.out)
 replace BKp := am (blk_drew BKp.out)
 replace BKi := am (blk_drew BKi.out)
 replace BKa := am (blk_drew BKa.out)
 replace BKx := am (blk_drew BKx.out)
 replace BKy := am (blk_drew BKy.out)
 replace BKg := am (blk_drew BKg.out)
 replace HOa := am (HOa.out.below (below_drew1 (Below.refl _ _)))
 replace HOx := am (HOx.out.below (below_drew1 (Below.refl _ _)))
 replace HOg := am (HOg.out.below (below_drew1 (Below.refl _ _)))
 replace HRy3 := am (Kd.R_drew HRy3.out)
 replace HRy6 := am (Kd.R_drew HRy6.out)
 refine start_ (n := 5) (S := fun w' => w'.heap[gbx]? = some (.cells #[.slice Sx0 x0.length sx0, .slice Sx1 x1.length sx1, .slice Sx2 x2.length sx2, .int .i64 x3, .int .i64 x4] 33 (0, 0)) ∧ w'.heap[gbp]? = some (.cells #[.slice A0 l0.length c0, .slice A1 l1.length c1, .slice A2 l2.length c2, .int .i64 h, .int .i64 b] 25 (0, 0))) (ds := []) #[false, false, false, false, false] (by kernel_rfl) rfl rfl ⟨BKx.out, BKp.out⟩ (fun hHeld => ?_)
 clear HX
 have HX := HXd
 clear HXd
 replace OR := oadd OR (show wt10.heap.size ≤ (World.drew wt10).heap.size from Nat.le_refl _)
 generalize World.drew _ = wb0 at OR HX BKp BKi BKa BKx BKy BKg HOa HOx HOg HRy3 HRy6 hHeld ⊢
 refine tk2_ 0 40 hHeld ?_
 refine tk2_ 1 41 hHeld ?_
 refine one_ (i := 2) (N := some 42) #[true, true, true, false, false] rfl rfl (by kernel_rfl) (by decide) (fun K hK => ?_)
 refine goes_ Try.func7 (by kernel_rfl) rfl #[.agg #[.slice A0 l0.length c0, .slice A1 l1.length c1, .slice A2 l2.length c2, .int .i64 h, .int .i64 b]] (by rfl) rfl rfl ab5 ?_
 refine (laws_toPage.calls k _ _ l0 _ _ l1 _ _ l2 h b x0 x1 x2 x3 x4 _ (Kd.C_below Hhp0.out HX.out) Hhd0.out (Kd.C_below Hhp1.out HX.out) Hhd1.out (Kd.C_below Hhp2.out HX.out) Hhd2.out BAX.out).mono ?_
 rintro e wb1 ⟨v0, v1, v2, rfl, ho0, ho1, ho2, hb⟩
 refine ⟨_, rfl, ?_⟩
 replace OR := oadd OR (show wb0.heap.size ≤ wb1.heap.size from hb.size)
 have HOt := am (OwnP.of_copy ho0 ho1 ho2)
 clear ho0 ho1 ho2
 obtain ⟨T0, t0, T1, t1, T2, t2, rfl, rfl, rfl, _, _, _⟩ := HOt.out.slices
 replace BKp := bb BKp hb
 replace BKi := bb BKi hb
 replace BKa := bb BKa hb
 replace BKx := bb BKx hb
 replace BKy := bb BKy hb
 replace BKg := bb BKg hb
 replace HOa := ob HOa hb
 replace HOx := ob HOx hb
 replace HOg := ob HOg hb
 replace HRy3 := rb HRy3 hb
 replace HRy6 := rb HRy6 hb
 replace HX := xb HX hb
 clear hb hHeld
 refine hK.out _ _ ⟨BKx.out, BKp.out⟩ (fun hHeld => ?_)
 clear hK K
 refine nk_ 42 ?_
 refine one_ (i := 3) (N := some 43) #[true, true, true, true, false] rfl rfl (by kernel_rfl) (by decide) (fun K hK => ?_)
 refine goes_ Try.func10 (by kernel_rfl) rfl #[.agg #[.slice Sx0 x0.length sx0, .slice Sx1 x1.length sx1, .slice Sx2 x2.length sx2, .int .i64 x3, .int .i64 x4], .agg #[.slice T0 x0.length t0, .slice T1 x1.length t1, .slice T2 x2.length t2, .int .i64 x3, .int .i64 x4]] (by rfl) rfl rfl ab5 ?_
 refine (laws_eqPage.calls k _ _ x0 _ _ x1 _ _ x2 x3 x4 _ _ x0 _ _ x1 _ _ x2 x3 x4 true _ HOx.out.reads.1.2.2 HOx.out.reads.1.2.1 HOx.out.reads.2.1.2.2 HOx.out.reads.2.1.2.1 HOx.out.reads.2.2.2.2 HOx.out.reads.2.2.2.1 HOt.out.reads.1.2.2 HOt.out.reads.1.2.1 HOt.out.reads.2.1.2.2 HOt.out.reads.2.1.2.1 HOt.out.reads.2.2.2.2 HOt.out.reads.2.2.2.1 BA2_.out).mono ?_
 rintro e wb2 ⟨rfl, hb⟩
 refine ⟨_, rfl, ?_⟩
 replace OR := oadd OR (show wb1.heap.size ≤ wb2.heap.size from hb.size)
 replace BKp := bb BKp hb
 replace BKi := bb BKi hb
 replace BKa := bb BKa hb
 replace BKx := bb BKx hb
 replace BKy := bb BKy hb
 replace BKg := bb BKg hb
 replace HOa := ob HOa hb
 replace HOx := ob HOx hb
 replace HOg := ob HOg hb
 replace HRy3 := rb HRy3 hb
 replace HRy6 := rb HRy6 hb
 replace HX := xb HX hb
 clear hb hHeld
 refine hK.out _ _ ⟨BKx.out, BKp.out⟩ (fun hHeld => ?_)
 clear hK K
 refine nk_ 43 ?_
 refine pk_ 4 44 ?_
 refine done_ (by kernel_rfl) ?_
 clear hHeld
 clear HOt
 go_wp2
 have HXd := am (below_drew1 HX.out)
 replace BKp := am (blk_drew BKp.out)
 replace BKi := am (blk_drew BKi.out)
 replace BKa := am (blk_drew BKa.out)
 replace BKx := am (blk_drew BKx.out)
 replace BKy := am (blk_drew BKy.out)
 replace BKg := am (blk_drew BKg.out)
 replace HOa := am (HOa.out.below (below_drew1 (Below.refl _ _)))
 replace HOx := am (HOx.out.below (below_drew1 (Below.refl _ _)))
 replace HOg := am (HOg.out.below (below_drew1 (Below.refl _ _)))
 replace HRy3 := am (Kd.R_drew HRy3.out)
 replace HRy6 := am (Kd.R_drew HRy6.out)
 refine start_ (n := 5) (S := fun w' => w'.heap[gby]? = some (.cells #[.int .i64 y0, .int .i64 y1, .string y2, .slice Sy3 y3.length sy3, .string y4, .int .i64 y5, .slice Sy6 y6.length sy6] 38 (0, 0)) ∧ w'.heap[gbi]? = some (.cells #[.int .i64 b0, .int .i64 b1, .string b2, .slice A3 l3.length c3, .string b4, .int .i64 b5, .slice A6 l6.length c6] 28 (0, 0))) (ds := []) #[false, false, false, false, false] (by kernel_rfl) rfl rfl ⟨BKy.out, BKi.out⟩ (fun hHeld => ?_)
 clear HX
 have HX := HXd
 clear HXd
 replace OR := oadd OR (show wb2.heap.size ≤ (World.drew wb2).heap.size from Nat.le_refl _)
 generalize World.drew _ = wc0 at OR HX BKp BKi BKa BKx BKy BKg HOa HOx HOg HRy3 HRy6 hHeld ⊢
 refine tk2_ 0 45 hHeld ?_
 refine tk2_ 1 46 hHeld ?_
 refine one_ (i := 2) (N := some 47) #[true, true, true, false, false] rfl rfl (by kernel_rfl) (by decide) (fun K hK => ?_)
 refine goes_ Try.func8 (by kernel_rfl) rfl #[.agg #[.int .i64 b0, .int .i64 b1, .string b2, .slice A3 l3.length c3, .string b4, .int .i64 b5, .slice A6 l6.length c6]] (by rfl) rfl rfl ab5 ?_
 refine (laws_toItem.calls k b0 b1 b2 _ _ l3 b4 b5 _ _ l6 y0 y1 y2 y3 y4 y5 y6 _ (Kd.C_below Hhp3.out HX.out) Hhd3.out (Kd.C_below Hhp6.out HX.out) Hhd6.out BAY.out).mono ?_
 rintro e wc1 ⟨v3_, v6_, rfl, hr3, hr6, hb⟩
 refine ⟨_, rfl, ?_⟩
 replace OR := oadd OR (show wc0.heap.size ≤ wc1.heap.size from hb.size)
 have HRt3 := am hr3
 have HRt6 := am hr6
 obtain ⟨T3, t3, rfl⟩ := Kd.R_slice hr3
 obtain ⟨T6, t6, rfl⟩ := Kd.R_slice hr6
 clear hr3 hr6
 replace BKp := bb BKp hb
 replace BKi := bb BKi hb
 replace BKa := bb BKa hb
 replace BKx := bb BKx hb
 replace BKy := bb BKy hb
 replace BKg := bb BKg hb
 replace HOa := ob HOa hb
 replace HOx := ob HOx hb
 replace HOg := ob HOg hb
 replace HRy3 := rb HRy3 hb
 replace HRy6 := rb HRy6 hb
 replace HX := xb HX hb
 clear hb hHeld
 refine hK.out _ _ ⟨BKy.out, BKi.out⟩ (fun hHeld => ?_)
 clear hK K
 refine nk_ 47 ?_
 refine one_ (i := 3) (N := some 48) #[true, true, true, true, false] rfl rfl (by kernel_rfl) (by decide) (fun K hK => ?_)
 refine goes_ Try.func11 (by kernel_rfl) rfl #[.agg #[.int .i64 y0, .int .i64 y1, .string y2, .slice Sy3 y3.length sy3, .string y4, .int .i64 y5, .slice Sy6 y6.length sy6], .agg #[.int .i64 y0, .int .i64 y1, .string y2, .slice T3 y3.length t3, .string y4, .int .i64 y5, .slice T6 y6.length t6]] (by rfl) rfl rfl ab5 ?_
 refine (laws_eqItem.calls k y0 y1 y2 _ _ y3 y4 y5 _ _ y6 y0 y1 y2 _ _ y3 y4 y5 _ _ y6 true _ (Kd.R_reads' HRy3.out).2.2 (Kd.R_reads' HRy3.out).2.1 (Kd.R_reads' HRy6.out).2.2 (Kd.R_reads' HRy6.out).2.1 (Kd.R_reads' HRt3.out).2.2 (Kd.R_reads' HRt3.out).2.1 (Kd.R_reads' HRt6.out).2.2 (Kd.R_reads' HRt6.out).2.1 BA3_.out).mono ?_
 rintro e wc2 ⟨rfl, hb⟩
 refine ⟨_, rfl, ?_⟩
 replace OR := oadd OR (show wc1.heap.size ≤ wc2.heap.size from hb.size)
 replace BKp := bb BKp hb
 replace BKi := bb BKi hb
 replace BKa := bb BKa hb
 replace BKx := bb BKx hb
 replace BKy := bb BKy hb
 replace BKg := bb BKg hb
 replace HOa := ob HOa hb
 replace HOx := ob HOx hb
 replace HOg := ob HOg hb
 replace HRy3 := rb HRy3 hb
 replace HRy6 := rb HRy6 hb
 replace HX := xb HX hb
 clear hb hHeld
 refine hK.out _ _ ⟨BKy.out, BKi.out⟩ (fun hHeld => ?_)
 clear hK K
 refine nk_ 48 ?_
 refine pk_ 4 49 ?_
 refine done_ (by kernel_rfl) ?_
 clear hHeld
 clear HRt3 HRt6
 obtain ⟨h16x0, h16x1, h16x2, h16x3, h16x4⟩ := cl5 BKx
 go_wp2_with (first | ((with_reducible refine gate_callee (f := 12) rfl ?_); refine goesL_ (some 52) rfl rfl Try.func12 (by kernel_rfl) rfl #[.agg #[.slice Sx0 x0.length sx0, .slice Sx1 x1.length sx1, .slice Sx2 x2.length sx2, .int .i64 x3, .int .i64 x4], .int .i64 1] rfl ab5 ?_; (refine (laws_markPage.calls k (Bt wa1.heap.size wt1.heap.size) _ _ _ x0 x1 x2 x3 x4 1 u u0 u1 u2 w _ HX.out HOx.out BA4.out).mono ?_); rintro e wm1 ⟨rfl, hop_, hb, hk⟩; refine ⟨_, rfl, ?_⟩; replace BKp := am (blk_kept BKp.out hk (fun q_ => by have q1_ := q_.1; have q2_ := q_.2; have := OR.out; omega)); replace BKi := am (blk_kept BKi.out hk (fun q_ => by have q1_ := q_.1; have q2_ := q_.2; have := OR.out; omega)); replace BKa := am (blk_kept BKa.out hk (fun q_ => by have q1_ := q_.1; have q2_ := q_.2; have := OR.out; omega)); replace BKx := am (blk_kept BKx.out hk (fun q_ => by have q1_ := q_.1; have q2_ := q_.2; have := OR.out; omega)); replace BKy := am (blk_kept BKy.out hk (fun q_ => by have q1_ := q_.1; have q2_ := q_.2; have := OR.out; omega)); replace BKg := am (blk_kept BKg.out hk (fun q_ => by have q1_ := q_.1; have q2_ := q_.2; have := OR.out; omega)); replace HOa := am (HOa.out.kept hk (fun k hk_ q_ => by have h1_ := hk_.1; have h2_ := hk_.2; have q1_ := q_.1; have q2_ := q_.2; have := OR.out; omega)); replace HOg := am (HOg.out.kept hk (fun k hk_ q_ => by have h1_ := hk_.1; have h2_ := hk_.2; have q1_ := q_.1; have q2_ := q_.2; have := OR.out; omega)); replace HRy3 := am (Kd.R_kept HRy3.out hk (fun k hk_ q_ => by have h1_ := hk_.1; have h2_ := hk_.2; have q1_ := q_.1; have q2_ := q_.2; have := OR.out; omega)); replace HRy6 := am (Kd.R_kept HRy6.out hk (fun k hk_ q_ => by have h1_ := hk_.1; have h2_ := hk_.2; have q1_ := q_.1; have q2_ := q_.2; have := OR.out; omega)); replace OR := oadd OR (show wc2.heap.size ≤ wm1.heap.size from hk.1); replace HX := am hb; clear hop_ HOx; clear hb hk; (try clear h16x0 h16x1 h16x2 h16x3 h16x4); obtain ⟨h17y0, h17y1, h17y2, h17y3, h17y4, h17y5, h17y6⟩ := cl7 BKy) | ((with_reducible refine gate_callee (f := 13) rfl ?_); refine goesL_ (some 55) rfl rfl Try.func13 (by kernel_rfl) rfl #[.agg #[.int .i64 y0, .int .i64 y1, .string y2, .slice Sy3 y3.length sy3, .string y4, .int .i64 y5, .slice Sy6 y6.length sy6], .int .i64 u] rfl ab5 ?_; (refine (laws_markItem.calls k y0 y1 y2 (Bt wt3.heap.size wt4.heap.size) _ y3 y4 y5 (Bt wt3.heap.size wt4.heap.size) _ y6 u v v3 v6 w _ HX.out HRy3.out HRy6.out BA5.out).mono ?_); rintro e wm2 ⟨rfl, hr3_, hr6_, hb, hk⟩; refine ⟨_, rfl, ?_⟩; replace BKp := am (blk_kept BKp.out hk (fun q_ => by have q1_ := q_.elim (fun z_ => z_.1) (fun z_ => z_.1); have q2_ := q_.elim (fun z_ => z_.2) (fun z_ => z_.2); have := OR.out; omega)); replace BKi := am (blk_kept BKi.out hk (fun q_ => by have q1_ := q_.elim (fun z_ => z_.1) (fun z_ => z_.1); have q2_ := q_.elim (fun z_ => z_.2) (fun z_ => z_.2); have := OR.out; omega)); replace BKa := am (blk_kept BKa.out hk (fun q_ => by have q1_ := q_.elim (fun z_ => z_.1) (fun z_ => z_.1); have q2_ := q_.elim (fun z_ => z_.2) (fun z_ => z_.2); have := OR.out; omega)); replace BKx := am (blk_kept BKx.out hk (fun q_ => by have q1_ := q_.elim (fun z_ => z_.1) (fun z_ => z_.1); have q2_ := q_.elim (fun z_ => z_.2) (fun z_ => z_.2); have := OR.out; omega)); replace BKy := am (blk_kept BKy.out hk (fun q_ => by have q1_ := q_.elim (fun z_ => z_.1) (fun z_ => z_.1); have q2_ := q_.elim (fun z_ => z_.2) (fun z_ => z_.2); have := OR.out; omega)); replace BKg := am (blk_kept BKg.out hk (fun q_ => by have q1_ := q_.elim (fun z_ => z_.1) (fun z_ => z_.1); have q2_ := q_.elim (fun z_ => z_.2) (fun z_ => z_.2); have := OR.out; omega)); replace HOa := am (HOa.out.kept hk (fun k hk_ q_ => by have h1_ := hk_.1; have h2_ := hk_.2; have q1_ := q_.elim (fun z_ => z_.1) (fun z_ => z_.1); have q2_ := q_.elim (fun z_ => z_.2) (fun z_ => z_.2); have := OR.out; omega)); replace HOg := am (HOg.out.kept hk (fun k hk_ q_ => by have h1_ := hk_.1; have h2_ := hk_.2; have q1_ := q_.elim (fun z_ => z_.1) (fun z_ => z_.1); have q2_ := q_.elim (fun z_ => z_.2) (fun z_ => z_.2); have := OR.out; omega)); replace OR := oadd OR (show wm1.heap.size ≤ wm2.heap.size from hk.1); replace HX := am hb; clear hr3_ hr6_ HRy3 HRy6; clear hb hk; (try clear h17y0 h17y1 h17y2 h17y3 h17y4 h17y5 h17y6); obtain ⟨h18a0, h18a1, h18a2, h18a3, h18a4⟩ := cl5 BKa; obtain ⟨h18g0, h18g1, h18g2, h18g3, h18g4⟩ := cl5 BKg) | (go_at_call 10; (with_reducible refine (laws_eqPage.calls k _ _ g0 _ _ g1 _ _ g2 g3 g4 _ _ q0 _ _ q1 _ _ q2 q3 q4 true _ HOg.out.reads.1.2.2 HOg.out.reads.1.2.1 HOg.out.reads.2.1.2.2 HOg.out.reads.2.1.2.1 HOg.out.reads.2.2.2.2 HOg.out.reads.2.2.2.1 HOa.out.reads.1.2.2 HOa.out.reads.1.2.1 HOa.out.reads.2.1.2.2 HOa.out.reads.2.1.2.1 HOa.out.reads.2.2.2.2 HOa.out.reads.2.2.2.1 BA1.out).mono ?_); rintro e wm3 ⟨rfl, hb⟩; replace BKp := bb BKp hb; replace BKi := bb BKi hb; replace BKa := bb BKa hb; replace BKx := bb BKx hb; replace BKy := bb BKy hb; replace BKg := bb BKg hb; replace HX := xb HX hb; replace HOa := ob HOa hb; replace HOg := ob HOg hb; replace OR := oadd OR (show wm2.heap.size ≤ wm3.heap.size from hb.size); clear hb; (try clear h18a0 h18a1 h18a2 h18a3 h18a4 h18g0 h18g1 h18g2 h18g3 h18g4); obtain ⟨h19g0, h19g1, h19g2, h19g3, h19g4⟩ := cl5 BKg) | ((with_reducible refine gate_callee (f := 12) rfl ?_); refine goesL_ (some 66) rfl rfl Try.func12 (by kernel_rfl) rfl #[.agg #[.slice Sg0 g0.length sg0, .slice Sg1 g1.length sg1, .slice Sg2 g2.length sg2, .int .i64 g3, .int .i64 g4], .int .i64 1] rfl ab5 ?_; (refine (laws_markPage.calls k (Bt wt6.heap.size wt7.heap.size) _ _ _ g0 g1 g2 g3 g4 1 j z0 z1 z2 w _ HX.out HOg.out BA6_.out).mono ?_); rintro e wm4 ⟨rfl, hop_, hb, hk⟩; refine ⟨_, rfl, ?_⟩; replace BKp := am (blk_kept BKp.out hk (fun q_ => by have q1_ := q_.1; have q2_ := q_.2; have := OR.out; omega)); replace BKi := am (blk_kept BKi.out hk (fun q_ => by have q1_ := q_.1; have q2_ := q_.2; have := OR.out; omega)); replace BKa := am (blk_kept BKa.out hk (fun q_ => by have q1_ := q_.1; have q2_ := q_.2; have := OR.out; omega)); replace BKx := am (blk_kept BKx.out hk (fun q_ => by have q1_ := q_.1; have q2_ := q_.2; have := OR.out; omega)); replace BKy := am (blk_kept BKy.out hk (fun q_ => by have q1_ := q_.1; have q2_ := q_.2; have := OR.out; omega)); replace BKg := am (blk_kept BKg.out hk (fun q_ => by have q1_ := q_.1; have q2_ := q_.2; have := OR.out; omega)); replace HOa := am (HOa.out.kept hk (fun k hk_ q_ => by have h1_ := hk_.1; have h2_ := hk_.2; have q1_ := q_.1; have q2_ := q_.2; have := OR.out; omega)); replace OR := oadd OR (show wm3.heap.size ≤ wm4.heap.size from hk.1); replace HX := am hb; have HOg2 := hop_.bound; have E_ := hop_.reads; have e0_ := E_.1.1; have e1_ := E_.2.1.1; have e2_ := E_.2.2.1; rw [e0_, e1_, e2_] at BKg HOg2; clear HOg hop_ E_ e0_ e1_ e2_; have HOg := am (HOg2.mono (U' := Bt wt6.heap.size wm4.heap.size) (fun k hk_ => by have h1_ := hk_.1; have h2_ := hk_.2.2; refine ⟨?_, h2_⟩; rcases h1_ with h1_ | h1_; exact h1_.1; (have := OR.out; omega))); clear HOg2; clear hb hk; (try clear h19g0 h19g1 h19g2 h19g3 h19g4); obtain ⟨h21g0, h21g1, h21g2, h21g3, h21g4⟩ := cl5 BKg) | ((with_reducible refine gate_callee (f := 14) rfl ?_); refine goesL_ (some 69) rfl rfl Try.func14 (by kernel_rfl) rfl #[.agg #[.slice Sg0 z0.length sg0, .slice Sg1 z1.length sg1, .slice Sg2 z2.length sg2, .int .i64 g3, .int .i64 g4], .int .i64 1] rfl ab5 ?_; (with_reducible refine (laws_heldPage.calls k _ _ z0 _ _ z1 _ _ z2 g3 g4 1 j _ HOg.out.reads.1.2.2 HOg.out.reads.1.2.1 HOg.out.reads.2.1.2.2 HOg.out.reads.2.1.2.1 HOg.out.reads.2.2.2.2 HOg.out.reads.2.2.2.1 BA7.out).mono ?_); rintro e wm5 ⟨rfl, hb⟩; refine ⟨_, rfl, ?_⟩; replace BKp := bb BKp hb; replace BKi := bb BKi hb; replace BKa := bb BKa hb; replace BKx := bb BKx hb; replace BKy := bb BKy hb; replace BKg := bb BKg hb; replace HX := xb HX hb; replace HOa := ob HOa hb; replace HOg := ob HOg hb; replace OR := oadd OR (show wm4.heap.size ≤ wm5.heap.size from hb.size); clear hb; (try clear h21g0 h21g1 h21g2 h21g3 h21g4)))
 have LeX := am (below_drew1 HX.out)
 have Lep := am (blk_lt (blk_drew BKp.out))
 have Lei := am (blk_lt (blk_drew BKi.out))
 have Lea := am (blk_lt (blk_drew BKa.out))
 have Leg := am (blk_lt (blk_drew BKg.out))
 replace OR := oadd OR (show wm5.heap.size ≤ (World.drew wm5).heap.size from Nat.le_refl _)
 have HXd := am (below_drew1 HX.out)
 replace BKp := am (blk_drew BKp.out)
 replace BKi := am (blk_drew BKi.out)
 replace BKa := am (blk_drew BKa.out)
 replace BKg := am (blk_drew BKg.out)
 replace HOa := am (HOa.out.below (below_drew1 (Below.refl _ _)))
 replace HOg := am (HOg.out.below (below_drew1 (Below.refl _ _)))
 refine start_ (n := 7) (S := fun w' => w'.heap[gbp]? = some (.cells #[.slice A0 l0.length c0, .slice A1 l1.length c1, .slice A2 l2.length c2, .int .i64 h, .int .i64 b] 25 (0, 0)) ∧ w'.heap[gbi]? = some (.cells #[.int .i64 b0, .int .i64 b1, .string b2, .slice A3 l3.length c3, .string b4, .int .i64 b5, .slice A6 l6.length c6] 28 (0, 0))) (ds := [6]) #[false, false, false, false, false, false, false] (by kernel_rfl) rfl rfl ⟨BKp.out, BKi.out⟩ (fun hHeld => ?_)
 clear HX
 have HX := HXd
 clear HXd
 generalize World.drew _ = re0 at HX BKp BKi BKa BKg HOa HOg  hHeld LeX Lep Lei Lea Leg OR ⊢
 have Lepa := am (show na2 ≤ re0.heap.size from by have := OR.out; omega)
 have Lepg := am (show wm4.heap.size ≤ re0.heap.size from by have := OR.out; omega)
 refine tk2_ 0 75 hHeld ?_
 refine tk2_ 2 77 hHeld ?_
 refine join_ (σ := Value × Value × Value × Value × Value × Nat × Nat × Nat) 1 #[true, true, true, true, true, true, false] (fun s_ => [(76, s_.1), (78, s_.2.1), (79, .agg #[s_.2.2.1, s_.2.2.2.1, s_.2.2.2.2.1, .int .i64 g3, .int .i64 g4]), (13, .pointer (some ⟨s_.2.2.2.2.2.1, 0, none⟩))]) (fun s_ w' => w'.heap[gbp]? = some (.cells #[.slice A0 l0.length c0, .slice A1 l1.length c1, .slice A2 l2.length c2, .int .i64 h, .int .i64 b] 25 (0, 0)) ∧ w'.heap[gbi]? = some (.cells #[.int .i64 b0, .int .i64 b1, .string b2, .slice A3 l3.length c3, .string b4, .int .i64 b5, .slice A6 l6.length c6] 28 (0, 0)) ∧ w'.heap[gba]? = some (.cells #[.slice Sa0 q0.length sa0, .slice Sa1 q1.length sa1, .slice Sa2 q2.length sa2, .int .i64 q3, .int .i64 q4] 33 (0, 0)) ∧ w'.heap[gbg]? = some (.cells #[.slice Sg0 z0.length sg0, .slice Sg1 z1.length sg1, .slice Sg2 z2.length sg2, .int .i64 g3, .int .i64 g4] 33 (0, 0)) ∧ w'.heap[s_.2.2.2.2.2.1]? = some (.cells #[.slice none 0 0, .slice none 0 0, .slice none 0 0, .int .i64 0, .int .i64 0] 33 (0, 0)) ∧ Below w.heap.size w w' ∧ OwnP w' w.heap.size (Bt s_.2.2.2.2.2.2.1 s_.2.2.2.2.2.2.2) s_.2.2.1 s_.2.2.2.1 s_.2.2.2.2.1 g0 g1 g2 ∧ OwnP w' w.heap.size (Bt na1 na2) (.slice Sa0 q0.length sa0) (.slice Sa1 q1.length sa1) (.slice Sa2 q2.length sa2) q0 q1 q2 ∧ OwnP w' w.heap.size (Bt wt6.heap.size wm4.heap.size) (.slice Sg0 z0.length sg0) (.slice Sg1 z1.length sg1) (.slice Sg2 z2.length sg2) z0 z1 z2 ∧ re0.heap.size ≤ s_.2.2.2.2.2.1 ∧ re0.heap.size ≤ s_.2.2.2.2.2.2.1 ∧ s_.2.2.2.2.2.2.1 ≤ s_.2.2.2.2.2.2.2 ∧ s_.2.2.2.2.2.2.2 ≤ w'.heap.size ∧ (s_.2.2.2.2.2.1 < s_.2.2.2.2.2.2.1 ∨ s_.2.2.2.2.2.2.2 ≤ s_.2.2.2.2.2.1) ∧ s_.2.2.2.2.2.1 < w'.heap.size) ?_ ?_
 rotate_left
 ·intro hCont
  refine two_ (i := 1) (j := 5) (Ni := some 76) (Nj := some 13) #[true, true, true, false, false, false, false] #[true, false, true, false, false, true, false] rfl rfl rfl rfl (by kernel_rfl) (by decide) (by decide) (fun K hK => ?_) (fun K hK => ?_)
  ·skip
   refine goes_ Try.func7 (by kernel_rfl) rfl #[.agg #[.slice A0 l0.length c0, .slice A1 l1.length c1, .slice A2 l2.length c2, .int .i64 h, .int .i64 b]] (by rfl) rfl rfl ab5 ?_
   refine (laws_toPage.calls k _ _ l0 _ _ l1 _ _ l2 h b x0 x1 x2 x3 x4 _ (Kd.C_below Hhp0.out HX.out) Hhd0.out (Kd.C_below Hhp1.out HX.out) Hhd1.out (Kd.C_below Hhp2.out HX.out) Hhd2.out BAX.out).mono ?_
   rintro e re1 ⟨v0, v1, v2, rfl, ho0, ho1, ho2, hb⟩
   refine ⟨_, rfl, ?_⟩
   have Le1 := am (show re0.heap.size ≤ re1.heap.size from hb.size)
   replace BKp := bb BKp hb
   replace BKi := bb BKi hb
   replace BKa := bb BKa hb
   replace BKg := bb BKg hb
   replace HOa := ob HOa hb
   replace HOg := ob HOg hb
   have HOt := am ((OwnP.of_copy ho0 ho1 ho2).lower (below_size HX.out))
   obtain ⟨T0, t0, T1, t1, T2, t2, rfl, rfl, rfl, _, _, _⟩ := HOt.out.slices
   clear ho0 ho1 ho2
   replace HX := xb HX hb
   clear hb hHeld
   refine hK.out _ _ ⟨BKp.out, BKi.out⟩ (fun hHeld => ?_)
   clear hK K
   refine nk_ 76 ?_
   refine two_ (i := 3) (j := 5) (Ni := some 78) (Nj := some 13) #[true, true, true, true, false, false, false] #[true, true, true, false, false, true, false] rfl rfl rfl rfl (by kernel_rfl) (by decide) (by decide) (fun K hK => ?_) (fun K hK => ?_)
   ·skip
    refine goes_ Try.func8 (by kernel_rfl) rfl #[.agg #[.int .i64 b0, .int .i64 b1, .string b2, .slice A3 l3.length c3, .string b4, .int .i64 b5, .slice A6 l6.length c6]] (by rfl) rfl rfl ab5 ?_
    refine (laws_toItem.calls k b0 b1 b2 _ _ l3 b4 b5 _ _ l6 y0 y1 y2 y3 y4 y5 y6 _ (Kd.C_below Hhp3.out HX.out) Hhd3.out (Kd.C_below Hhp6.out HX.out) Hhd6.out BAY.out).mono ?_
    rintro e re2 ⟨v3, v6, rfl, hr3, hr6, hb⟩
    refine ⟨_, rfl, ?_⟩
    have Le2 := am (show re1.heap.size ≤ re2.heap.size from hb.size)
    replace BKp := bb BKp hb
    replace BKi := bb BKi hb
    replace BKa := bb BKa hb
    replace BKg := bb BKg hb
    replace HOa := ob HOa hb
    replace HOg := ob HOg hb
    replace HOt := ob HOt hb
    have HRt3 := am hr3
    have HRt6 := am hr6
    obtain ⟨T3, t3, rfl⟩ := Kd.R_slice hr3
    obtain ⟨T6, t6, rfl⟩ := Kd.R_slice hr6
    clear hr3 hr6
    replace HX := xb HX hb
    clear hb hHeld
    refine hK.out _ _ ⟨BKp.out, BKi.out⟩ (fun hHeld => ?_)
    clear hK K
    refine nk_ 78 ?_
    refine two_ (i := 4) (j := 5) (Ni := some 79) (Nj := some 13) #[true, true, true, true, true, false, false] #[true, true, true, true, false, true, false] rfl rfl rfl rfl (by kernel_rfl) (by decide) (by decide) (fun K hK => ?_) (fun K hK => ?_)
    ·skip
     refine goes_ Try.func9 (by kernel_rfl) rfl #[.agg #[.slice T0 x0.length t0, .slice T1 x1.length t1, .slice T2 x2.length t2, .int .i64 x3, .int .i64 x4], .agg #[.int .i64 y0, .int .i64 y1, .string y2, .slice T3 y3.length t3, .string y4, .int .i64 y5, .slice T6 y6.length t6]] (by rfl) rfl rfl ab5 ?_
     refine (impl_PutIn.calls k _ _ x0 _ _ x1 _ _ x2 x3 x4 y0 y1 y2 _ _ y3 y4 y5 _ _ _ g0 g1 g2 g3 g4 _ HOt.out.reads.1.2.2 HOt.out.reads.1.2.1 HOt.out.reads.2.1.2.2 HOt.out.reads.2.1.2.1 HOt.out.reads.2.2.2.2 HOt.out.reads.2.2.2.1 (Kd.R_reads' HRt3.out).2.2 (Kd.R_reads' HRt3.out).2.1 M_ (pw_cell_below HX.out Hhm_.out) BAG.out).mono ?_
     rintro e re3 ⟨v0, v1, v2, rfl, ho0, ho1, ho2, hb⟩
     refine ⟨_, rfl, ?_⟩
     have Le3 := am (show re2.heap.size ≤ re3.heap.size from hb.size)
     replace BKp := bb BKp hb
     replace BKi := bb BKi hb
     replace BKa := bb BKa hb
     replace BKg := bb BKg hb
     replace HOa := ob HOa hb
     replace HOg := ob HOg hb
     replace HOt := ob HOt hb
     replace HRt3 := rb HRt3 hb
     replace HRt6 := rb HRt6 hb
     have HOn := am ((OwnP.of_copy ho0 ho1 ho2).lower (below_size HX.out))
     clear ho0 ho1 ho2
     replace HX := xb HX hb
     clear hb hHeld
     refine hK.out _ _ ⟨BKp.out, BKi.out⟩ (fun hHeld => ?_)
     clear hK K
     refine nk_ 79 ?_
     refine one_ (i := 5) (N := some 13) #[true, true, true, true, true, true, false] rfl rfl (by kernel_rfl) (by decide) (fun K hK => ?_)
     refine box_step ?hg (N := 13) ?hd (cs := #[.slice none 0 0, .slice none 0 0, .slice none 0 0, .int .i64 0, .int .i64 0]) (t := 33) ?hr ?_; (case hd => rfl); (case hg => rfl); (case hr => first | (go_simp; done) | (go_simp; rfl))
     intro gbe hg re4 hbox hb
     have HGA := am hg
     have LTA := am (blk_lt hbox)
     have Le4 := am (show re3.heap.size ≤ re4.heap.size from hb.size)
     replace BKp := bb BKp hb
     replace BKi := bb BKi hb
     replace BKa := bb BKa hb
     replace BKg := bb BKg hb
     replace HOa := ob HOa hb
     replace HOg := ob HOg hb
     replace HOt := ob HOt hb
     replace HRt3 := rb HRt3 hb
     replace HRt6 := rb HRt6 hb
     replace HOn := ob HOn hb
     have BKe := am hbox
     clear hbox hg
     replace HX := xb HX hb
     clear hb hHeld
     refine hK.out _ _ ⟨BKp.out, BKi.out⟩ (fun hHeld => ?_)
     clear hK K
     refine nk_ 13 ?_
     exact norm_ (by simp only [putAll, Act.put, List.setIfInBounds_toArray, List.set_cons_zero, List.set_cons_succ]) (hCont (.agg #[.slice T0 x0.length t0, .slice T1 x1.length t1, .slice T2 x2.length t2, .int .i64 x3, .int .i64 x4], .agg #[.int .i64 y0, .int .i64 y1, .string y2, .slice T3 y3.length t3, .string y4, .int .i64 y5, .slice T6 y6.length t6], _, _, _, gbe, re2.heap.size, re3.heap.size) _ ⟨BKp.out, BKi.out, BKa.out, BKg.out, BKe.out, HX.out, HOn.out, HOa.out, HOg.out, by refine ⟨?_, ?_, ?_, ?_, ?_, ?_⟩ <;> ((try dsimp only); have := Le1.out; have := Le2.out; have := Le3.out; have := Le4.out; have := HGA.out; have := LTA.out; omega)⟩)
    ·skip
     refine box_step ?hg (N := 13) ?hd (cs := #[.slice none 0 0, .slice none 0 0, .slice none 0 0, .int .i64 0, .int .i64 0]) (t := 33) ?hr ?_; (case hd => rfl); (case hg => rfl); (case hr => first | (go_simp; done) | (go_simp; rfl))
     intro gbe hg re3 hbox hb
     have HGA := am hg
     have LTA := am (blk_lt hbox)
     have Le3 := am (show re2.heap.size ≤ re3.heap.size from hb.size)
     replace BKp := bb BKp hb
     replace BKi := bb BKi hb
     replace BKa := bb BKa hb
     replace BKg := bb BKg hb
     replace HOa := ob HOa hb
     replace HOg := ob HOg hb
     replace HOt := ob HOt hb
     replace HRt3 := rb HRt3 hb
     replace HRt6 := rb HRt6 hb
     have BKe := am hbox
     clear hbox hg
     replace HX := xb HX hb
     clear hb hHeld
     refine hK.out _ _ ⟨BKp.out, BKi.out⟩ (fun hHeld => ?_)
     clear hK K
     refine nk_ 13 ?_
     refine one_ (i := 4) (N := some 79) #[true, true, true, true, true, true, false] rfl rfl (by kernel_rfl) (by decide) (fun K hK => ?_)
     refine goes_ Try.func9 (by kernel_rfl) rfl #[.agg #[.slice T0 x0.length t0, .slice T1 x1.length t1, .slice T2 x2.length t2, .int .i64 x3, .int .i64 x4], .agg #[.int .i64 y0, .int .i64 y1, .string y2, .slice T3 y3.length t3, .string y4, .int .i64 y5, .slice T6 y6.length t6]] (by rfl) rfl rfl ab5 ?_
     refine (impl_PutIn.calls k _ _ x0 _ _ x1 _ _ x2 x3 x4 y0 y1 y2 _ _ y3 y4 y5 _ _ _ g0 g1 g2 g3 g4 _ HOt.out.reads.1.2.2 HOt.out.reads.1.2.1 HOt.out.reads.2.1.2.2 HOt.out.reads.2.1.2.1 HOt.out.reads.2.2.2.2 HOt.out.reads.2.2.2.1 (Kd.R_reads' HRt3.out).2.2 (Kd.R_reads' HRt3.out).2.1 M_ (pw_cell_below HX.out Hhm_.out) BAG.out).mono ?_
     rintro e re4 ⟨v0, v1, v2, rfl, ho0, ho1, ho2, hb⟩
     refine ⟨_, rfl, ?_⟩
     have Le4 := am (show re3.heap.size ≤ re4.heap.size from hb.size)
     replace BKp := bb BKp hb
     replace BKi := bb BKi hb
     replace BKa := bb BKa hb
     replace BKg := bb BKg hb
     replace BKe := bb BKe hb
     replace HOa := ob HOa hb
     replace HOg := ob HOg hb
     replace HOt := ob HOt hb
     replace HRt3 := rb HRt3 hb
     replace HRt6 := rb HRt6 hb
     have HOn := am ((OwnP.of_copy ho0 ho1 ho2).lower (below_size HX.out))
     clear ho0 ho1 ho2
     replace HX := xb HX hb
     clear hb hHeld
     refine hK.out _ _ ⟨BKp.out, BKi.out⟩ (fun hHeld => ?_)
     clear hK K
     refine nk_ 79 ?_
     exact norm_ (by simp only [putAll, Act.put, List.setIfInBounds_toArray, List.set_cons_zero, List.set_cons_succ]) (hCont (.agg #[.slice T0 x0.length t0, .slice T1 x1.length t1, .slice T2 x2.length t2, .int .i64 x3, .int .i64 x4], .agg #[.int .i64 y0, .int .i64 y1, .string y2, .slice T3 y3.length t3, .string y4, .int .i64 y5, .slice T6 y6.length t6], _, _, _, gbe, re3.heap.size, re4.heap.size) _ ⟨BKp.out, BKi.out, BKa.out, BKg.out, BKe.out, HX.out, HOn.out, HOa.out, HOg.out, by refine ⟨?_, ?_, ?_, ?_, ?_, ?_⟩ <;> ((try dsimp only); have := Le1.out; have := Le2.out; have := Le3.out; have := Le4.out; have := HGA.out; have := LTA.out; omega)⟩)
   ·skip
    refine box_step ?hg (N := 13) ?hd (cs := #[.slice none 0 0, .slice none 0 0, .slice none 0 0, .int .i64 0, .int .i64 0]) (t := 33) ?hr ?_; (case hd => rfl); (case hg => rfl); (case hr => first | (go_simp; done) | (go_simp; rfl))
    intro gbe hg re2 hbox hb
    have HGA := am hg
    have LTA := am (blk_lt hbox)
    have Le2 := am (show re1.heap.size ≤ re2.heap.size from hb.size)
    replace BKp := bb BKp hb
    replace BKi := bb BKi hb
    replace BKa := bb BKa hb
    replace BKg := bb BKg hb
    replace HOa := ob HOa hb
    replace HOg := ob HOg hb
    replace HOt := ob HOt hb
    have BKe := am hbox
    clear hbox hg
    replace HX := xb HX hb
    clear hb hHeld
    refine hK.out _ _ ⟨BKp.out, BKi.out⟩ (fun hHeld => ?_)
    clear hK K
    refine nk_ 13 ?_
    refine one_ (i := 3) (N := some 78) #[true, true, true, true, false, true, false] rfl rfl (by kernel_rfl) (by decide) (fun K hK => ?_)
    refine goes_ Try.func8 (by kernel_rfl) rfl #[.agg #[.int .i64 b0, .int .i64 b1, .string b2, .slice A3 l3.length c3, .string b4, .int .i64 b5, .slice A6 l6.length c6]] (by rfl) rfl rfl ab5 ?_
    refine (laws_toItem.calls k b0 b1 b2 _ _ l3 b4 b5 _ _ l6 y0 y1 y2 y3 y4 y5 y6 _ (Kd.C_below Hhp3.out HX.out) Hhd3.out (Kd.C_below Hhp6.out HX.out) Hhd6.out BAY.out).mono ?_
    rintro e re3 ⟨v3, v6, rfl, hr3, hr6, hb⟩
    refine ⟨_, rfl, ?_⟩
    have Le3 := am (show re2.heap.size ≤ re3.heap.size from hb.size)
    replace BKp := bb BKp hb
    replace BKi := bb BKi hb
    replace BKa := bb BKa hb
    replace BKg := bb BKg hb
    replace BKe := bb BKe hb
    replace HOa := ob HOa hb
    replace HOg := ob HOg hb
    replace HOt := ob HOt hb
    have HRt3 := am hr3
    have HRt6 := am hr6
    obtain ⟨T3, t3, rfl⟩ := Kd.R_slice hr3
    obtain ⟨T6, t6, rfl⟩ := Kd.R_slice hr6
    clear hr3 hr6
    replace HX := xb HX hb
    clear hb hHeld
    refine hK.out _ _ ⟨BKp.out, BKi.out⟩ (fun hHeld => ?_)
    clear hK K
    refine nk_ 78 ?_
    refine one_ (i := 4) (N := some 79) #[true, true, true, true, true, true, false] rfl rfl (by kernel_rfl) (by decide) (fun K hK => ?_)
    refine goes_ Try.func9 (by kernel_rfl) rfl #[.agg #[.slice T0 x0.length t0, .slice T1 x1.length t1, .slice T2 x2.length t2, .int .i64 x3, .int .i64 x4], .agg #[.int .i64 y0, .int .i64 y1, .string y2, .slice T3 y3.length t3, .string y4, .int .i64 y5, .slice T6 y6.length t6]] (by rfl) rfl rfl ab5 ?_
    refine (impl_PutIn.calls k _ _ x0 _ _ x1 _ _ x2 x3 x4 y0 y1 y2 _ _ y3 y4 y5 _ _ _ g0 g1 g2 g3 g4 _ HOt.out.reads.1.2.2 HOt.out.reads.1.2.1 HOt.out.reads.2.1.2.2 HOt.out.reads.2.1.2.1 HOt.out.reads.2.2.2.2 HOt.out.reads.2.2.2.1 (Kd.R_reads' HRt3.out).2.2 (Kd.R_reads' HRt3.out).2.1 M_ (pw_cell_below HX.out Hhm_.out) BAG.out).mono ?_
    rintro e re4 ⟨v0, v1, v2, rfl, ho0, ho1, ho2, hb⟩
    refine ⟨_, rfl, ?_⟩
    have Le4 := am (show re3.heap.size ≤ re4.heap.size from hb.size)
    replace BKp := bb BKp hb
    replace BKi := bb BKi hb
    replace BKa := bb BKa hb
    replace BKg := bb BKg hb
    replace BKe := bb BKe hb
    replace HOa := ob HOa hb
    replace HOg := ob HOg hb
    replace HOt := ob HOt hb
    replace HRt3 := rb HRt3 hb
    replace HRt6 := rb HRt6 hb
    have HOn := am ((OwnP.of_copy ho0 ho1 ho2).lower (below_size HX.out))
    clear ho0 ho1 ho2
    replace HX := xb HX hb
    clear hb hHeld
    refine hK.out _ _ ⟨BKp.out, BKi.out⟩ (fun hHeld => ?_)
    clear hK K
    refine nk_ 79 ?_
    exact norm_ (by simp only [putAll, Act.put, List.setIfInBounds_toArray, List.set_cons_zero, List.set_cons_succ]) (hCont (.agg #[.slice T0 x0.length t0, .slice T1 x1.length t1, .slice T2 x2.length t2, .int .i64 x3, .int .i64 x4], .agg #[.int .i64 y0, .int .i64 y1, .string y2, .slice T3 y3.length t3, .string y4, .int .i64 y5, .slice T6 y6.length t6], _, _, _, gbe, re3.heap.size, re4.heap.size) _ ⟨BKp.out, BKi.out, BKa.out, BKg.out, BKe.out, HX.out, HOn.out, HOa.out, HOg.out, by refine ⟨?_, ?_, ?_, ?_, ?_, ?_⟩ <;> ((try dsimp only); have := Le1.out; have := Le2.out; have := Le3.out; have := Le4.out; have := HGA.out; have := LTA.out; omega)⟩)
  ·skip
   refine box_step ?hg (N := 13) ?hd (cs := #[.slice none 0 0, .slice none 0 0, .slice none 0 0, .int .i64 0, .int .i64 0]) (t := 33) ?hr ?_; (case hd => rfl); (case hg => rfl); (case hr => first | (go_simp; done) | (go_simp; rfl))
   intro gbe hg re1 hbox hb
   have HGA := am hg
   have LTA := am (blk_lt hbox)
   have Le1 := am (show re0.heap.size ≤ re1.heap.size from hb.size)
   replace BKp := bb BKp hb
   replace BKi := bb BKi hb
   replace BKa := bb BKa hb
   replace BKg := bb BKg hb
   replace HOa := ob HOa hb
   replace HOg := ob HOg hb
   have BKe := am hbox
   clear hbox hg
   replace HX := xb HX hb
   clear hb hHeld
   refine hK.out _ _ ⟨BKp.out, BKi.out⟩ (fun hHeld => ?_)
   clear hK K
   refine nk_ 13 ?_
   refine one_ (i := 1) (N := some 76) #[true, true, true, false, false, true, false] rfl rfl (by kernel_rfl) (by decide) (fun K hK => ?_)
   refine goes_ Try.func7 (by kernel_rfl) rfl #[.agg #[.slice A0 l0.length c0, .slice A1 l1.length c1, .slice A2 l2.length c2, .int .i64 h, .int .i64 b]] (by rfl) rfl rfl ab5 ?_
   refine (laws_toPage.calls k _ _ l0 _ _ l1 _ _ l2 h b x0 x1 x2 x3 x4 _ (Kd.C_below Hhp0.out HX.out) Hhd0.out (Kd.C_below Hhp1.out HX.out) Hhd1.out (Kd.C_below Hhp2.out HX.out) Hhd2.out BAX.out).mono ?_
   rintro e re2 ⟨v0, v1, v2, rfl, ho0, ho1, ho2, hb⟩
   refine ⟨_, rfl, ?_⟩
   have Le2 := am (show re1.heap.size ≤ re2.heap.size from hb.size)
   replace BKp := bb BKp hb
   replace BKi := bb BKi hb
   replace BKa := bb BKa hb
   replace BKg := bb BKg hb
   replace BKe := bb BKe hb
   replace HOa := ob HOa hb
   replace HOg := ob HOg hb
   have HOt := am ((OwnP.of_copy ho0 ho1 ho2).lower (below_size HX.out))
   obtain ⟨T0, t0, T1, t1, T2, t2, rfl, rfl, rfl, _, _, _⟩ := HOt.out.slices
   clear ho0 ho1 ho2
   replace HX := xb HX hb
   clear hb hHeld
   refine hK.out _ _ ⟨BKp.out, BKi.out⟩ (fun hHeld => ?_)
   clear hK K
   refine nk_ 76 ?_
   refine one_ (i := 3) (N := some 78) #[true, true, true, true, false, true, false] rfl rfl (by kernel_rfl) (by decide) (fun K hK => ?_)
   refine goes_ Try.func8 (by kernel_rfl) rfl #[.agg #[.int .i64 b0, .int .i64 b1, .string b2, .slice A3 l3.length c3, .string b4, .int .i64 b5, .slice A6 l6.length c6]] (by rfl) rfl rfl ab5 ?_
   refine (laws_toItem.calls k b0 b1 b2 _ _ l3 b4 b5 _ _ l6 y0 y1 y2 y3 y4 y5 y6 _ (Kd.C_below Hhp3.out HX.out) Hhd3.out (Kd.C_below Hhp6.out HX.out) Hhd6.out BAY.out).mono ?_
   rintro e re3 ⟨v3, v6, rfl, hr3, hr6, hb⟩
   refine ⟨_, rfl, ?_⟩
   have Le3 := am (show re2.heap.size ≤ re3.heap.size from hb.size)
   replace BKp := bb BKp hb
   replace BKi := bb BKi hb
   replace BKa := bb BKa hb
   replace BKg := bb BKg hb
   replace BKe := bb BKe hb
   replace HOa := ob HOa hb
   replace HOg := ob HOg hb
   replace HOt := ob HOt hb
   have HRt3 := am hr3
   have HRt6 := am hr6
   obtain ⟨T3, t3, rfl⟩ := Kd.R_slice hr3
   obtain ⟨T6, t6, rfl⟩ := Kd.R_slice hr6
   clear hr3 hr6
   replace HX := xb HX hb
   clear hb hHeld
   refine hK.out _ _ ⟨BKp.out, BKi.out⟩ (fun hHeld => ?_)
   clear hK K
   refine nk_ 78 ?_
   refine one_ (i := 4) (N := some 79) #[true, true, true, true, true, true, false] rfl rfl (by kernel_rfl) (by decide) (fun K hK => ?_)
   refine goes_ Try.func9 (by kernel_rfl) rfl #[.agg #[.slice T0 x0.length t0, .slice T1 x1.length t1, .slice T2 x2.length t2, .int .i64 x3, .int .i64 x4], .agg #[.int .i64 y0, .int .i64 y1, .string y2, .slice T3 y3.length t3, .string y4, .int .i64 y5, .slice T6 y6.length t6]] (by rfl) rfl rfl ab5 ?_
   refine (impl_PutIn.calls k _ _ x0 _ _ x1 _ _ x2 x3 x4 y0 y1 y2 _ _ y3 y4 y5 _ _ _ g0 g1 g2 g3 g4 _ HOt.out.reads.1.2.2 HOt.out.reads.1.2.1 HOt.out.reads.2.1.2.2 HOt.out.reads.2.1.2.1 HOt.out.reads.2.2.2.2 HOt.out.reads.2.2.2.1 (Kd.R_reads' HRt3.out).2.2 (Kd.R_reads' HRt3.out).2.1 M_ (pw_cell_below HX.out Hhm_.out) BAG.out).mono ?_
   rintro e re4 ⟨v0, v1, v2, rfl, ho0, ho1, ho2, hb⟩
   refine ⟨_, rfl, ?_⟩
   have Le4 := am (show re3.heap.size ≤ re4.heap.size from hb.size)
   replace BKp := bb BKp hb
   replace BKi := bb BKi hb
   replace BKa := bb BKa hb
   replace BKg := bb BKg hb
   replace BKe := bb BKe hb
   replace HOa := ob HOa hb
   replace HOg := ob HOg hb
   replace HOt := ob HOt hb
   replace HRt3 := rb HRt3 hb
   replace HRt6 := rb HRt6 hb
   have HOn := am ((OwnP.of_copy ho0 ho1 ho2).lower (below_size HX.out))
   clear ho0 ho1 ho2
   replace HX := xb HX hb
   clear hb hHeld
   refine hK.out _ _ ⟨BKp.out, BKi.out⟩ (fun hHeld => ?_)
   clear hK K
   refine nk_ 79 ?_
   exact norm_ (by simp only [putAll, Act.put, List.setIfInBounds_toArray, List.set_cons_zero, List.set_cons_succ]) (hCont (.agg #[.slice T0 x0.length t0, .slice T1 x1.length t1, .slice T2 x2.length t2, .int .i64 x3, .int .i64 x4], .agg #[.int .i64 y0, .int .i64 y1, .string y2, .slice T3 y3.length t3, .string y4, .int .i64 y5, .slice T6 y6.length t6], _, _, _, gbe, re3.heap.size, re4.heap.size) _ ⟨BKp.out, BKi.out, BKa.out, BKg.out, BKe.out, HX.out, HOn.out, HOa.out, HOg.out, by refine ⟨?_, ?_, ?_, ?_, ?_, ?_⟩ <;> ((try dsimp only); have := Le1.out; have := Le2.out; have := Le3.out; have := Le4.out; have := HGA.out; have := LTA.out; omega)⟩)
 rintro ⟨v25e, v27e, v0, v1, v2, gbe, ne1, ne2⟩ we0 ⟨hbp_, hbi_, hba_, hbg_, hbn_, hx_, hon_, hopa_, hopg_, hin_⟩
 clear HX hHeld BKp BKi BKa BKg HOa HOg
 dsimp only at *
 have BKp := am hbp_
 have BKi := am hbi_
 have BKa := am hba_
 have BKg := am hbg_
 have HOa := am hopa_
 have HOg := am hopg_
 have BKe := am hbn_
 have HX := am hx_
 have HOe := am hon_
 have Len := am hin_
 have GEe := am (show w.heap.size ≤ gbe from Nat.le_trans (below_size LeX.out) hin_.1)
 obtain ⟨Se0, se0, Se1, se1, Se2, se2, rfl, rfl, rfl, _, _, _⟩ := HOe.out.slices
 clear hbn_ hx_ hon_ hin_ hbp_ hbi_ hba_ hbg_ hopa_ hopg_
 refine norm_ (a' := ?_) ?_ ?_
 rotate_left
 ·simp only [putAll, Act.put, List.setIfInBounds_toArray, List.set_cons_zero, List.set_cons_succ]
  rfl
 have NEp_e := am (show gbp ≠ gbe from by have := Lep.out; have := Len.out.1; omega)
 have NEi_e := am (show gbi ≠ gbe from by have := Lei.out; have := Len.out.1; omega)
 have NEa_e := am (show gba ≠ gbe from by have := Lea.out; have := Len.out.1; omega)
 have NEg_e := am (show gbg ≠ gbe from by have := Leg.out; have := Len.out.1; omega)
 refine last_ (i := 6) (N := none) #[true, true, true, true, true, true, true] rfl rfl (by kernel_rfl) (by decide) (fun K hK => ?_)
 obtain ⟨xx0_, xx1_, xx2_, xx3_, xx4_⟩ := cl5 BKe
 obtain ⟨xf0_, xf1_, xf2_, xf3_, xf4_⟩ := fz5 BKe
 refine skip_ (w1 := (st5 we0 gbe (.slice Se0 g0.length se0) (.slice Se1 g1.length se1) (.slice Se2 g2.length se2) (.int .i64 g3) (.int .i64 g4))) (by rfl) rfl ?_ ?_
 ·first | (go_simp; done) | (go_simp; rfl)
 clear xx0_ xx1_ xx2_ xx3_ xx4_ xf0_ xf1_ xf2_ xf3_ xf4_
 obtain ⟨we1, hw⟩ : ∃ w1_, w1_ = (st5 we0 gbe (.slice Se0 g0.length se0) (.slice Se1 g1.length se1) (.slice Se2 g2.length se2) (.int .i64 g3) (.int .i64 g4)) := ⟨_, rfl⟩
 replace BKp := kS5 hw BKp NEp_e.out
 replace BKi := kS5 hw BKi NEi_e.out
 replace BKa := kS5 hw BKa NEa_e.out
 replace BKg := kS5 hw BKg NEg_e.out
 replace BKe := sS5 hw BKe
 replace HX := bS5 hw HX GEe.out
 replace HOe := pS5 hw HOe (fun k hk e_ => by have h1_ := hk.1; have h2_ := hk.2; have := Len.out; omega)
 replace HOa := pS5 hw HOa (fun k hk e_ => by have h1_ := hk.1; have h2_ := hk.2; have := Len.out; have := Lepa.out; omega)
 replace HOg := pS5 hw HOg (fun k hk e_ => by have h1_ := hk.1; have h2_ := hk.2; have := Len.out; have := Lepg.out; omega)
 have Lew := am (zS5 hw)
 refine hK.out _ _ ?_
 rw [← hw]
 clear hK K hw
 refine done_ (by kernel_rfl) ?_
 obtain ⟨h23a0, h23a1, h23a2, h23a3, h23a4⟩ := cl5 BKa; obtain ⟨h23e0, h23e1, h23e2, h23e3, h23e4⟩ := cl5 BKe
 go_wp2_with (first | ((with_reducible refine gate_callee (f := 10) rfl ?_); refine goesL_ (some 82) rfl rfl Try.func10 (by kernel_rfl) rfl #[.agg #[.slice Se0 g0.length se0, .slice Se1 g1.length se1, .slice Se2 g2.length se2, .int .i64 g3, .int .i64 g4], .agg #[.slice Sa0 q0.length sa0, .slice Sa1 q1.length sa1, .slice Sa2 q2.length sa2, .int .i64 q3, .int .i64 q4]] rfl ab5 ?_; (with_reducible refine (laws_eqPage.calls k _ _ g0 _ _ g1 _ _ g2 g3 g4 _ _ q0 _ _ q1 _ _ q2 q3 q4 true _ HOe.out.reads.1.2.2 HOe.out.reads.1.2.1 HOe.out.reads.2.1.2.2 HOe.out.reads.2.1.2.1 HOe.out.reads.2.2.2.2 HOe.out.reads.2.2.2.1 HOa.out.reads.1.2.2 HOa.out.reads.1.2.1 HOa.out.reads.2.1.2.2 HOa.out.reads.2.1.2.1 HOa.out.reads.2.2.2.2 HOa.out.reads.2.2.2.1 BA1.out).mono ?_); rintro e we2 ⟨rfl, hb⟩; refine ⟨_, rfl, ?_⟩; replace BKp := bb BKp hb; replace BKi := bb BKi hb; replace BKa := bb BKa hb; replace BKg := bb BKg hb; replace BKe := bb BKe hb; replace HX := xb HX hb; replace HOa := ob HOa hb; replace HOg := ob HOg hb; replace HOe := ob HOe hb; clear hb; (try clear h23a0 h23a1 h23a2 h23a3 h23a4 h23e0 h23e1 h23e2 h23e3 h23e4); obtain ⟨h24g0, h24g1, h24g2, h24g3, h24g4⟩ := cl5 BKg) | ((with_reducible refine gate_callee (f := 14) rfl ?_); refine goesL_ (some 86) rfl rfl Try.func14 (by kernel_rfl) rfl #[.agg #[.slice Sg0 z0.length sg0, .slice Sg1 z1.length sg1, .slice Sg2 z2.length sg2, .int .i64 g3, .int .i64 g4], .int .i64 1] rfl ab5 ?_; (with_reducible refine (laws_heldPage.calls k _ _ z0 _ _ z1 _ _ z2 g3 g4 1 j _ HOg.out.reads.1.2.2 HOg.out.reads.1.2.1 HOg.out.reads.2.1.2.2 HOg.out.reads.2.1.2.1 HOg.out.reads.2.2.2.2 HOg.out.reads.2.2.2.1 BA7.out).mono ?_); rintro e we3 ⟨rfl, hb⟩; refine ⟨_, rfl, ?_⟩; replace BKp := bb BKp hb; replace BKi := bb BKi hb; replace BKa := bb BKa hb; replace BKg := bb BKg hb; replace BKe := bb BKe hb; replace HX := xb HX hb; replace HOa := ob HOa hb; replace HOg := ob HOg hb; replace HOe := ob HOe hb; clear hb; (try clear h24g0 h24g1 h24g2 h24g3 h24g4)))
 go_ret
 exact ⟨rfl, HX.out⟩
structure S25 where
 f0 : (List S28)
 f1 : (List Int)
 f2 : (List Int)
 f3 : Int
 f4 : Int
def k25 : Kd S25 := Kd.iso (Kd.pair (Kd.slice 28 k28) (Kd.pair (Kd.slice 3 (Kd.int .i64)) (Kd.pair (Kd.slice 3 (Kd.int .i64)) (Kd.pair (Kd.int .i64) (Kd.int .i64))))) (fun x : S25 => (x.f0, x.f1, x.f2, x.f3, x.f4))
theorem k25_open {w : World} {x : S25} {cs : List Value} (h : k25.K w x cs) : ∃ A0 c0 A1 c1 A2 c2, cs = [.slice A0 x.f0.length c0, .slice A1 x.f1.length c1, .slice A2 x.f2.length c2, .int .i64 x.f3, .int .i64 x.f4] ∧ x.f0.length ≤ c0 ∧ k28.C w A0 x.f0.length x.f0 ∧ x.f1.length ≤ c1 ∧ (Kd.int .i64).C w A1 x.f1.length x.f1 ∧ x.f2.length ≤ c2 ∧ (Kd.int .i64).C w A2 x.f2.length x.f2 := by
 obtain ⟨_, _, rfl, ⟨A0, c0, rfl, l0, g0⟩, ⟨_, _, rfl, ⟨A1, c1, rfl, l1, g1⟩, ⟨_, _, rfl, ⟨A2, c2, rfl, l2, g2⟩, ⟨_, _, rfl, rfl, rfl⟩⟩⟩⟩ := h
 exact ⟨A0, c0, A1, c1, A2, c2, rfl, l0, g0, l1, g1, l2, g2⟩
theorem k25_mk (w : World) (x : S25) {A0 : Option Addr} {c0 : Nat} (l0 : x.f0.length ≤ c0) (g0 : k28.C w A0 x.f0.length x.f0) {A1 : Option Addr} {c1 : Nat} (l1 : x.f1.length ≤ c1) (g1 : (Kd.int .i64).C w A1 x.f1.length x.f1) {A2 : Option Addr} {c2 : Nat} (l2 : x.f2.length ≤ c2) (g2 : (Kd.int .i64).C w A2 x.f2.length x.f2) : k25.K w x [.slice A0 x.f0.length c0, .slice A1 x.f1.length c1, .slice A2 x.f2.length c2, .int .i64 x.f3, .int .i64 x.f4] := ⟨[.slice A0 x.f0.length c0], [.slice A1 x.f1.length c1, .slice A2 x.f2.length c2, .int .i64 x.f3, .int .i64 x.f4], rfl, ⟨A0, c0, rfl, l0, g0⟩, ⟨[.slice A1 x.f1.length c1], [.slice A2 x.f2.length c2, .int .i64 x.f3, .int .i64 x.f4], rfl, ⟨A1, c1, rfl, l1, g1⟩, ⟨[.slice A2 x.f2.length c2], [.int .i64 x.f3, .int .i64 x.f4], rfl, ⟨A2, c2, rfl, l2, g2⟩, ⟨[.int .i64 x.f3], [.int .i64 x.f4], rfl, rfl, rfl⟩⟩⟩⟩
def G25 (b n : Nat) (x : S25) : Prop := (x.f0.length ≤ b ∧ (∀ y_ ∈ x.f0, G28 b n y_)) ∧ (x.f1.length ≤ b ∧ (∀ y_ ∈ x.f1, (Lit.int .i64 y_).wf = true)) ∧ (x.f2.length ≤ b ∧ (∀ y_ ∈ x.f2, (Lit.int .i64 y_).wf = true)) ∧ ((Lit.int .i64 x.f3).wf = true) ∧ ((Lit.int .i64 x.f4).wf = true)
theorem G25_mono {b n m : Nat} {x : S25} (hle : n ≤ m) (hx : G25 b n x) : G25 b m x := by
 obtain ⟨h0, h1, h2, h3, h4⟩ := hx
 exact ⟨(fun h_ => ⟨h_.1, fun y_ hy_ => (G28_mono hle) (h_.2 y_ hy_)⟩) h0, (fun h_ => ⟨h_.1, fun y_ hy_ => id (h_.2 y_ hy_)⟩) h1, (fun h_ => ⟨h_.1, fun y_ hy_ => id (h_.2 y_ hy_)⟩) h2, id h3, id h4⟩
/-- THE ONE PURE STATEMENT of laws_FnExactPutIn. -/
def laws_FnExactPutIn.Pure : Prop := ∀ (n0 : Nat) (x0 : S25) (n1 : Nat) (x1 : S28), G25 maxLen n0 x0 → G28 maxLen n1 x1 → ∃ k, laws_FnExactPutIn.f k x0.f0 x0.f1 x0.f2 x0.f3 x0.f4 x1.f0 x1.f1 x1.f2 x1.f3 x1.f4 x1.f5 x1.f6 = some true
end Go.Proofs.Ytekkalnafngfeaa.P
