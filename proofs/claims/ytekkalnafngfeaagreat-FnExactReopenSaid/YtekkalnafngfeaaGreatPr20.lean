-- WRITTEN BY this session's own programs
import Derived.Test.YtekkalnafngfeaaGreatPr2
namespace Go.Proofs.YtekkalnafngfeaaGreat.P
open Go.RowKit Go.Proofs.YtekkalnafngfeaaGreatW.PrintWords Go.Proofs.YtekkalnafngfeaaGreatW.PrintLast Go.Proofs.YtekkalnafngfeaaGreatW.PrintMore
set_option linter.unusedVariables false
set_option linter.unusedSimpArgs false
set_option maxHeartbeats 8000000
set_option maxRecDepth 100000
attribute [local go_sem] max2_int min2_int max_two min_two max_three min_three max_four min_four
theorem z3_0 {q0 p : Prop} (g0 : Aside0 q0) (h : Aside0 q0 → p := by intro g0_; repeat (first | exact (Kd.C_below g0_.out ba_) | (with_reducible refine Kd.C_alloc ?_ _) | (with_reducible refine Kd.C_drewN ?_ _) | (with_reducible refine Kd.C_drew ?_))) : p := h g0
def laws_eqItem.f (k : Nat) (a0_0 : Int) (a0_1 : Int) (a0_2 : ByteArray) (l0_3 : List (S56)) (a0_4 : ByteArray) (a0_5 : Int) (l0_6 : List Int) (a1_0 : Int) (a1_1 : Int) (a1_2 : ByteArray) (l1_3 : List (S56)) (a1_4 : ByteArray) (a1_5 : Int) (l1_6 : List Int) : Option (Bool) := if a0_0 = a1_0 then (if a0_1 = a1_1 then (if a0_2.toList = a1_2.toList then ((laws_eqAttrS.f k l0_3 l1_3).bind fun t174 => (if t174 = true then (if a0_4.toList = a1_4.toList then (if a0_5 = a1_5 then ((laws_eqIntS.f k l0_6 l1_6).bind fun t175 => (if t175 = true then (some true) else (some false))) else (some false)) else (some false)) else (some false))) else (some false)) else (some false)) else (some false)
theorem laws_eqItem.calls (k : Nat) (a0_0 : Int) (a0_1 : Int) (a0_2 : ByteArray) (A0_3 : Option Addr) (c0_3 : Nat) (l0_3 : List (S56)) (a0_4 : ByteArray) (a0_5 : Int) (A0_6 : Option Addr) (c0_6 : Nat) (l0_6 : List Int) (a1_0 : Int) (a1_1 : Int) (a1_2 : ByteArray) (A1_3 : Option Addr) (c1_3 : Nat) (l1_3 : List (S56)) (a1_4 : ByteArray) (a1_5 : Int) (A1_6 : Option Addr) (c1_6 : Nat) (l1_6 : List Int) (r : Bool) (w : World) (hr0_3 : Kd.C k56 w A0_3 l0_3.length l0_3) (hc0_3 : l0_3.length ≤ c0_3) (hr0_6 : Kd.C (Kd.int .i64) w A0_6 l0_6.length l0_6) (hc0_6 : l0_6.length ≤ c0_6) (hr1_3 : Kd.C k56 w A1_3 l1_3.length l1_3) (hc1_3 : l1_3.length ≤ c1_3) (hr1_6 : Kd.C (Kd.int .i64) w A1_6 l1_6.length l1_6) (hc1_6 : l1_6.length ≤ c1_6) (h : laws_eqItem.f k a0_0 a0_1 a0_2 l0_3 a0_4 a0_5 l0_6 a1_0 a1_1 a1_2 l1_3 a1_4 a1_5 l1_6 = some r) :
  Calls Tryz.prog 68 #[.agg #[.int .i64 a0_0, .int .i64 a0_1, .string a0_2, .slice A0_3 l0_3.length c0_3, .string a0_4, .int .i64 a0_5, .slice A0_6 l0_6.length c0_6], .agg #[.int .i64 a1_0, .int .i64 a1_1, .string a1_2, .slice A1_3 l1_3.length c1_3, .string a1_4, .int .i64 a1_5, .slice A1_6 l1_6.length c1_6]] w fun e w' => e = .returned (.bool r) ∧ Below w.heap.size w w' := by
 have hu53 := Tryz.underlying53
 have HR0_3 := am hr0_3
 have HC0_3 := am hc0_3
 clear hr0_3 hc0_3
 have HR0_6 := am hr0_6
 have HC0_6 := am hc0_6
 clear hr0_6 hc0_6
 have HR1_3 := am hr1_3
 have HC1_3 := am hc1_3
 clear hr1_3 hc1_3
 have HR1_6 := am hr1_6
 have HC1_6 := am hc1_6
 clear hr1_6 hc1_6
 have HB := am (Below.refl w.heap.size w)
 have H : (if a0_0 = a1_0 then (if a0_1 = a1_1 then (if a0_2.toList = a1_2.toList then ((laws_eqAttrS.f k l0_3 l1_3).bind fun t174 => (if t174 = true then (if a0_4.toList = a1_4.toList then (if a0_5 = a1_5 then ((laws_eqIntS.f k l0_6 l1_6).bind fun t175 => (if t175 = true then (some true) else (some false))) else (some false)) else (some false)) else (some false))) else (some false)) else (some false)) else (some false)) = some r := h
 clear h
 replace H := ie_ H; rcases H with ⟨c3b0, c3b1, H⟩ | ⟨c3, c3b0, c3b1, H⟩
 ·replace H := ie_ H; rcases H with ⟨c4b0, c4b1, H⟩ | ⟨c4, c4b0, c4b1, H⟩
  ·replace H := ie_ H; rcases H with ⟨c5b0, c5b1, H⟩ | ⟨c5, c5b0, c5b1, H⟩
   ·replace H := bi_ H; obtain ⟨t174, A6, H⟩ := H
    replace H := ib_ H; rcases H with ⟨rfl, H⟩ | ⟨rfl, H⟩
    ·replace H := ie_ H; rcases H with ⟨c8b0, c8b1, H⟩ | ⟨c8, c8b0, c8b1, H⟩
     ·replace H := ie_ H; rcases H with ⟨c9b0, c9b1, H⟩ | ⟨c9, c9b0, c9b1, H⟩
      ·replace H := bi_ H; obtain ⟨t175, A10, H⟩ := H
       replace H := ib_ H; rcases H with ⟨rfl, H⟩ | ⟨rfl, H⟩
       ·obtain rfl := Option.some.inj H
        go_enter Tryz.func68, Tryz.ntmps68
        go_wp2_with (first | ((with_reducible refine gd_ 2 ?_); refine bx_ 2 (cs := #[.int .i64 a0_0, .int .i64 a0_1, .string a0_2, .slice A0_3 l0_3.length c0_3, .string a0_4, .int .i64 a0_5, .slice A0_6 l0_6.length c0_6]) 53 ?_; intro gb172 hg w12 hbox hb; have BK172 := am hbox; have GW172 := ge_ (w := w) hg; have GE172 := ge_ (w := w) hg; replace HB := am (below_step ab1 hb); clear hb hbox hg) | ((with_reducible refine gd_ 3 ?_); refine bx_ 3 (cs := #[.int .i64 a1_0, .int .i64 a1_1, .string a1_2, .slice A1_3 l1_3.length c1_3, .string a1_4, .int .i64 a1_5, .slice A1_6 l1_6.length c1_6]) 53 ?_; intro gb173 hg w13 hbox hb; have BK173 := am hbox; have GW173 := gE_ (w := w) GE172 hg; have GE173 := gE_ (w := w) GE172 hg; replace HB := am (below_step (ab2 GE172) hb); have NB172_173 := nl_ BK172 hg; have NB173_172 := ng_ BK172 hg; replace BK172 := bl_ BK172 hb; clear hb hbox hg; have hnb14 := NB172_173.out; have hnc14 := NB173_172.out; obtain ⟨⟨_, _, _, _, _, _, _⟩, _, _, _, _, _, _, _⟩ := Op.cells7 BK172.out; obtain ⟨⟨_, _, _, _, _, _, _⟩, _, _, _, _, _, _, _⟩ := Op.cells7 BK173.out) | ((with_reducible refine gf_ 13 ?_); refine gc_ Tryz.func13 (laws_eqAttrS.calls k _ _ l0_3 _ _ l1_3 true _ (sc_ HR0_3) HC0_3.out (sc_ HR1_3) HC1_3.out A6.out) ?_; rintro w17 hb; replace BK172 := bl_ BK172 hb; replace BK173 := bl_ BK173 hb; replace HB := am (below_step ba_ hb); (try clear hb); obtain ⟨⟨_, _, _, _, _, _, _⟩, _, _, _, _, _, _, _⟩ := Op.cells7 BK172.out; obtain ⟨⟨_, _, _, _, _, _, _⟩, _, _, _, _, _, _, _⟩ := Op.cells7 BK173.out) | ((with_reducible refine gf_ 36 ?_); refine gc_ Tryz.func36 (laws_eqIntS.calls k _ _ l0_6 _ _ l1_6 true _ (sc_ HR0_6) HC0_6.out (sc_ HR1_6) HC1_6.out A10.out) ?_; rintro w' ⟨nd, rfl⟩))
        go_ret
        exact ⟨ab7, ba_⟩
       ·obtain rfl := Option.some.inj H
        go_enter Tryz.func68, Tryz.ntmps68
        go_wp2_with (first | ((with_reducible refine gd_ 2 ?_); refine bx_ 2 (cs := #[.int .i64 a0_0, .int .i64 a0_1, .string a0_2, .slice A0_3 l0_3.length c0_3, .string a0_4, .int .i64 a0_5, .slice A0_6 l0_6.length c0_6]) 53 ?_; intro gb172 hg w20 hbox hb; have BK172 := am hbox; have GW172 := ge_ (w := w) hg; have GE172 := ge_ (w := w) hg; replace HB := am (below_step ab1 hb); clear hb hbox hg) | ((with_reducible refine gd_ 3 ?_); refine bx_ 3 (cs := #[.int .i64 a1_0, .int .i64 a1_1, .string a1_2, .slice A1_3 l1_3.length c1_3, .string a1_4, .int .i64 a1_5, .slice A1_6 l1_6.length c1_6]) 53 ?_; intro gb173 hg w21 hbox hb; have BK173 := am hbox; have GW173 := gE_ (w := w) GE172 hg; have GE173 := gE_ (w := w) GE172 hg; replace HB := am (below_step (ab2 GE172) hb); have NB172_173 := nl_ BK172 hg; have NB173_172 := ng_ BK172 hg; replace BK172 := bl_ BK172 hb; clear hb hbox hg; have hnb22 := NB172_173.out; have hnc22 := NB173_172.out; obtain ⟨⟨_, _, _, _, _, _, _⟩, _, _, _, _, _, _, _⟩ := Op.cells7 BK172.out; obtain ⟨⟨_, _, _, _, _, _, _⟩, _, _, _, _, _, _, _⟩ := Op.cells7 BK173.out) | ((with_reducible refine gf_ 13 ?_); refine gc_ Tryz.func13 (laws_eqAttrS.calls k _ _ l0_3 _ _ l1_3 true _ (sc_ HR0_3) HC0_3.out (sc_ HR1_3) HC1_3.out A6.out) ?_; rintro w25 hb; replace BK172 := bl_ BK172 hb; replace BK173 := bl_ BK173 hb; replace HB := am (below_step ba_ hb); (try clear hb); obtain ⟨⟨_, _, _, _, _, _, _⟩, _, _, _, _, _, _, _⟩ := Op.cells7 BK172.out; obtain ⟨⟨_, _, _, _, _, _, _⟩, _, _, _, _, _, _, _⟩ := Op.cells7 BK173.out) | ((with_reducible refine gf_ 36 ?_); refine gc_ Tryz.func36 (laws_eqIntS.calls k _ _ l0_6 _ _ l1_6 false _ (sc_ HR0_6) HC0_6.out (sc_ HR1_6) HC1_6.out A10.out) ?_; rintro w' ⟨nd, rfl⟩))
        go_ret
        exact ⟨ab7, ba_⟩
      ·obtain rfl := Option.some.inj H
       go_enter Tryz.func68, Tryz.ntmps68
       go_wp2_with (first | ((with_reducible refine gd_ 2 ?_); refine bx_ 2 (cs := #[.int .i64 a0_0, .int .i64 a0_1, .string a0_2, .slice A0_3 l0_3.length c0_3, .string a0_4, .int .i64 a0_5, .slice A0_6 l0_6.length c0_6]) 53 ?_; intro gb172 hg w28 hbox hb; have BK172 := am hbox; have GW172 := ge_ (w := w) hg; have GE172 := ge_ (w := w) hg; replace HB := am (below_step ab1 hb); clear hb hbox hg) | ((with_reducible refine gd_ 3 ?_); refine bx_ 3 (cs := #[.int .i64 a1_0, .int .i64 a1_1, .string a1_2, .slice A1_3 l1_3.length c1_3, .string a1_4, .int .i64 a1_5, .slice A1_6 l1_6.length c1_6]) 53 ?_; intro gb173 hg w29 hbox hb; have BK173 := am hbox; have GW173 := gE_ (w := w) GE172 hg; have GE173 := gE_ (w := w) GE172 hg; replace HB := am (below_step (ab2 GE172) hb); have NB172_173 := nl_ BK172 hg; have NB173_172 := ng_ BK172 hg; replace BK172 := bl_ BK172 hb; clear hb hbox hg; have hnb30 := NB172_173.out; have hnc30 := NB173_172.out; obtain ⟨⟨_, _, _, _, _, _, _⟩, _, _, _, _, _, _, _⟩ := Op.cells7 BK172.out; obtain ⟨⟨_, _, _, _, _, _, _⟩, _, _, _, _, _, _, _⟩ := Op.cells7 BK173.out) | ((with_reducible refine gf_ 13 ?_); refine gc_ Tryz.func13 (laws_eqAttrS.calls k _ _ l0_3 _ _ l1_3 true _ (sc_ HR0_3) HC0_3.out (sc_ HR1_3) HC1_3.out A6.out) ?_; rintro w33 hb; replace BK172 := bl_ BK172 hb; replace BK173 := bl_ BK173 hb; replace HB := am (below_step ba_ hb); (try clear hb); obtain ⟨⟨_, _, _, _, _, _, _⟩, _, _, _, _, _, _, _⟩ := Op.cells7 BK172.out; obtain ⟨⟨_, _, _, _, _, _, _⟩, _, _, _, _, _, _, _⟩ := Op.cells7 BK173.out))
       go_ret
       exact ⟨ab7, ba_⟩
     ·obtain rfl := Option.some.inj H
      go_enter Tryz.func68, Tryz.ntmps68
      go_wp2_with (first | ((with_reducible refine gd_ 2 ?_); refine bx_ 2 (cs := #[.int .i64 a0_0, .int .i64 a0_1, .string a0_2, .slice A0_3 l0_3.length c0_3, .string a0_4, .int .i64 a0_5, .slice A0_6 l0_6.length c0_6]) 53 ?_; intro gb172 hg w36 hbox hb; have BK172 := am hbox; have GW172 := ge_ (w := w) hg; have GE172 := ge_ (w := w) hg; replace HB := am (below_step ab1 hb); clear hb hbox hg) | ((with_reducible refine gd_ 3 ?_); refine bx_ 3 (cs := #[.int .i64 a1_0, .int .i64 a1_1, .string a1_2, .slice A1_3 l1_3.length c1_3, .string a1_4, .int .i64 a1_5, .slice A1_6 l1_6.length c1_6]) 53 ?_; intro gb173 hg w37 hbox hb; have BK173 := am hbox; have GW173 := gE_ (w := w) GE172 hg; have GE173 := gE_ (w := w) GE172 hg; replace HB := am (below_step (ab2 GE172) hb); have NB172_173 := nl_ BK172 hg; have NB173_172 := ng_ BK172 hg; replace BK172 := bl_ BK172 hb; clear hb hbox hg; have hnb38 := NB172_173.out; have hnc38 := NB173_172.out; obtain ⟨⟨_, _, _, _, _, _, _⟩, _, _, _, _, _, _, _⟩ := Op.cells7 BK172.out; obtain ⟨⟨_, _, _, _, _, _, _⟩, _, _, _, _, _, _, _⟩ := Op.cells7 BK173.out) | ((with_reducible refine gf_ 13 ?_); refine gc_ Tryz.func13 (laws_eqAttrS.calls k _ _ l0_3 _ _ l1_3 true _ (sc_ HR0_3) HC0_3.out (sc_ HR1_3) HC1_3.out A6.out) ?_; rintro w41 hb; replace BK172 := bl_ BK172 hb; replace BK173 := bl_ BK173 hb; replace HB := am (below_step ba_ hb); (try clear hb); obtain ⟨⟨_, _, _, _, _, _, _⟩, _, _, _, _, _, _, _⟩ := Op.cells7 BK172.out; obtain ⟨⟨_, _, _, _, _, _, _⟩, _, _, _, _, _, _, _⟩ := Op.cells7 BK173.out))
      go_ret
      exact ⟨ab7, ba_⟩
    ·obtain rfl := Option.some.inj H
     go_enter Tryz.func68, Tryz.ntmps68
     go_wp2_with (first | ((with_reducible refine gd_ 2 ?_); refine bx_ 2 (cs := #[.int .i64 a0_0, .int .i64 a0_1, .string a0_2, .slice A0_3 l0_3.length c0_3, .string a0_4, .int .i64 a0_5, .slice A0_6 l0_6.length c0_6]) 53 ?_; intro gb172 hg w44 hbox hb; have BK172 := am hbox; have GW172 := ge_ (w := w) hg; have GE172 := ge_ (w := w) hg; replace HB := am (below_step ab1 hb); clear hb hbox hg) | ((with_reducible refine gd_ 3 ?_); refine bx_ 3 (cs := #[.int .i64 a1_0, .int .i64 a1_1, .string a1_2, .slice A1_3 l1_3.length c1_3, .string a1_4, .int .i64 a1_5, .slice A1_6 l1_6.length c1_6]) 53 ?_; intro gb173 hg w45 hbox hb; have BK173 := am hbox; have GW173 := gE_ (w := w) GE172 hg; have GE173 := gE_ (w := w) GE172 hg; replace HB := am (below_step (ab2 GE172) hb); have NB172_173 := nl_ BK172 hg; have NB173_172 := ng_ BK172 hg; replace BK172 := bl_ BK172 hb; clear hb hbox hg; have hnb46 := NB172_173.out; have hnc46 := NB173_172.out; obtain ⟨⟨_, _, _, _, _, _, _⟩, _, _, _, _, _, _, _⟩ := Op.cells7 BK172.out; obtain ⟨⟨_, _, _, _, _, _, _⟩, _, _, _, _, _, _, _⟩ := Op.cells7 BK173.out) | ((with_reducible refine gf_ 13 ?_); refine gc_ Tryz.func13 (laws_eqAttrS.calls k _ _ l0_3 _ _ l1_3 false _ (sc_ HR0_3) HC0_3.out (sc_ HR1_3) HC1_3.out A6.out) ?_; rintro w49 hb; replace BK172 := bl_ BK172 hb; replace BK173 := bl_ BK173 hb; replace HB := am (below_step ba_ hb); (try clear hb)))
     go_ret
     exact ⟨ab7, ba_⟩
   ·obtain rfl := Option.some.inj H
    go_enter Tryz.func68, Tryz.ntmps68
    go_wp2_with (first | ((with_reducible refine gd_ 2 ?_); refine bx_ 2 (cs := #[.int .i64 a0_0, .int .i64 a0_1, .string a0_2, .slice A0_3 l0_3.length c0_3, .string a0_4, .int .i64 a0_5, .slice A0_6 l0_6.length c0_6]) 53 ?_; intro gb172 hg w50 hbox hb; have BK172 := am hbox; have GW172 := ge_ (w := w) hg; have GE172 := ge_ (w := w) hg; replace HB := am (below_step ab1 hb); clear hb hbox hg) | ((with_reducible refine gd_ 3 ?_); refine bx_ 3 (cs := #[.int .i64 a1_0, .int .i64 a1_1, .string a1_2, .slice A1_3 l1_3.length c1_3, .string a1_4, .int .i64 a1_5, .slice A1_6 l1_6.length c1_6]) 53 ?_; intro gb173 hg w51 hbox hb; have BK173 := am hbox; have GW173 := gE_ (w := w) GE172 hg; have GE173 := gE_ (w := w) GE172 hg; replace HB := am (below_step (ab2 GE172) hb); have NB172_173 := nl_ BK172 hg; have NB173_172 := ng_ BK172 hg; replace BK172 := bl_ BK172 hb; clear hb hbox hg; have hnb52 := NB172_173.out; have hnc52 := NB173_172.out; obtain ⟨⟨_, _, _, _, _, _, _⟩, _, _, _, _, _, _, _⟩ := Op.cells7 BK172.out; obtain ⟨⟨_, _, _, _, _, _, _⟩, _, _, _, _, _, _, _⟩ := Op.cells7 BK173.out))
    go_ret
    exact ⟨ab7, ba_⟩
  ·obtain rfl := Option.some.inj H
   go_enter Tryz.func68, Tryz.ntmps68
   go_wp2_with (first | ((with_reducible refine gd_ 2 ?_); refine bx_ 2 (cs := #[.int .i64 a0_0, .int .i64 a0_1, .string a0_2, .slice A0_3 l0_3.length c0_3, .string a0_4, .int .i64 a0_5, .slice A0_6 l0_6.length c0_6]) 53 ?_; intro gb172 hg w55 hbox hb; have BK172 := am hbox; have GW172 := ge_ (w := w) hg; have GE172 := ge_ (w := w) hg; replace HB := am (below_step ab1 hb); clear hb hbox hg) | ((with_reducible refine gd_ 3 ?_); refine bx_ 3 (cs := #[.int .i64 a1_0, .int .i64 a1_1, .string a1_2, .slice A1_3 l1_3.length c1_3, .string a1_4, .int .i64 a1_5, .slice A1_6 l1_6.length c1_6]) 53 ?_; intro gb173 hg w56 hbox hb; have BK173 := am hbox; have GW173 := gE_ (w := w) GE172 hg; have GE173 := gE_ (w := w) GE172 hg; replace HB := am (below_step (ab2 GE172) hb); have NB172_173 := nl_ BK172 hg; have NB173_172 := ng_ BK172 hg; replace BK172 := bl_ BK172 hb; clear hb hbox hg; have hnb57 := NB172_173.out; have hnc57 := NB173_172.out; obtain ⟨⟨_, _, _, _, _, _, _⟩, _, _, _, _, _, _, _⟩ := Op.cells7 BK172.out; obtain ⟨⟨_, _, _, _, _, _, _⟩, _, _, _, _, _, _, _⟩ := Op.cells7 BK173.out))
   go_ret
   exact ⟨ab7, ba_⟩
 ·obtain rfl := Option.some.inj H
  go_enter Tryz.func68, Tryz.ntmps68
  go_wp2_with (first | ((with_reducible refine gd_ 2 ?_); refine bx_ 2 (cs := #[.int .i64 a0_0, .int .i64 a0_1, .string a0_2, .slice A0_3 l0_3.length c0_3, .string a0_4, .int .i64 a0_5, .slice A0_6 l0_6.length c0_6]) 53 ?_; intro gb172 hg w60 hbox hb; have BK172 := am hbox; have GW172 := ge_ (w := w) hg; have GE172 := ge_ (w := w) hg; replace HB := am (below_step ab1 hb); clear hb hbox hg) | ((with_reducible refine gd_ 3 ?_); refine bx_ 3 (cs := #[.int .i64 a1_0, .int .i64 a1_1, .string a1_2, .slice A1_3 l1_3.length c1_3, .string a1_4, .int .i64 a1_5, .slice A1_6 l1_6.length c1_6]) 53 ?_; intro gb173 hg w61 hbox hb; have BK173 := am hbox; have GW173 := gE_ (w := w) GE172 hg; have GE173 := gE_ (w := w) GE172 hg; replace HB := am (below_step (ab2 GE172) hb); have NB172_173 := nl_ BK172 hg; have NB173_172 := ng_ BK172 hg; replace BK172 := bl_ BK172 hb; clear hb hbox hg; have hnb62 := NB172_173.out; have hnc62 := NB173_172.out; obtain ⟨⟨_, _, _, _, _, _, _⟩, _, _, _, _, _, _, _⟩ := Op.cells7 BK172.out; obtain ⟨⟨_, _, _, _, _, _, _⟩, _, _, _, _, _, _, _⟩ := Op.cells7 BK173.out))
  go_ret
  exact ⟨ab7, ba_⟩
def laws_eqItemS.l0 : Nat → List (S53) → List (S53) → Int → Option (Bool)
 | 0, _, _, _ => none
 | k + 1, x0, x1, x5 => if x5 < (x0.length : Int) then (if 0 ≤ x5 then (if x5 < (x1.length : Int) then ((laws_eqItem.f k ((rd_T53 x0 x5).f0) ((rd_T53 x0 x5).f1) ((rd_T53 x0 x5).f2) ((rd_T53 x0 x5).f3) ((rd_T53 x0 x5).f4) ((rd_T53 x0 x5).f5) ((rd_T53 x0 x5).f6) ((rd_T53 x1 x5).f0) ((rd_T53 x1 x5).f1) ((rd_T53 x1 x5).f2) ((rd_T53 x1 x5).f3) ((rd_T53 x1 x5).f4) ((rd_T53 x1 x5).f5) ((rd_T53 x1 x5).f6)).bind fun t178 => (if t178 = true then (laws_eqItemS.l0 k x0 x1 (wrap64 (x5 + 1))) else (some false))) else (none)) else (none)) else (some true)
def laws_eqItemS.f (k : Nat) (l0 : List (S53)) (l1 : List (S53)) : Option (Bool) := if (l0.length : Int) = (l1.length : Int) then (laws_eqItemS.l0 k l0 l1 0) else (some false)
def laws_eqItemS.T6 : Bool × List (List Nat × List Nat) := (true, [([], []), ([], []), ([0, 1], [0, 1]), ([2], [2]), ([], []), ([], []), ([4, 5], [4, 5]), ([6], [6]), ([3, 7], [3, 7]), ([8], [8])])
def laws_eqItemS.B6 : List Nat := [0, 0, 3, 7, 0, 0, 48, 112, 255, 511]
theorem laws_eqItemS.tab6 : rtab .any (opsOf Tryz.f35 6) = laws_eqItemS.T6 := by kernel_rfl
theorem laws_eqItemS.bits6 : waitsOk laws_eqItemS.T6.2 laws_eqItemS.B6 = true := by kernel_rfl
theorem laws_eqItemS.calls (k : Nat) (A0 : Option Addr) (c0 : Nat) (l0 : List (S53)) (A1 : Option Addr) (c1 : Nat) (l1 : List (S53)) (r : Bool) (w : World) (hr0 : Kd.C k53 w A0 l0.length l0) (hc0 : l0.length ≤ c0) (hr1 : Kd.C k53 w A1 l1.length l1) (hc1 : l1.length ≤ c1) (h : laws_eqItemS.f k l0 l1 = some r) :
  Calls Tryz.prog 35 #[.slice A0 l0.length c0, .slice A1 l1.length c1] w fun e w' => e = .returned (.bool r) ∧ Below w.heap.size w w' := by
 have hu53 := Tryz.underlying53
 have HR0 := am hr0
 have HC0 := am hc0
 clear hr0 hc0
 have HR1 := am hr1
 have HC1 := am hc1
 clear hr1 hc1
 have HB := am (Below.refl w.heap.size w)
 have H : (if (l0.length : Int) = (l1.length : Int) then (laws_eqItemS.l0 k l0 l1 0) else (some false)) = some r := h
 clear h
 by_cases c3 : (l0.length : Int) = (l1.length : Int)
 ·rw [if_pos c3] at H
  have c3b0 : ((l0.length : Int) == (l1.length : Int)) = true := beq_iff_eq.mpr c3
  have c3b1 : ((l0.length : Int) != (l1.length : Int)) = false := bne_eq_false_iff_eq.mpr c3
  have c3b2 : (l0.length == l1.length) = true := by first | simpa using c3 | (simp at c3 ⊢; omega)
  clear c3
  have H' := am H
  clear H
  go_enter Tryz.func35, Tryz.ntmps35
  go_wp2
  go_loopg [5] k (fun kq v5 w' => ∃ (x5_1 : Int), v5 = .int .i64 x5_1 ∧ Aside0 (laws_eqItemS.l0 kq l0 l1 x5_1 = some r) ∧ Aside0 (kq ≤ k) ∧ Aside0 (Below w.heap.size w w'))
  case atStart => exact ⟨(0), ab6, H', ⟨Nat.le_refl _⟩, ⟨ab1⟩⟩
  case round =>
   clear H'
   (try clear c1); (try clear p2); (try clear c3); (try clear c3b0); (try clear c3b1); (try clear c3b2)
   obtain ⟨x5_1, rfl, HA, HK1, HB⟩ := hrel
   cases gk with
   | zero => exact absurd HA.out (by simp [laws_eqItemS.l0])
   | succ k1 =>
    have H := HA.out
    clear HA
    simp only [laws_eqItemS.l0] at H
    replace H := ir_ H; rcases H with ⟨c4b0, H⟩ | ⟨c4b0, H⟩
    ·replace H := iq_ H; obtain ⟨c5b0, H⟩ := H
     replace H := iq_ H; obtain ⟨c6b0, H⟩ := H
     replace H := bi_ H; obtain ⟨t178, A7, H⟩ := H
     replace H := ib_ H; rcases H with ⟨rfl, H⟩ | ⟨rfl, H⟩
     ·have H' := am H
      clear H
      try go_wp2
      replace HB := am (below_drew1 HB.out)
      obtain ⟨p176, q176, ad176, A176_3, c176_3, A176_6, c176_6, rfl, hx176_0, hx176_1, hx176_2, hx176_3, hx176_4, hx176_5, hx176_6, HC176_3, HR176_3, HC176_6, HR176_6, hw176⟩ := osT53 HB HR0.out x5_1 (of_decide_eq_true ab4) (of_decide_eq_true ab4)
      obtain ⟨p177, q177, ad177, A177_3, c177_3, A177_6, c177_6, rfl, hx177_0, hx177_1, hx177_2, hx177_3, hx177_4, hx177_5, hx177_6, HC177_3, HR177_3, HC177_6, HR177_6, hw177⟩ := osT53 HB HR1.out x5_1 (of_decide_eq_true ab4) (of_decide_eq_true ab4)
      refine start_ (n := 10) (ds := []) #[false, false, false, false, false, false, false, false, false, false] (by kernel_rfl) rfl rfl (spT53 HB hw176 (spT53 HB hw177 tr_ :) :) (fun hHeld => ?_); refine with_tabW laws_eqItemS.tab6 laws_eqItemS.bits6 (fun HT_ HW_ => ?_)
      generalize wr.drew = w9 at HB HR176_3 HR176_6 HR177_3 HR177_6 hx176_0 hx176_1 hx176_2 hx176_3 hx176_4 hx176_5 hx176_6 hx177_0 hx177_1 hx177_2 hx177_3 hx177_4 hx177_5 hx177_6 hHeld ⊢
      refine pa_ 0 17 HT_ ?_
      refine pa_ 1 18 HT_ ?_
      refine pa_ 2 19 HT_ ?_
      refine pa_ 4 21 HT_ ?_
      refine pa_ 5 22 HT_ ?_
      refine pa_ 6 23 HT_ ?_
      refine tk_ 3 20 HT_ HW_ hHeld ?_
      refine tk_ 7 24 HT_ HW_ hHeld ?_
      refine on_ 8 25 HT_ fun K hK => ?_
      refine goes_ Tryz.func68 (by kernel_rfl) rfl #[.agg #[.int .i64 ((rd_T53 l0 x5_1).f0), .int .i64 ((rd_T53 l0 x5_1).f1), .string ((rd_T53 l0 x5_1).f2), .slice A176_3 ((rd_T53 l0 x5_1).f3).length c176_3, .string ((rd_T53 l0 x5_1).f4), .int .i64 ((rd_T53 l0 x5_1).f5), .slice A176_6 ((rd_T53 l0 x5_1).f6).length c176_6], .agg #[.int .i64 ((rd_T53 l1 x5_1).f0), .int .i64 ((rd_T53 l1 x5_1).f1), .string ((rd_T53 l1 x5_1).f2), .slice A177_3 ((rd_T53 l1 x5_1).f3).length c177_3, .string ((rd_T53 l1 x5_1).f4), .int .i64 ((rd_T53 l1 x5_1).f5), .slice A177_6 ((rd_T53 l1 x5_1).f6).length c177_6]] (by rfl) rfl rfl ab5 ?_
      with_reducible refine (laws_eqItem.calls k1 ((rd_T53 l0 x5_1).f0) ((rd_T53 l0 x5_1).f1) ((rd_T53 l0 x5_1).f2) _ _ ((rd_T53 l0 x5_1).f3) ((rd_T53 l0 x5_1).f4) ((rd_T53 l0 x5_1).f5) _ _ ((rd_T53 l0 x5_1).f6) ((rd_T53 l1 x5_1).f0) ((rd_T53 l1 x5_1).f1) ((rd_T53 l1 x5_1).f2) _ _ ((rd_T53 l1 x5_1).f3) ((rd_T53 l1 x5_1).f4) ((rd_T53 l1 x5_1).f5) _ _ ((rd_T53 l1 x5_1).f6) true _ ?side1 ?side2 ?side3 ?side4 ?side5 ?side6 ?side7 ?side8 A7.out).mono ?_
      (case side1 => repeat (first | exact (Kd.C_below HR176_3.out HB.out) | (with_reducible refine Kd.C_alloc ?_ _) | (with_reducible refine Kd.C_drewN ?_ _) | (with_reducible refine Kd.C_drew ?_)))
      (case side2 => exact HC176_3.out)
      (case side3 => repeat (first | exact (Kd.C_below HR176_6.out HB.out) | (with_reducible refine Kd.C_alloc ?_ _) | (with_reducible refine Kd.C_drewN ?_ _) | (with_reducible refine Kd.C_drew ?_)))
      (case side4 => exact HC176_6.out)
      (case side5 => repeat (first | exact (Kd.C_below HR177_3.out HB.out) | (with_reducible refine Kd.C_alloc ?_ _) | (with_reducible refine Kd.C_drewN ?_ _) | (with_reducible refine Kd.C_drew ?_)))
      (case side6 => exact HC177_3.out)
      (case side7 => repeat (first | exact (Kd.C_below HR177_6.out HB.out) | (with_reducible refine Kd.C_alloc ?_ _) | (with_reducible refine Kd.C_drewN ?_ _) | (with_reducible refine Kd.C_drew ?_)))
      (case side8 => exact HC177_6.out)
      rintro e w10 ⟨rfl, hb⟩
      refine ⟨_, rfl, ?_⟩
      replace HB := am (below_step ab1 hb)
      (try clear hb)
      refine hK.out _ _ (spT53 HB hw176 (spT53 HB hw177 tr_ :) :) (fun hHeld => ?_)
      clear hK K
      refine nm_ ?_
      refine pa_ 9 26 HT_ ?_
      refine dn_ HT_ ?_
      try go_wp2
      go_roundg k1
      case measure => have := HK1.out; omega
      case rel => exact ⟨(wrap64 (x5_1 + 1)), ab6, H', ⟨by have := HK1.out; omega⟩, ⟨ab1⟩⟩
     ·obtain rfl := Option.some.inj H
      try go_wp2
      replace HB := am (below_drew1 HB.out)
      obtain ⟨p176, q176, ad176, A176_3, c176_3, A176_6, c176_6, rfl, hx176_0, hx176_1, hx176_2, hx176_3, hx176_4, hx176_5, hx176_6, HC176_3, HR176_3, HC176_6, HR176_6, hw176⟩ := osT53 HB HR0.out x5_1 (of_decide_eq_true ab4) (of_decide_eq_true ab4)
      obtain ⟨p177, q177, ad177, A177_3, c177_3, A177_6, c177_6, rfl, hx177_0, hx177_1, hx177_2, hx177_3, hx177_4, hx177_5, hx177_6, HC177_3, HR177_3, HC177_6, HR177_6, hw177⟩ := osT53 HB HR1.out x5_1 (of_decide_eq_true ab4) (of_decide_eq_true ab4)
      refine start_ (n := 10) (ds := []) #[false, false, false, false, false, false, false, false, false, false] (by kernel_rfl) rfl rfl (spT53 HB hw176 (spT53 HB hw177 tr_ :) :) (fun hHeld => ?_); refine with_tabW laws_eqItemS.tab6 laws_eqItemS.bits6 (fun HT_ HW_ => ?_)
      generalize wr.drew = w11 at HB HR176_3 HR176_6 HR177_3 HR177_6 hx176_0 hx176_1 hx176_2 hx176_3 hx176_4 hx176_5 hx176_6 hx177_0 hx177_1 hx177_2 hx177_3 hx177_4 hx177_5 hx177_6 hHeld ⊢
      refine pa_ 0 17 HT_ ?_
      refine pa_ 1 18 HT_ ?_
      refine pa_ 2 19 HT_ ?_
      refine pa_ 4 21 HT_ ?_
      refine pa_ 5 22 HT_ ?_
      refine pa_ 6 23 HT_ ?_
      refine tk_ 3 20 HT_ HW_ hHeld ?_
      refine tk_ 7 24 HT_ HW_ hHeld ?_
      refine on_ 8 25 HT_ fun K hK => ?_
      refine goes_ Tryz.func68 (by kernel_rfl) rfl #[.agg #[.int .i64 ((rd_T53 l0 x5_1).f0), .int .i64 ((rd_T53 l0 x5_1).f1), .string ((rd_T53 l0 x5_1).f2), .slice A176_3 ((rd_T53 l0 x5_1).f3).length c176_3, .string ((rd_T53 l0 x5_1).f4), .int .i64 ((rd_T53 l0 x5_1).f5), .slice A176_6 ((rd_T53 l0 x5_1).f6).length c176_6], .agg #[.int .i64 ((rd_T53 l1 x5_1).f0), .int .i64 ((rd_T53 l1 x5_1).f1), .string ((rd_T53 l1 x5_1).f2), .slice A177_3 ((rd_T53 l1 x5_1).f3).length c177_3, .string ((rd_T53 l1 x5_1).f4), .int .i64 ((rd_T53 l1 x5_1).f5), .slice A177_6 ((rd_T53 l1 x5_1).f6).length c177_6]] (by rfl) rfl rfl ab5 ?_
      with_reducible refine (laws_eqItem.calls k1 ((rd_T53 l0 x5_1).f0) ((rd_T53 l0 x5_1).f1) ((rd_T53 l0 x5_1).f2) _ _ ((rd_T53 l0 x5_1).f3) ((rd_T53 l0 x5_1).f4) ((rd_T53 l0 x5_1).f5) _ _ ((rd_T53 l0 x5_1).f6) ((rd_T53 l1 x5_1).f0) ((rd_T53 l1 x5_1).f1) ((rd_T53 l1 x5_1).f2) _ _ ((rd_T53 l1 x5_1).f3) ((rd_T53 l1 x5_1).f4) ((rd_T53 l1 x5_1).f5) _ _ ((rd_T53 l1 x5_1).f6) false _ ?side1 ?side2 ?side3 ?side4 ?side5 ?side6 ?side7 ?side8 A7.out).mono ?_
      (case side1 => repeat (first | exact (Kd.C_below HR176_3.out HB.out) | (with_reducible refine Kd.C_alloc ?_ _) | (with_reducible refine Kd.C_drewN ?_ _) | (with_reducible refine Kd.C_drew ?_)))
      (case side2 => exact HC176_3.out)
      (case side3 => repeat (first | exact (Kd.C_below HR176_6.out HB.out) | (with_reducible refine Kd.C_alloc ?_ _) | (with_reducible refine Kd.C_drewN ?_ _) | (with_reducible refine Kd.C_drew ?_)))
      (case side4 => exact HC176_6.out)
      (case side5 => repeat (first | exact (Kd.C_below HR177_3.out HB.out) | (with_reducible refine Kd.C_alloc ?_ _) | (with_reducible refine Kd.C_drewN ?_ _) | (with_reducible refine Kd.C_drew ?_)))
      (case side6 => exact HC177_3.out)
      (case side7 => repeat (first | exact (Kd.C_below HR177_6.out HB.out) | (with_reducible refine Kd.C_alloc ?_ _) | (with_reducible refine Kd.C_drewN ?_ _) | (with_reducible refine Kd.C_drew ?_)))
      (case side8 => exact HC177_6.out)
      rintro e w12 ⟨rfl, hb⟩
      refine ⟨_, rfl, ?_⟩
      replace HB := am (below_step ab1 hb)
      (try clear hb)
      refine hK.out _ _ (spT53 HB hw176 (spT53 HB hw177 tr_ :) :) (fun hHeld => ?_)
      clear hK K
      refine nm_ ?_
      refine pa_ 9 26 HT_ ?_
      refine dn_ HT_ ?_
      try go_wp2
      go_ret
      exact ⟨ab7, ab1⟩
    ·obtain rfl := Option.some.inj H
     go_wp2
     go_ret
     exact ⟨ab7, ab1⟩
 ·rw [if_neg c3] at H
  have c3b0 : ((l0.length : Int) == (l1.length : Int)) = false := beq_eq_false_iff_ne.mpr c3
  have c3b1 : ((l0.length : Int) != (l1.length : Int)) = true := bne_iff_ne.mpr c3
  have c3b2 : (l0.length == l1.length) = false := by first | simpa using c3 | (simp at c3 ⊢; omega)
  obtain rfl := Option.some.inj H
  go_enter Tryz.func35, Tryz.ntmps35
  go_wp2
  go_ret
  exact ⟨ab7, ab1⟩
def laws_eqPage.f (k : Nat) (l0_0 : List (S53)) (l0_1 : List Int) (l0_2 : List Int) (a0_3 : Int) (a0_4 : Int) (l1_0 : List (S53)) (l1_1 : List Int) (l1_2 : List Int) (a1_3 : Int) (a1_4 : Int) : Option (Bool) := (laws_eqItemS.f k l0_0 l1_0).bind fun t181 => (if t181 = true then ((laws_eqIntS.f k l0_1 l1_1).bind fun t182 => (if t182 = true then ((laws_eqIntS.f k l0_2 l1_2).bind fun t183 => (if t183 = true then (if a0_3 = a1_3 then (if a0_4 = a1_4 then (some true) else (some false)) else (some false)) else (some false))) else (some false))) else (some false))
theorem laws_eqPage.calls (k : Nat) (A0_0 : Option Addr) (c0_0 : Nat) (l0_0 : List (S53)) (A0_1 : Option Addr) (c0_1 : Nat) (l0_1 : List Int) (A0_2 : Option Addr) (c0_2 : Nat) (l0_2 : List Int) (a0_3 : Int) (a0_4 : Int) (A1_0 : Option Addr) (c1_0 : Nat) (l1_0 : List (S53)) (A1_1 : Option Addr) (c1_1 : Nat) (l1_1 : List Int) (A1_2 : Option Addr) (c1_2 : Nat) (l1_2 : List Int) (a1_3 : Int) (a1_4 : Int) (r : Bool) (w : World) (hr0_0 : Kd.C k53 w A0_0 l0_0.length l0_0) (hc0_0 : l0_0.length ≤ c0_0) (hr0_1 : Kd.C (Kd.int .i64) w A0_1 l0_1.length l0_1) (hc0_1 : l0_1.length ≤ c0_1) (hr0_2 : Kd.C (Kd.int .i64) w A0_2 l0_2.length l0_2) (hc0_2 : l0_2.length ≤ c0_2) (hr1_0 : Kd.C k53 w A1_0 l1_0.length l1_0) (hc1_0 : l1_0.length ≤ c1_0) (hr1_1 : Kd.C (Kd.int .i64) w A1_1 l1_1.length l1_1) (hc1_1 : l1_1.length ≤ c1_1) (hr1_2 : Kd.C (Kd.int .i64) w A1_2 l1_2.length l1_2) (hc1_2 : l1_2.length ≤ c1_2) (h : laws_eqPage.f k l0_0 l0_1 l0_2 a0_3 a0_4 l1_0 l1_1 l1_2 a1_3 a1_4 = some r) :
  Calls Tryz.prog 12 #[.agg #[.slice A0_0 l0_0.length c0_0, .slice A0_1 l0_1.length c0_1, .slice A0_2 l0_2.length c0_2, .int .i64 a0_3, .int .i64 a0_4], .agg #[.slice A1_0 l1_0.length c1_0, .slice A1_1 l1_1.length c1_1, .slice A1_2 l1_2.length c1_2, .int .i64 a1_3, .int .i64 a1_4]] w fun e w' => e = .returned (.bool r) ∧ Below w.heap.size w w' := by
 have hu31 := Tryz.underlying31
 have HR0_0 := am hr0_0
 have HC0_0 := am hc0_0
 clear hr0_0 hc0_0
 have HR0_1 := am hr0_1
 have HC0_1 := am hc0_1
 clear hr0_1 hc0_1
 have HR0_2 := am hr0_2
 have HC0_2 := am hc0_2
 clear hr0_2 hc0_2
 have HR1_0 := am hr1_0
 have HC1_0 := am hc1_0
 clear hr1_0 hc1_0
 have HR1_1 := am hr1_1
 have HC1_1 := am hc1_1
 clear hr1_1 hc1_1
 have HR1_2 := am hr1_2
 have HC1_2 := am hc1_2
 clear hr1_2 hc1_2
 have HB := am (Below.refl w.heap.size w)
 have H : ((laws_eqItemS.f k l0_0 l1_0).bind fun t181 => (if t181 = true then ((laws_eqIntS.f k l0_1 l1_1).bind fun t182 => (if t182 = true then ((laws_eqIntS.f k l0_2 l1_2).bind fun t183 => (if t183 = true then (if a0_3 = a1_3 then (if a0_4 = a1_4 then (some true) else (some false)) else (some false)) else (some false))) else (some false))) else (some false))) = some r := h
 clear h
 replace H := bi_ H; obtain ⟨t181, A3, H⟩ := H
 replace H := ib_ H; rcases H with ⟨rfl, H⟩ | ⟨rfl, H⟩
 ·replace H := bi_ H; obtain ⟨t182, A5, H⟩ := H
  replace H := ib_ H; rcases H with ⟨rfl, H⟩ | ⟨rfl, H⟩
  ·replace H := bi_ H; obtain ⟨t183, A7, H⟩ := H
   replace H := ib_ H; rcases H with ⟨rfl, H⟩ | ⟨rfl, H⟩
   ·replace H := ie_ H; rcases H with ⟨c9b0, c9b1, H⟩ | ⟨c9, c9b0, c9b1, H⟩
    ·replace H := ie_ H; rcases H with ⟨c10b0, c10b1, H⟩ | ⟨c10, c10b0, c10b1, H⟩
     ·obtain rfl := Option.some.inj H
      go_enter Tryz.func12, Tryz.ntmps12
      go_wp2_with (first | ((with_reducible refine gd_ 2 ?_); refine bx_ 2 (cs := #[.slice A0_0 l0_0.length c0_0, .slice A0_1 l0_1.length c0_1, .slice A0_2 l0_2.length c0_2, .int .i64 a0_3, .int .i64 a0_4]) 31 ?_; intro gb179 hg w11 hbox hb; have BK179 := am hbox; have GW179 := ge_ (w := w) hg; have GE179 := ge_ (w := w) hg; replace HB := am (below_step ab1 hb); clear hb hbox hg) | ((with_reducible refine gd_ 3 ?_); refine bx_ 3 (cs := #[.slice A1_0 l1_0.length c1_0, .slice A1_1 l1_1.length c1_1, .slice A1_2 l1_2.length c1_2, .int .i64 a1_3, .int .i64 a1_4]) 31 ?_; intro gb180 hg w12 hbox hb; have BK180 := am hbox; have GW180 := gE_ (w := w) GE179 hg; have GE180 := gE_ (w := w) GE179 hg; replace HB := am (below_step (ab2 GE179) hb); have NB179_180 := nl_ BK179 hg; have NB180_179 := ng_ BK179 hg; replace BK179 := bl_ BK179 hb; clear hb hbox hg; have hnb13 := NB179_180.out; have hnc13 := NB180_179.out; obtain ⟨⟨_, _, _, _, _⟩, _, _, _, _, _⟩ := Op.cells5 BK179.out; obtain ⟨⟨_, _, _, _, _⟩, _, _, _, _, _⟩ := Op.cells5 BK180.out) | ((with_reducible refine gf_ 35 ?_); refine gc_ Tryz.func35 (laws_eqItemS.calls k _ _ l0_0 _ _ l1_0 true _ (sc_ HR0_0) HC0_0.out (sc_ HR1_0) HC1_0.out A3.out) ?_; rintro w16 hb; replace BK179 := bl_ BK179 hb; replace BK180 := bl_ BK180 hb; replace HB := am (below_step ba_ hb); (try clear hb); obtain ⟨⟨_, _, _, _, _⟩, _, _, _, _, _⟩ := Op.cells5 BK179.out; obtain ⟨⟨_, _, _, _, _⟩, _, _, _, _, _⟩ := Op.cells5 BK180.out) | ((with_reducible refine gf_ 36 ?_); refine gc_ Tryz.func36 (laws_eqIntS.calls k _ _ l0_1 _ _ l1_1 true _ (sc_ HR0_1) HC0_1.out (sc_ HR1_1) HC1_1.out A5.out) ?_; rintro w' ⟨nd, rfl⟩) | ((with_reducible refine gate_callee (f := 36) rfl ?_); refine goesL_ (some 21) rfl rfl Tryz.func36 (by kernel_rfl) rfl #[.slice A0_2 l0_2.length c0_2, .slice A1_2 l1_2.length c1_2] rfl ab5 ?_; (with_reducible refine (laws_eqIntS.calls k _ _ l0_2 _ _ l1_2 true _ ?side1 HC0_2.out ?side3 HC1_2.out A7.out).mono ?_); (case side1 => exact (z3_0 HR0_2)); (case side3 => exact (z3_0 HR1_2)); rintro e w' ⟨rfl, ⟨nd, rfl⟩⟩; refine ⟨_, rfl, ?_⟩))
      go_ret
      exact ⟨ab7, ba_⟩
     ·obtain rfl := Option.some.inj H
      go_enter Tryz.func12, Tryz.ntmps12
      go_wp2_with (first | ((with_reducible refine gd_ 2 ?_); refine bx_ 2 (cs := #[.slice A0_0 l0_0.length c0_0, .slice A0_1 l0_1.length c0_1, .slice A0_2 l0_2.length c0_2, .int .i64 a0_3, .int .i64 a0_4]) 31 ?_; intro gb179 hg w19 hbox hb; have BK179 := am hbox; have GW179 := ge_ (w := w) hg; have GE179 := ge_ (w := w) hg; replace HB := am (below_step ab1 hb); clear hb hbox hg) | ((with_reducible refine gd_ 3 ?_); refine bx_ 3 (cs := #[.slice A1_0 l1_0.length c1_0, .slice A1_1 l1_1.length c1_1, .slice A1_2 l1_2.length c1_2, .int .i64 a1_3, .int .i64 a1_4]) 31 ?_; intro gb180 hg w20 hbox hb; have BK180 := am hbox; have GW180 := gE_ (w := w) GE179 hg; have GE180 := gE_ (w := w) GE179 hg; replace HB := am (below_step (ab2 GE179) hb); have NB179_180 := nl_ BK179 hg; have NB180_179 := ng_ BK179 hg; replace BK179 := bl_ BK179 hb; clear hb hbox hg; have hnb21 := NB179_180.out; have hnc21 := NB180_179.out; obtain ⟨⟨_, _, _, _, _⟩, _, _, _, _, _⟩ := Op.cells5 BK179.out; obtain ⟨⟨_, _, _, _, _⟩, _, _, _, _, _⟩ := Op.cells5 BK180.out) | ((with_reducible refine gf_ 35 ?_); refine gc_ Tryz.func35 (laws_eqItemS.calls k _ _ l0_0 _ _ l1_0 true _ (sc_ HR0_0) HC0_0.out (sc_ HR1_0) HC1_0.out A3.out) ?_; rintro w24 hb; replace BK179 := bl_ BK179 hb; replace BK180 := bl_ BK180 hb; replace HB := am (below_step ba_ hb); (try clear hb); obtain ⟨⟨_, _, _, _, _⟩, _, _, _, _, _⟩ := Op.cells5 BK179.out; obtain ⟨⟨_, _, _, _, _⟩, _, _, _, _, _⟩ := Op.cells5 BK180.out) | ((with_reducible refine gf_ 36 ?_); refine gc_ Tryz.func36 (laws_eqIntS.calls k _ _ l0_1 _ _ l1_1 true _ (sc_ HR0_1) HC0_1.out (sc_ HR1_1) HC1_1.out A5.out) ?_; rintro w' ⟨nd, rfl⟩) | ((with_reducible refine gate_callee (f := 36) rfl ?_); refine goesL_ (some 21) rfl rfl Tryz.func36 (by kernel_rfl) rfl #[.slice A0_2 l0_2.length c0_2, .slice A1_2 l1_2.length c1_2] rfl ab5 ?_; (with_reducible refine (laws_eqIntS.calls k _ _ l0_2 _ _ l1_2 true _ ?side1 HC0_2.out ?side3 HC1_2.out A7.out).mono ?_); (case side1 => exact (z3_0 HR0_2)); (case side3 => exact (z3_0 HR1_2)); rintro e w' ⟨rfl, ⟨nd, rfl⟩⟩; refine ⟨_, rfl, ?_⟩))
      go_ret
      exact ⟨ab7, ba_⟩
    ·obtain rfl := Option.some.inj H
     go_enter Tryz.func12, Tryz.ntmps12
     go_wp2_with (first | ((with_reducible refine gd_ 2 ?_); refine bx_ 2 (cs := #[.slice A0_0 l0_0.length c0_0, .slice A0_1 l0_1.length c0_1, .slice A0_2 l0_2.length c0_2, .int .i64 a0_3, .int .i64 a0_4]) 31 ?_; intro gb179 hg w27 hbox hb; have BK179 := am hbox; have GW179 := ge_ (w := w) hg; have GE179 := ge_ (w := w) hg; replace HB := am (below_step ab1 hb); clear hb hbox hg) | ((with_reducible refine gd_ 3 ?_); refine bx_ 3 (cs := #[.slice A1_0 l1_0.length c1_0, .slice A1_1 l1_1.length c1_1, .slice A1_2 l1_2.length c1_2, .int .i64 a1_3, .int .i64 a1_4]) 31 ?_; intro gb180 hg w28 hbox hb; have BK180 := am hbox; have GW180 := gE_ (w := w) GE179 hg; have GE180 := gE_ (w := w) GE179 hg; replace HB := am (below_step (ab2 GE179) hb); have NB179_180 := nl_ BK179 hg; have NB180_179 := ng_ BK179 hg; replace BK179 := bl_ BK179 hb; clear hb hbox hg; have hnb29 := NB179_180.out; have hnc29 := NB180_179.out; obtain ⟨⟨_, _, _, _, _⟩, _, _, _, _, _⟩ := Op.cells5 BK179.out; obtain ⟨⟨_, _, _, _, _⟩, _, _, _, _, _⟩ := Op.cells5 BK180.out) | ((with_reducible refine gf_ 35 ?_); refine gc_ Tryz.func35 (laws_eqItemS.calls k _ _ l0_0 _ _ l1_0 true _ (sc_ HR0_0) HC0_0.out (sc_ HR1_0) HC1_0.out A3.out) ?_; rintro w32 hb; replace BK179 := bl_ BK179 hb; replace BK180 := bl_ BK180 hb; replace HB := am (below_step ba_ hb); (try clear hb); obtain ⟨⟨_, _, _, _, _⟩, _, _, _, _, _⟩ := Op.cells5 BK179.out; obtain ⟨⟨_, _, _, _, _⟩, _, _, _, _, _⟩ := Op.cells5 BK180.out) | ((with_reducible refine gf_ 36 ?_); refine gc_ Tryz.func36 (laws_eqIntS.calls k _ _ l0_1 _ _ l1_1 true _ (sc_ HR0_1) HC0_1.out (sc_ HR1_1) HC1_1.out A5.out) ?_; rintro w' ⟨nd, rfl⟩) | ((with_reducible refine gate_callee (f := 36) rfl ?_); refine goesL_ (some 21) rfl rfl Tryz.func36 (by kernel_rfl) rfl #[.slice A0_2 l0_2.length c0_2, .slice A1_2 l1_2.length c1_2] rfl ab5 ?_; (with_reducible refine (laws_eqIntS.calls k _ _ l0_2 _ _ l1_2 true _ ?side1 HC0_2.out ?side3 HC1_2.out A7.out).mono ?_); (case side1 => exact (z3_0 HR0_2)); (case side3 => exact (z3_0 HR1_2)); rintro e w' ⟨rfl, ⟨nd, rfl⟩⟩; refine ⟨_, rfl, ?_⟩))
     go_ret
     exact ⟨ab7, ba_⟩
   ·obtain rfl := Option.some.inj H
    go_enter Tryz.func12, Tryz.ntmps12
    go_wp2_with (first | ((with_reducible refine gd_ 2 ?_); refine bx_ 2 (cs := #[.slice A0_0 l0_0.length c0_0, .slice A0_1 l0_1.length c0_1, .slice A0_2 l0_2.length c0_2, .int .i64 a0_3, .int .i64 a0_4]) 31 ?_; intro gb179 hg w35 hbox hb; have BK179 := am hbox; have GW179 := ge_ (w := w) hg; have GE179 := ge_ (w := w) hg; replace HB := am (below_step ab1 hb); clear hb hbox hg) | ((with_reducible refine gd_ 3 ?_); refine bx_ 3 (cs := #[.slice A1_0 l1_0.length c1_0, .slice A1_1 l1_1.length c1_1, .slice A1_2 l1_2.length c1_2, .int .i64 a1_3, .int .i64 a1_4]) 31 ?_; intro gb180 hg w36 hbox hb; have BK180 := am hbox; have GW180 := gE_ (w := w) GE179 hg; have GE180 := gE_ (w := w) GE179 hg; replace HB := am (below_step (ab2 GE179) hb); have NB179_180 := nl_ BK179 hg; have NB180_179 := ng_ BK179 hg; replace BK179 := bl_ BK179 hb; clear hb hbox hg; have hnb37 := NB179_180.out; have hnc37 := NB180_179.out; obtain ⟨⟨_, _, _, _, _⟩, _, _, _, _, _⟩ := Op.cells5 BK179.out; obtain ⟨⟨_, _, _, _, _⟩, _, _, _, _, _⟩ := Op.cells5 BK180.out) | ((with_reducible refine gf_ 35 ?_); refine gc_ Tryz.func35 (laws_eqItemS.calls k _ _ l0_0 _ _ l1_0 true _ (sc_ HR0_0) HC0_0.out (sc_ HR1_0) HC1_0.out A3.out) ?_; rintro w40 hb; replace BK179 := bl_ BK179 hb; replace BK180 := bl_ BK180 hb; replace HB := am (below_step ba_ hb); (try clear hb); obtain ⟨⟨_, _, _, _, _⟩, _, _, _, _, _⟩ := Op.cells5 BK179.out; obtain ⟨⟨_, _, _, _, _⟩, _, _, _, _, _⟩ := Op.cells5 BK180.out) | ((with_reducible refine gf_ 36 ?_); refine gc_ Tryz.func36 (laws_eqIntS.calls k _ _ l0_1 _ _ l1_1 true _ (sc_ HR0_1) HC0_1.out (sc_ HR1_1) HC1_1.out A5.out) ?_; rintro w' ⟨nd, rfl⟩) | ((with_reducible refine gate_callee (f := 36) rfl ?_); refine goesL_ (some 21) rfl rfl Tryz.func36 (by kernel_rfl) rfl #[.slice A0_2 l0_2.length c0_2, .slice A1_2 l1_2.length c1_2] rfl ab5 ?_; (with_reducible refine (laws_eqIntS.calls k _ _ l0_2 _ _ l1_2 false _ ?side1 HC0_2.out ?side3 HC1_2.out A7.out).mono ?_); (case side1 => exact (z3_0 HR0_2)); (case side3 => exact (z3_0 HR1_2)); rintro e w' ⟨rfl, ⟨nd, rfl⟩⟩; refine ⟨_, rfl, ?_⟩))
    go_ret
    exact ⟨ab7, ba_⟩
  ·obtain rfl := Option.some.inj H
   go_enter Tryz.func12, Tryz.ntmps12
   go_wp2_with (first | ((with_reducible refine gd_ 2 ?_); refine bx_ 2 (cs := #[.slice A0_0 l0_0.length c0_0, .slice A0_1 l0_1.length c0_1, .slice A0_2 l0_2.length c0_2, .int .i64 a0_3, .int .i64 a0_4]) 31 ?_; intro gb179 hg w43 hbox hb; have BK179 := am hbox; have GW179 := ge_ (w := w) hg; have GE179 := ge_ (w := w) hg; replace HB := am (below_step ab1 hb); clear hb hbox hg) | ((with_reducible refine gd_ 3 ?_); refine bx_ 3 (cs := #[.slice A1_0 l1_0.length c1_0, .slice A1_1 l1_1.length c1_1, .slice A1_2 l1_2.length c1_2, .int .i64 a1_3, .int .i64 a1_4]) 31 ?_; intro gb180 hg w44 hbox hb; have BK180 := am hbox; have GW180 := gE_ (w := w) GE179 hg; have GE180 := gE_ (w := w) GE179 hg; replace HB := am (below_step (ab2 GE179) hb); have NB179_180 := nl_ BK179 hg; have NB180_179 := ng_ BK179 hg; replace BK179 := bl_ BK179 hb; clear hb hbox hg; have hnb45 := NB179_180.out; have hnc45 := NB180_179.out; obtain ⟨⟨_, _, _, _, _⟩, _, _, _, _, _⟩ := Op.cells5 BK179.out; obtain ⟨⟨_, _, _, _, _⟩, _, _, _, _, _⟩ := Op.cells5 BK180.out) | ((with_reducible refine gf_ 35 ?_); refine gc_ Tryz.func35 (laws_eqItemS.calls k _ _ l0_0 _ _ l1_0 true _ (sc_ HR0_0) HC0_0.out (sc_ HR1_0) HC1_0.out A3.out) ?_; rintro w48 hb; replace BK179 := bl_ BK179 hb; replace BK180 := bl_ BK180 hb; replace HB := am (below_step ba_ hb); (try clear hb); obtain ⟨⟨_, _, _, _, _⟩, _, _, _, _, _⟩ := Op.cells5 BK179.out; obtain ⟨⟨_, _, _, _, _⟩, _, _, _, _, _⟩ := Op.cells5 BK180.out) | ((with_reducible refine gf_ 36 ?_); refine gc_ Tryz.func36 (laws_eqIntS.calls k _ _ l0_1 _ _ l1_1 false _ (sc_ HR0_1) HC0_1.out (sc_ HR1_1) HC1_1.out A5.out) ?_; rintro w' ⟨nd, rfl⟩))
   go_ret
   exact ⟨ab7, ba_⟩
 ·obtain rfl := Option.some.inj H
  go_enter Tryz.func12, Tryz.ntmps12
  go_wp2_with (first | ((with_reducible refine gd_ 2 ?_); refine bx_ 2 (cs := #[.slice A0_0 l0_0.length c0_0, .slice A0_1 l0_1.length c0_1, .slice A0_2 l0_2.length c0_2, .int .i64 a0_3, .int .i64 a0_4]) 31 ?_; intro gb179 hg w51 hbox hb; have BK179 := am hbox; have GW179 := ge_ (w := w) hg; have GE179 := ge_ (w := w) hg; replace HB := am (below_step ab1 hb); clear hb hbox hg) | ((with_reducible refine gd_ 3 ?_); refine bx_ 3 (cs := #[.slice A1_0 l1_0.length c1_0, .slice A1_1 l1_1.length c1_1, .slice A1_2 l1_2.length c1_2, .int .i64 a1_3, .int .i64 a1_4]) 31 ?_; intro gb180 hg w52 hbox hb; have BK180 := am hbox; have GW180 := gE_ (w := w) GE179 hg; have GE180 := gE_ (w := w) GE179 hg; replace HB := am (below_step (ab2 GE179) hb); have NB179_180 := nl_ BK179 hg; have NB180_179 := ng_ BK179 hg; replace BK179 := bl_ BK179 hb; clear hb hbox hg; have hnb53 := NB179_180.out; have hnc53 := NB180_179.out; obtain ⟨⟨_, _, _, _, _⟩, _, _, _, _, _⟩ := Op.cells5 BK179.out; obtain ⟨⟨_, _, _, _, _⟩, _, _, _, _, _⟩ := Op.cells5 BK180.out) | ((with_reducible refine gf_ 35 ?_); refine gc_ Tryz.func35 (laws_eqItemS.calls k _ _ l0_0 _ _ l1_0 false _ (sc_ HR0_0) HC0_0.out (sc_ HR1_0) HC1_0.out A3.out) ?_; rintro w56 hb; replace BK179 := bl_ BK179 hb; replace BK180 := bl_ BK180 hb; replace HB := am (below_step ba_ hb); (try clear hb)))
  go_ret
  exact ⟨ab7, ba_⟩
def laws_markText.l0 : Nat → Int → ByteArray → Option (ByteArray)
 | 0, _, _ => none
 | k + 1, x0, x3 => if x0 > 0 then ((some (([(wrap64 (48 + (Int.tmod x0 10))) % 256] : List Int) : List Int)).bind fun y184 => (if (strOfNums y184).size + x3.size ≤ 9223372036854775807 then (laws_markText.l0 k (wrap64 (Int.tdiv x0 10)) ((strOfNums y184) ++ x3)) else (none))) else (if 1 + x3.size ≤ 9223372036854775807 then (some ((⟨#[109]⟩ : ByteArray) ++ x3)) else (none))
def laws_markText.f (k : Nat) (a0 : Int) : Option (ByteArray) := if a0 ≤ 0 then (some (⟨#[109, 48]⟩ : ByteArray)) else (laws_markText.l0 k a0 (⟨#[]⟩ : ByteArray))
theorem laws_markText.calls (k : Nat) (a0 : Int) (r : ByteArray) (w : World) (h : laws_markText.f k a0 = some r) :
  Calls Tryz.prog 40 #[.int .i64 a0] w fun e w' => e = .returned (.string r) ∧ Below w.heap.size w w' := by
 have HB := am (Below.refl w.heap.size w)
 have H : (if a0 ≤ 0 then (some (⟨#[109, 48]⟩ : ByteArray)) else (laws_markText.l0 k a0 (⟨#[]⟩ : ByteArray))) = some r := h
 clear h
 replace H := ir_ H; rcases H with ⟨c2b0, H⟩ | ⟨c2b0, H⟩
 ·obtain rfl := Option.some.inj H
  go_enter Tryz.func40, Tryz.ntmps40
  go_wp2
  go_ret
  exact ⟨ab7, ab1⟩
 ·have H' := am H
  clear H
  go_enter Tryz.func40, Tryz.ntmps40
  go_wp2
  go_loopg [0, 3] k (fun kq v0 v3 w' => ∃ (x0_1 : Int) (x3_1 : ByteArray), v0 = .int .i64 x0_1 ∧ v3 = .string x3_1 ∧ Aside0 (laws_markText.l0 kq x0_1 x3_1 = some r) ∧ Aside0 (kq ≤ k) ∧ Aside0 (Below w.heap.size w w'))
  case atStart => exact ⟨(a0), ((⟨#[]⟩ : ByteArray)), ab6, ab6, H', ⟨Nat.le_refl _⟩, ⟨ab1⟩⟩
  case round =>
   clear H'
   (try clear c2); (try clear c2b0); (try clear p2)
   obtain ⟨x0_1, x3_1, rfl, rfl, HA, HK1, HB⟩ := hrel
   cases gk with
   | zero => exact absurd HA.out (by simp [laws_markText.l0])
   | succ k1 =>
    have H := HA.out
    clear HA
    simp only [laws_markText.l0] at H
    by_cases c3 : x0_1 > 0
    ·rw [if_pos c3] at H
     have c3b0 : decide (0 < x0_1) = true := decide_eq_true c3
     clear c3
     obtain ⟨y184, hy184⟩ : ∃ y_ : List Int, y_ = (([(wrap64 (48 + (Int.tmod x0_1 10))) % 256] : List Int)) := ⟨_, rfl⟩
     replace H : (if (strOfNums y184).size + x3_1.size ≤ 9223372036854775807 then (laws_markText.l0 k1 (wrap64 (Int.tdiv x0_1 10)) ((strOfNums y184) ++ x3_1)) else (none)) = some r := by first | (rw [hy184]; with_reducible exact H) | (have H2_ := (Option.bind_some _ _).symm.trans H; rw [hy184]; with_reducible exact H2_) | (have H2_ := (Option.bind_some _ _).symm.trans H; with_reducible exact H2_) | with_reducible exact H | (rw [hy184]; exact H) | exact H
     have Ny184 := am hy184
     clear hy184
     by_cases c4 : (strOfNums y184).size + x3_1.size ≤ 9223372036854775807
     case neg => rw [if_neg c4] at H; exact absurd H (by simp)
     rw [if_pos c4] at H
     have c4b0 := eq_true c4
     have c4b1 := decide_eq_true c4
     try have c4b2 : (9223372036854775807 < (strOfNums y184).size + x3_1.size) = False := eq_false (Nat.not_lt.2 c4)
     have H' := am H
     clear H
     go_wp2_with (first | ((with_reducible refine gate_dst (N := 12) rfl ?_); refine Kd.R_lit (Kd.int .u8) _ 5 ?hg (N := 12) ?hd (xs := ([(wrap64 (48 + (Int.tmod x0_1 10))) % 256] : List Int)) (inner := [.int .u8 ((wrap64 (48 + (Int.tmod x0_1 10))) % 256)]) (ok := fun _ => True) (okp := fun _ => True) ?hr ?hp (fun _ hk => hk) trivial (Below.refl _ _) (Nat.le_refl _) (by simp) ?_; (case hd => rfl); (case hg => rfl); (case hr => first | (go_simp; done) | (go_simp; rfl)); (case hp => exact (Reps.one (show Kd.M (Kd.int .u8) _ _ _ ((wrap64 (48 + (Int.tmod x0_1 10))) % 256) [.int .u8 ((wrap64 (48 + (Int.tmod x0_1 10))) % 256)] from rfl) (Reps.none _ _))); intro v185 w5 ho6 hb hg_ hnew_; clear hg_ hnew_; (first | rw [← Ny184.out] at ho6 | (simp only [Int.reduceToNat] at ho6; rw [← Ny184.out] at ho6)); have HO186 := am (Kd.R_lower ho6 (below_size ab1)); replace HB := am (below_step ab1 hb); clear hb ho6; have hcv7 := own_string (P := Tryz.prog) Tryz.underlying82 Tryz.underlying5 Tryz.underlying9 (Kd.own_of_R HO186.out)))
     go_roundg k1
     case measure => have := HK1.out; omega
     case rel => exact ⟨(wrap64 (Int.tdiv x0_1 10)), ((strOfNums y184) ++ x3_1), ab6, ab6, H', ⟨by have := HK1.out; omega⟩, ⟨ab1⟩⟩
    ·rw [if_neg c3] at H
     have c3b0 : decide (0 < x0_1) = false := decide_eq_false c3
     clear c3
     by_cases c8 : 1 + x3_1.size ≤ 9223372036854775807
     case neg => rw [if_neg c8] at H; exact absurd H (by simp)
     rw [if_pos c8] at H
     have c8b0 := eq_true c8
     have c8b1 := decide_eq_true c8
     try have c8b2 : (9223372036854775807 < 1 + x3_1.size) = False := eq_false (Nat.not_lt.2 c8)
     obtain rfl := Option.some.inj H
     go_wp2
     go_ret
     exact ⟨ab7, ab1⟩
theorem z4_0 {p : Prop} (h : p := by repeat (first | (with_reducible first | exact HK.out | apply Kept.alloc | apply Kept.drewN | apply Kept.drew) | exact HK.out)) : p := h
def laws_markAttrS.l0 : Nat → List (S56) → Int → Int → Option (Int × (List (S56)))
 | 0, _, _, _ => none
 | k + 1, x0, x1, x5 => if x5 < (x0.length : Int) then ((laws_markText.f k x1).bind fun t187 => (if 0 ≤ x5 then ((some (x0.set (x5 : Int).toNat (⟨t187, (rd_T56 x0 x5).f1⟩ : S56) : List (S56))).bind fun y188 => ((laws_markText.f k (wrap64 (x1 + 1))).bind fun t189 => (laws_markAttrS.l0 k (y188.set (x5 : Int).toNat (⟨(rd_T56 y188 x5).f0, t189⟩ : S56)) (wrap64 ((wrap64 (x1 + 1)) + 1)) (wrap64 (x5 + 1))))) else (none))) else (some (x1, x0))
def laws_markAttrS.f (k : Nat) (l0 : List (S56)) (a1 : Int) : Option (Int × (List (S56))) := laws_markAttrS.l0 k l0 a1 0
theorem laws_markAttrS.calls (k : Nat) (P0_ : Nat → Prop) (u9000_ : Value) (l0 : List (S56)) (a1 : Int) (r1 : Int) (r2 : List (S56)) (w0 w : World) (hB : Below w0.heap.size w0 w) (ho0 : Kd.R k56 56 w w0.heap.size P0_ u9000_ l0) (h : laws_markAttrS.f k l0 a1 = some (r1, r2)) :
  Calls Tryz.prog 15 #[u9000_, .int .i64 a1] w fun e w' => e = .returned (.int .i64 r1) ∧ Kd.R k56 56 w' w0.heap.size (fun k_ => (P0_ k_ ∨ w.heap.size ≤ k_)) u9000_ r2 ∧ Below w0.heap.size w0 w' ∧ Kept w w' (fun k_ => P0_ k_) := by
 have HO0 := am (show Kd.R k56 56 w w0.heap.size (fun k_ => (P0_ k_ ∨ w.heap.size ≤ k_)) u9000_ l0 from Kd.R_mono ho0 (fun k_ hk => (.inl hk)))
 have HK := am (Kept.refl w (fun k_ => P0_ k_))
 have HW0 := am hB.size
 have HB := am hB
 clear hB
 have H : (laws_markAttrS.l0 k l0 a1 0) = some (r1, r2) := h
 clear h
 have H' := am H
 clear H
 go_enter Tryz.func15, Tryz.ntmps15
 go_wp2
 go_loopg [1, 5] k (fun kq v1 v5 w' => ∃ (x0_1 : List (S56)) (x1_1 : Int) (x5_1 : Int), v1 = .int .i64 x1_1 ∧ v5 = .int .i64 x5_1 ∧ Aside0 (laws_markAttrS.l0 kq x0_1 x1_1 x5_1 = some (r1, r2)) ∧ Aside0 (kq ≤ k) ∧ Aside0 (Kd.R k56 56 w' w0.heap.size (fun k_ => (P0_ k_ ∨ w.heap.size ≤ k_)) u9000_ x0_1) ∧ Aside0 (Kept w w' (fun k_ => P0_ k_)) ∧ Aside0 (Below w0.heap.size w0 w'))
 case atStart => exact ⟨(l0), (a1), (0), ab6, ab6, H', ⟨Nat.le_refl _⟩, ⟨ab8 HO0⟩, ⟨z4_0⟩, ⟨ab1⟩⟩
 case round =>
  clear H'
  (try clear c1); (try clear p2)
  obtain ⟨x0_1, x1_1, x5_1, rfl, rfl, HA, HK1, HO_0, HK, HB⟩ := hrel
  cases gk with
  | zero => exact absurd HA.out (by simp [laws_markAttrS.l0])
  | succ k1 =>
   have H := HA.out
   clear HA
   simp only [laws_markAttrS.l0] at H
   replace H := ir_ H; rcases H with ⟨c3b0, H⟩ | ⟨c3b0, H⟩
   ·replace H := bi_ H; obtain ⟨t187, A4, H⟩ := H
    replace H := iq_ H; obtain ⟨c5b0, H⟩ := H
    obtain ⟨y188, hy188⟩ : ∃ y_ : List (S56), y_ = (x0_1.set (x5_1 : Int).toNat (⟨t187, (rd_T56 x0_1 x5_1).f1⟩ : S56)) := ⟨_, rfl⟩
    replace H : ((laws_markText.f k1 (wrap64 (x1_1 + 1))).bind fun t189 => (laws_markAttrS.l0 k1 (y188.set (x5_1 : Int).toNat (⟨(rd_T56 y188 x5_1).f0, t189⟩ : S56)) (wrap64 ((wrap64 (x1_1 + 1)) + 1)) (wrap64 (x5_1 + 1)))) = some (r1, r2) := by first | (rw [hy188]; with_reducible exact H) | (have H2_ := (Option.bind_some _ _).symm.trans H; rw [hy188]; with_reducible exact H2_) | (have H2_ := (Option.bind_some _ _).symm.trans H; with_reducible exact H2_) | with_reducible exact H | (rw [hy188]; exact H) | exact H
    have Ny188 := am hy188
    clear hy188
    replace H := bi_ H; obtain ⟨t189, A7, H⟩ := H
    obtain ⟨y190, hy190⟩ : ∃ y_ : List (S56), y_ = (y188.set (x5_1 : Int).toNat (⟨(rd_T56 y188 x5_1).f0, t189⟩ : S56)) := ⟨_, rfl⟩
    replace H : (laws_markAttrS.l0 k1 y190 (wrap64 ((wrap64 (x1_1 + 1)) + 1)) (wrap64 (x5_1 + 1))) = some (r1, r2) := by first | (rw [hy190]; with_reducible exact H) | (have H2_ := (Option.bind_some _ _).symm.trans H; rw [hy190]; with_reducible exact H2_) | (have H2_ := (Option.bind_some _ _).symm.trans H; with_reducible exact H2_) | with_reducible exact H | (rw [hy190]; exact H) | exact H
    have Ny190 := am hy190
    clear hy190
    have H' := am H
    clear H
    obtain ⟨Ao9, co9, eo9⟩ := Kd.R_slice HO_0.out
    subst eo9
    go_wp2_with (first | ((with_reducible refine gf_ 40 ?_); refine gc_ Tryz.func40 (laws_markText.calls k1 x1_1 t187 _ A4.out) ?_; rintro w10 hb; replace HO_0 := am (Kd.R_below (ab8 HO_0) hb); replace HK := am (Kept.below (S := (fun k_ => P0_ k_)) (z4_0) hb); replace HB := am (below_step ab1 hb); (try clear hb); have p6 : 0 ≤ (x5_1 : Int) := of_decide_eq_true ab4; have q6 : (x5_1 : Int) < ((x0_1.length : Int) : Int) := of_decide_eq_true ab4; obtain ⟨go6, co6, eo6, gb6, gl6, cl6, HG6⟩ := Kd.R_form HO_0.out (by omega); (first | cases eo6 | (injection eo6 with ea_ en_ ec_; (first | subst ea_ | (injection ea_ with ea_; subst ea_)); subst ec_; clear en_)); have GB6 := am gb6; have GG6 := am HG6; clear gb6 gl6 HG6; have HMgo6 := am (show (P0_ go6 ∨ w.heap.size ≤ go6) from (HO_0.out.1 _ rfl)); obtain ⟨ce6, hcl6, hM6, hcc6, hfr6⟩ := Kd.R_elem HO_0.out z56 (x5_1 : Int) p6 q6; obtain rfl := k56_openM hM6; have hx6_0 : w10.cell? ⟨go6, (x5_1 : Int).toNat * 2, none⟩ = some (.string ((rd_T56 x0_1 x5_1).f0)) := hcc6 0 _ rfl; have hx6_1 : w10.cell? ⟨go6, (x5_1 : Int).toNat * 2 + 1, none⟩ = some (.string ((rd_T56 x0_1 x5_1).f1)) := hcc6 1 _ rfl; have hf6_0 : w10.frozen? ⟨go6, (x5_1 : Int).toNat * 2, none⟩ = false := hfr6 0; have hf6_1 : w10.frozen? ⟨go6, (x5_1 : Int).toNat * 2 + 1, none⟩ = false := hfr6 1; clear hcl6 hcc6 hfr6 hM6; replace p6 := eq_true p6; replace q6 := eq_true q6; have HX11 := am (show Kd.R k56 56 w10 w0.heap.size (fun k_ => (P0_ k_ ∨ w.heap.size ≤ k_)) (.slice (some ⟨go6, 0, none⟩) x0_1.length co9) x0_1 from (ab8 HO_0)); obtain ⟨ce11, hcl11, hM11, hcc11, hfr11⟩ := Kd.R_elem HX11.out z56 (x5_1 : Int) (of_decide_eq_true ab4) (by have h_ : (x5_1 : Int) < ((x0_1.length : Int) : Int) := of_decide_eq_true ab4; first | exact h_ | (have e_ := (Kd.R_reads' HO_0.out).1; omega) | simpa using h_); obtain rfl := k56_openM hM11; have HP11 := Kd.R_seg HX11.out (x5_1 : Int) (of_decide_eq_true ab4) (by have h_ : (x5_1 : Int) < ((x0_1.length : Int) : Int) := of_decide_eq_true ab4; first | exact h_ | (have e_ := (Kd.R_reads' HO_0.out).1; omega) | simpa using h_) (seg := [.string t187]) (j := 0) hcl11 hcc11 (show 1 ≤ 2 from by decide) (x' := (⟨t187, (rd_T56 x0_1 x5_1).f1⟩ : S56)) (k56_mkM _ _ _ (⟨t187, (rd_T56 x0_1 x5_1).f1⟩ : S56) ) (fun _ hk => hk); have hx11_0 := hcc11 0 _ rfl; (try simp only [show (k56).sz = 2 from rfl, Nat.mul_one, Nat.add_zero] at hx11_0); have hf11_0 := hfr11 0; (try simp only [show (k56).sz = 2 from rfl, Nat.mul_one, Nat.add_zero] at hf11_0); clear hcl11 hcc11 hfr11 hM11) | ((with_reducible refine gate_store (t := 9) (p := 17) rfl ?_); refine store_event (t := 9) (p := 17) (v := ?vo_w12) (w1 := (w10.setCell ⟨go6, (x5_1 : Int).toNat * 2, none⟩ (.string t187))) ?hg ?ho ?hn ?hr ?_; (case ho => rfl); (case hg => rfl); (case hn => rfl); (case hr => first | (go_simp; done) | (go_simp; rfl)); intro w12 hw; have hg : w10.grownBy w12 (some go6) := (by rw [hw]; exact HP11.2); have hp_ : Kd.R k56 56 w12 w0.heap.size (fun k_ => (P0_ k_ ∨ w.heap.size ≤ k_)) (.slice (some ⟨go6, 0, none⟩) x0_1.length co9) y188 := (by rw [hw, Ny188.out]; exact HP11.1); clear HP11; replace HB := am ((by rw [hw]; exact below_set (HB.out) GB6.out : Below w0.heap.size w0 w12)); replace HK := am (Kept.of_grown (S := (fun k_ => P0_ k_)) hg (z4_0) (fun k_ e_ => (HO_0.out.1 k_ e_))); replace HO_0 := am hp_; clear hg hw hp_) | ((with_reducible refine gf_ 40 ?_); refine gc_ Tryz.func40 (laws_markText.calls k1 (wrap64 (x1_1 + 1)) t189 _ A7.out) ?_; rintro w13 hb; replace HO_0 := am (Kd.R_below (ab8 HO_0) hb); replace HK := am (Kept.below (S := (fun k_ => P0_ k_)) (z4_0) hb); replace HB := am (below_step ab1 hb); (try clear hb); have p8 : 0 ≤ (x5_1 : Int) := of_decide_eq_true ab4; have q8 : (x5_1 : Int) < ((x0_1.length : Int) : Int) := of_decide_eq_true ab4; obtain ⟨ce8, hcl8, hM8, hcc8, hfr8⟩ := Kd.R_elem HO_0.out z56 (x5_1 : Int) p8 q8; obtain rfl := k56_openM hM8; have hx8_0 : w13.cell? ⟨go6, (x5_1 : Int).toNat * 2, none⟩ = some (.string ((rd_T56 y188 x5_1).f0)) := hcc8 0 _ rfl; have hx8_1 : w13.cell? ⟨go6, (x5_1 : Int).toNat * 2 + 1, none⟩ = some (.string ((rd_T56 y188 x5_1).f1)) := hcc8 1 _ rfl; have hf8_0 : w13.frozen? ⟨go6, (x5_1 : Int).toNat * 2, none⟩ = false := hfr8 0; have hf8_1 : w13.frozen? ⟨go6, (x5_1 : Int).toNat * 2 + 1, none⟩ = false := hfr8 1; clear hcl8 hcc8 hfr8 hM8; replace p8 := eq_true p8; replace q8 := eq_true q8; have HX14 := am (show Kd.R k56 56 w13 w0.heap.size (fun k_ => (P0_ k_ ∨ w.heap.size ≤ k_)) (.slice (some ⟨go6, 0, none⟩) x0_1.length co9) y188 from (ab8 HO_0)); obtain ⟨ce14, hcl14, hM14, hcc14, hfr14⟩ := Kd.R_elem HX14.out z56 (x5_1 : Int) (of_decide_eq_true ab4) (by have h_ : (x5_1 : Int) < ((x0_1.length : Int) : Int) := of_decide_eq_true ab4; first | exact h_ | (have e_ := (Kd.R_reads' HO_0.out).1; omega) | simpa using h_); obtain rfl := k56_openM hM14; have HP14 := Kd.R_seg HX14.out (x5_1 : Int) (of_decide_eq_true ab4) (by have h_ : (x5_1 : Int) < ((x0_1.length : Int) : Int) := of_decide_eq_true ab4; first | exact h_ | (have e_ := (Kd.R_reads' HO_0.out).1; omega) | simpa using h_) (seg := [.string t189]) (j := 1) hcl14 hcc14 (show 2 ≤ 2 from by decide) (x' := (⟨(rd_T56 y188 x5_1).f0, t189⟩ : S56)) (k56_mkM _ _ _ (⟨(rd_T56 y188 x5_1).f0, t189⟩ : S56) ) (fun _ hk => hk); have hx14_1 := hcc14 1 _ rfl; (try simp only [show (k56).sz = 2 from rfl, Nat.mul_one, Nat.add_zero] at hx14_1); have hf14_1 := hfr14 1; (try simp only [show (k56).sz = 2 from rfl, Nat.mul_one, Nat.add_zero] at hf14_1); clear hcl14 hcc14 hfr14 hM14) | ((with_reducible refine gate_store (t := 9) (p := 25) rfl ?_); refine store_event (t := 9) (p := 25) (v := ?vo_w15) (w1 := (w13.setCell ⟨go6, (x5_1 : Int).toNat * 2 + 1, none⟩ (.string t189))) ?hg ?ho ?hn ?hr ?_; (case ho => rfl); (case hg => rfl); (case hn => rfl); (case hr => first | (go_simp; done) | (go_simp; rfl)); intro w15 hw; have hg : w13.grownBy w15 (some go6) := (by rw [hw]; exact HP14.2); have hp_ : Kd.R k56 56 w15 w0.heap.size (fun k_ => (P0_ k_ ∨ w.heap.size ≤ k_)) (.slice (some ⟨go6, 0, none⟩) x0_1.length co9) y190 := (by rw [hw, Ny190.out]; exact HP14.1); clear HP14; replace HB := am ((by rw [hw]; exact below_set (HB.out) GB6.out : Below w0.heap.size w0 w15)); replace HK := am (Kept.of_grown (S := (fun k_ => P0_ k_)) hg (z4_0) (fun k_ e_ => (HO_0.out.1 k_ e_))); replace HO_0 := am hp_; clear hg hw hp_))
    go_roundg k1
    case measure => have := HK1.out; omega
    case rel => exact ⟨(y190), (wrap64 ((wrap64 (x1_1 + 1)) + 1)), (wrap64 (x5_1 + 1)), ab6, ab6, H', ⟨by have := HK1.out; omega⟩, ⟨ab8 HO_0⟩, ⟨z4_0⟩, ⟨ab1⟩⟩
   ·simp only [Option.some.injEq, Prod.mk.injEq] at H
    obtain ⟨rfl, rfl⟩ := H
    obtain ⟨Ao16, co16, eo16⟩ := Kd.R_slice HO_0.out
    subst eo16
    go_wp2
    go_ret
    exact ⟨ab7, ab8 HO_0, ab1, z4_0⟩
def laws_markIntS.l0 : Nat → List Int → Int → Int → Option (Int × List Int)
 | 0, _, _, _ => none
 | k + 1, x0, x1, x5 => if x5 < (x0.length : Int) then (if 0 ≤ x5 then (laws_markIntS.l0 k (x0.set (x5 : Int).toNat x1) (wrap64 (x1 + 1)) (wrap64 (x5 + 1))) else (none)) else (some (x1, x0))
def laws_markIntS.f (k : Nat) (l0 : List Int) (a1 : Int) : Option (Int × List Int) := laws_markIntS.l0 k l0 a1 0
theorem laws_markIntS.calls (k : Nat) (P0_ : Nat → Prop) (u9000_ : Value) (l0 : List Int) (a1 : Int) (r1 : Int) (r2 : List Int) (w0 w : World) (hB : Below w0.heap.size w0 w) (ho0 : Kd.R (Kd.int .i64) 3 w w0.heap.size P0_ u9000_ l0) (h : laws_markIntS.f k l0 a1 = some (r1, r2)) :
  Calls Tryz.prog 39 #[u9000_, .int .i64 a1] w fun e w' => e = .returned (.int .i64 r1) ∧ Kd.R (Kd.int .i64) 3 w' w0.heap.size (fun k_ => (P0_ k_ ∨ w.heap.size ≤ k_)) u9000_ r2 ∧ Below w0.heap.size w0 w' ∧ Kept w w' (fun k_ => P0_ k_) := by
 have HO0 := am (show Kd.R (Kd.int .i64) 3 w w0.heap.size (fun k_ => (P0_ k_ ∨ w.heap.size ≤ k_)) u9000_ l0 from Kd.R_mono ho0 (fun k_ hk => (.inl hk)))
 have HK := am (Kept.refl w (fun k_ => P0_ k_))
 have HW0 := am hB.size
 have HB := am hB
 clear hB
 have H : (laws_markIntS.l0 k l0 a1 0) = some (r1, r2) := h
 clear h
 have H' := am H
 clear H
 go_enter Tryz.func39, Tryz.ntmps39
 go_wp2
 go_loopg [1, 5] k (fun kq v1 v5 w' => ∃ (x0_1 : List Int) (x1_1 : Int) (x5_1 : Int), v1 = .int .i64 x1_1 ∧ v5 = .int .i64 x5_1 ∧ Aside0 (laws_markIntS.l0 kq x0_1 x1_1 x5_1 = some (r1, r2)) ∧ Aside0 (kq ≤ k) ∧ Aside0 (Kd.R (Kd.int .i64) 3 w' w0.heap.size (fun k_ => (P0_ k_ ∨ w.heap.size ≤ k_)) u9000_ x0_1) ∧ Aside0 (Kept w w' (fun k_ => P0_ k_)) ∧ Aside0 (Below w0.heap.size w0 w'))
 case atStart => exact ⟨(l0), (a1), (0), ab6, ab6, H', ⟨Nat.le_refl _⟩, ⟨ab8 HO0⟩, ⟨z4_0⟩, ⟨ab1⟩⟩
 case round =>
  clear H'
  try clear p2
  obtain ⟨x0_1, x1_1, x5_1, rfl, rfl, HA, HK1, HO_0, HK, HB⟩ := hrel
  cases gk with
  | zero => exact absurd HA.out (by simp [laws_markIntS.l0])
  | succ k1 =>
   have H := HA.out
   clear HA
   simp only [laws_markIntS.l0] at H
   replace H := ir_ H; rcases H with ⟨c3b0, H⟩ | ⟨c3b0, H⟩
   ·replace H := iq_ H; obtain ⟨c4b0, H⟩ := H
    obtain ⟨y191, hy191⟩ : ∃ y_ : List Int, y_ = (x0_1.set (x5_1 : Int).toNat x1_1) := ⟨_, rfl⟩
    replace H : (laws_markIntS.l0 k1 y191 (wrap64 (x1_1 + 1)) (wrap64 (x5_1 + 1))) = some (r1, r2) := by first | (rw [hy191]; with_reducible exact H) | (have H2_ := (Option.bind_some _ _).symm.trans H; rw [hy191]; with_reducible exact H2_) | (have H2_ := (Option.bind_some _ _).symm.trans H; with_reducible exact H2_) | with_reducible exact H | (rw [hy191]; exact H) | exact H
    have Ny191 := am hy191
    clear hy191
    have H' := am H
    clear H
    obtain ⟨Ao6, co6, eo6⟩ := Kd.R_slice HO_0.out
    subst eo6
    have p5 : 0 ≤ (x5_1 : Int) := of_decide_eq_true ab4
    have q5 : (x5_1 : Int) < ((x0_1.length : Int) : Int) := of_decide_eq_true ab4
    obtain ⟨go5, co5, eo5, gb5, gl5, cl5, HG5⟩ := Kd.R_form HO_0.out (by omega)
    (first | cases eo5 | (injection eo5 with ea_ en_ ec_; (first | subst ea_ | (injection ea_ with ea_; subst ea_)); subst ec_; clear en_))
    have GB5 := am gb5
    have GG5 := am HG5
    clear gb5 gl5 HG5
    have HMgo5 := am (show (P0_ go5 ∨ w.heap.size ≤ go5) from (HO_0.out.1 _ rfl))
    obtain ⟨hx5_0, hf5_0⟩ := Kd.R_celln 0 HO_0.out (x5_1 : Int) p5 q5
    replace p5 := eq_true p5
    replace q5 := eq_true q5
    have HP7 := Kd.R_putg HO_0.out (x5_1 : Int) x1_1
    go_wp2_with (first | ((with_reducible refine gate_store (t := 3) (p := 15) rfl ?_); refine store_event (t := 3) (p := 15) (v := ?vo_w8) (w1 := (wr.setCell ⟨go5, (x5_1 : Int).toNat, none⟩ (.int .i64 x1_1))) ?hg ?ho ?hn ?hr ?_; (case ho => rfl); (case hg => rfl); (case hn => rfl); (case hr => first | (go_simp; done) | (go_simp; rfl)); intro w8 hw; have hg : wr.grownBy w8 (some go5) := (by rw [hw]; exact HP7.2); have hp_ : Kd.R (Kd.int .i64) 3 w8 w0.heap.size (fun k_ => (P0_ k_ ∨ w.heap.size ≤ k_)) (.slice (some ⟨go5, 0, none⟩) x0_1.length co6) y191 := (by rw [hw, Ny191.out]; exact HP7.1); clear HP7; replace HB := am ((by rw [hw]; exact below_set (HB.out) GB5.out : Below w0.heap.size w0 w8)); replace HK := am (Kept.of_grown (S := (fun k_ => P0_ k_)) hg (z4_0) (fun k_ e_ => (HO_0.out.1 k_ e_))); replace HO_0 := am hp_; clear hg hw hp_))
    go_roundg k1
    case measure => have := HK1.out; omega
    case rel => exact ⟨(y191), (wrap64 (x1_1 + 1)), (wrap64 (x5_1 + 1)), ab6, ab6, H', ⟨by have := HK1.out; omega⟩, ⟨ab8 HO_0⟩, ⟨z4_0⟩, ⟨ab1⟩⟩
   ·simp only [Option.some.injEq, Prod.mk.injEq] at H
    obtain ⟨rfl, rfl⟩ := H
    obtain ⟨Ao9, co9, eo9⟩ := Kd.R_slice HO_0.out
    subst eo9
    go_wp2
    go_ret
    exact ⟨ab7, ab8 HO_0, ab1, z4_0⟩
section
open Go.Proofs.YtekkalnafngfeaaGreatW.PrintMore
theorem typed_own {α : Type} {d : Kd α} {e base : Nat} {ok : Nat → Prop} {w : World} {v : Value} {xs : List α} (hE : d.E = []) (h : d.R e w base ok v xs) (k : Nat) (hk : v.ownBlock = some k) : ∃ cells, w.heap[k]? = some (.cells cells e (0, 0)) := by
 obtain ⟨_, _, _, q, hq, cells, hc⟩ := (Kd.R_bound h).1 k hk
 rw [hE, List.mem_singleton] at hq
 subst hq
 exact ⟨cells, hc⟩
/-- A row of elements of one type is as it was behind a call that wrote another one's own block. -/
theorem other_type {α β : Type} {d : Kd α} {d2 : Kd β} {e e2 base : Nat} {ok ok2 S : Nat → Prop} {w w1 : World} {v v2 : Value} {xs : List α} {ys : List β} (hE : d.E = []) (hE2 : d2.E = []) (hne : e ≠ e2) (h : d.R e w base ok v xs) (h2 : d2.R e2 w base ok2 v2 ys) (hk : Kept w w1 (fun k => some k = v2.ownBlock ∧ S k)) : d.R e w1 base ok v xs := by
 refine Kd.R_mono (Kd.R_step (Kd.R_bound h) (fun k hk1 hlt => hk.2 k hlt (fun hp => ?_))) (fun k hk => hk.1)
 obtain ⟨_, _, _, q, hq, cells, hc⟩ := hk1
 rw [hE, List.mem_singleton] at hq
 subst hq
 obtain ⟨cells2, hc2⟩ := typed_own hE2 h2 k hp.1.symm
 rw [hc] at hc2
 injection hc2 with hc2
 injection hc2 with _ h3 _
 exact hne h3
/-- The attributes of item i, lent. -/
theorem S_attrs {w : World} {base : Nat} {ok : Nat → Prop} {g n cap : Nat} {xs : List S53} (hS : Kd.S k53 53 w base ok (.slice (some ⟨g, 0, none⟩) n cap) xs) (i : Int) (h0 : 0 ≤ i) (h1 : i < n) :
  ∃ v3, w.cell? ⟨g, i.toNat * 7 + 3, none⟩ = some v3 ∧ Kd.R k56 56 w base (fun k => some k = v3.ownBlock ∧ ok k) v3 (rd_T53 xs i).f3 ∧
   ∀ (w1 : World) (ok2 : Nat → Prop) (r2 : List S56), Kd.R k56 56 w1 base ok2 v3 r2 → Kept w w1 (fun k => some k = v3.ownBlock ∧ ok k) →
    Kd.S k53 53 w1 base ok (.slice (some ⟨g, 0, none⟩) n cap) (xs.set i.toNat (⟨(rd_T53 xs i).f0, (rd_T53 xs i).f1, (rd_T53 xs i).f2, r2, (rd_T53 xs i).f4, (rd_T53 xs i).f5, (rd_T53 xs i).f6⟩ : S53)) := by
 obtain ⟨oki, c, hcl, hM, hcc, hoki, hH⟩ := Kd.S_lend hS z53 i h0 h1
 obtain ⟨v3, v6, rfl, g3, g6⟩ := k53_openM hM
 refine ⟨v3, hcc 3 v3 rfl, Kd.R_mono (Kd.R_tight2 rfl g3) (fun k hk => ⟨hk.1, (hoki k hk.2).1⟩), fun w1 ok2 r2 hr hk => ?_⟩
 have hH1 := Kd.H_step (w1 := w1) hH (fun k hok hn hlt => hk.2 k hlt (fun hp => hn (g3.1 k hp.1.symm)))
 have g3' := Kd.R_mono (Kd.R_tight rfl hr) (fun k hk => g3.1 k hk.symm)
 have g6' := other_type rfl rfl (by decide) g6 g3 hk
 exact Kd.H_back hH1 (k53_mkM w1 base oki (⟨(rd_T53 xs i).f0, (rd_T53 xs i).f1, (rd_T53 xs i).f2, r2, (rd_T53 xs i).f4, (rd_T53 xs i).f5, (rd_T53 xs i).f6⟩ : S53) g3' g6') (fun _ hk => hk)
/-- The kids of item i, lent. -/
theorem S_kids {w : World} {base : Nat} {ok : Nat → Prop} {g n cap : Nat} {xs : List S53} (hS : Kd.S k53 53 w base ok (.slice (some ⟨g, 0, none⟩) n cap) xs) (i : Int) (h0 : 0 ≤ i) (h1 : i < n) :
  ∃ v6, w.cell? ⟨g, i.toNat * 7 + 6, none⟩ = some v6 ∧ Kd.R (Kd.int .i64) 3 w base (fun k => some k = v6.ownBlock ∧ ok k) v6 (rd_T53 xs i).f6 ∧
   ∀ (w1 : World) (ok2 : Nat → Prop) (r2 : List Int), Kd.R (Kd.int .i64) 3 w1 base ok2 v6 r2 → Kept w w1 (fun k => some k = v6.ownBlock ∧ ok k) →
    Kd.S k53 53 w1 base ok (.slice (some ⟨g, 0, none⟩) n cap) (xs.set i.toNat (⟨(rd_T53 xs i).f0, (rd_T53 xs i).f1, (rd_T53 xs i).f2, (rd_T53 xs i).f3, (rd_T53 xs i).f4, (rd_T53 xs i).f5, r2⟩ : S53)) := by
 obtain ⟨oki, c, hcl, hM, hcc, hoki, hH⟩ := Kd.S_lend hS z53 i h0 h1
 obtain ⟨v3, v6, rfl, g3, g6⟩ := k53_openM hM
 refine ⟨v6, hcc 6 v6 rfl, Kd.R_mono (Kd.R_tight2 rfl g6) (fun k hk => ⟨hk.1, (hoki k hk.2).1⟩), fun w1 ok2 r2 hr hk => ?_⟩
 have hH1 := Kd.H_step (w1 := w1) hH (fun k hok hn hlt => hk.2 k hlt (fun hp => hn (g6.1 k hp.1.symm)))
 have g6' := Kd.R_mono (Kd.R_tight rfl hr) (fun k hk => g6.1 k hk.symm)
 have g3' := other_type rfl rfl (by decide) g3 g6 hk
 exact Kd.H_back hH1 (k53_mkM w1 base oki (⟨(rd_T53 xs i).f0, (rd_T53 xs i).f1, (rd_T53 xs i).f2, (rd_T53 xs i).f3, (rd_T53 xs i).f4, (rd_T53 xs i).f5, r2⟩ : S53) g3' g6') (fun _ hk => hk)
/-- A plain field of item i is written: the cells of the item as they were are told to the caller. -/
theorem S_put {w : World} {base : Nat} {ok : Nat → Prop} {g n cap : Nat} {xs : List S53} (hS : Kd.S k53 53 w base ok (.slice (some ⟨g, 0, none⟩) n cap) xs) (i : Int) (h0 : 0 ≤ i) (h1 : i < n) (j : Nat) (hj : j < 7) (u : Value) (x' : S53)
  (hM' : ∀ (ok' : Nat → Prop) (v3 v6 : Value), Kd.R k56 56 w base ok' v3 (rd_T53 xs i).f3 → Kd.R (Kd.int .i64) 3 w base ok' v6 (rd_T53 xs i).f6 →
   k53.M w base ok' x' ((([.int .i64 (rd_T53 xs i).f0, .int .i64 (rd_T53 xs i).f1, .string (rd_T53 xs i).f2, v3, .string (rd_T53 xs i).f4, .int .i64 (rd_T53 xs i).f5, v6] : List Value).take j) ++ [u] ++ (([.int .i64 (rd_T53 xs i).f0, .int .i64 (rd_T53 xs i).f1, .string (rd_T53 xs i).f2, v3, .string (rd_T53 xs i).f4, .int .i64 (rd_T53 xs i).f5, v6] : List Value).drop (j + 1)))) :
  Kd.S k53 53 (w.setCell ⟨g, i.toNat * 7 + j, none⟩ u) base ok (.slice (some ⟨g, 0, none⟩) n cap) (xs.set i.toNat x') ∧ w.grownBy (w.setCell ⟨g, i.toNat * 7 + j, none⟩ u) (some g) := by
 obtain ⟨oki, c, hcl, hM, hcc, hfr, hoki, hH⟩ := Kd.S_elem hS z53 i h0 h1
 obtain ⟨v3, v6, rfl, g3, g6⟩ := k53_openM hM
 exact Kd.S_seg (okg := fun _ => False) (okp := oki) (Kd.H_mono hH (fun k hk => ⟨hk, fun h => h⟩)) h0 h1 (seg := [u]) (j := j) hj (x' := x') (hM' oki v3 v6 g3 g6) (fun k hk => Or.inl hk) (fun k hk => hk.elim)
theorem S_put0 {w : World} {base : Nat} {ok : Nat → Prop} {g n cap : Nat} {xs : List S53} (hS : Kd.S k53 53 w base ok (.slice (some ⟨g, 0, none⟩) n cap) xs) (i : Int) (h0 : 0 ≤ i) (h1 : i < n) (a : Int) :
  Kd.S k53 53 (w.setCell ⟨g, i.toNat * 7 + 0, none⟩ (.int .i64 a)) base ok (.slice (some ⟨g, 0, none⟩) n cap) (xs.set i.toNat (⟨a, (rd_T53 xs i).f1, (rd_T53 xs i).f2, (rd_T53 xs i).f3, (rd_T53 xs i).f4, (rd_T53 xs i).f5, (rd_T53 xs i).f6⟩ : S53)) ∧ w.grownBy (w.setCell ⟨g, i.toNat * 7 + 0, none⟩ (.int .i64 a)) (some g) :=
 S_put hS i h0 h1 0 (by decide) (.int .i64 a) (⟨a, (rd_T53 xs i).f1, (rd_T53 xs i).f2, (rd_T53 xs i).f3, (rd_T53 xs i).f4, (rd_T53 xs i).f5, (rd_T53 xs i).f6⟩ : S53) (fun ok' v3 v6 g3 g6 => k53_mkM w base ok' (⟨a, (rd_T53 xs i).f1, (rd_T53 xs i).f2, (rd_T53 xs i).f3, (rd_T53 xs i).f4, (rd_T53 xs i).f5, (rd_T53 xs i).f6⟩ : S53) g3 g6)
theorem S_put1 {w : World} {base : Nat} {ok : Nat → Prop} {g n cap : Nat} {xs : List S53} (hS : Kd.S k53 53 w base ok (.slice (some ⟨g, 0, none⟩) n cap) xs) (i : Int) (h0 : 0 ≤ i) (h1 : i < n) (a : Int) :
  Kd.S k53 53 (w.setCell ⟨g, i.toNat * 7 + 1, none⟩ (.int .i64 a)) base ok (.slice (some ⟨g, 0, none⟩) n cap) (xs.set i.toNat (⟨(rd_T53 xs i).f0, a, (rd_T53 xs i).f2, (rd_T53 xs i).f3, (rd_T53 xs i).f4, (rd_T53 xs i).f5, (rd_T53 xs i).f6⟩ : S53)) ∧ w.grownBy (w.setCell ⟨g, i.toNat * 7 + 1, none⟩ (.int .i64 a)) (some g) :=
 S_put hS i h0 h1 1 (by decide) (.int .i64 a) (⟨(rd_T53 xs i).f0, a, (rd_T53 xs i).f2, (rd_T53 xs i).f3, (rd_T53 xs i).f4, (rd_T53 xs i).f5, (rd_T53 xs i).f6⟩ : S53) (fun ok' v3 v6 g3 g6 => k53_mkM w base ok' (⟨(rd_T53 xs i).f0, a, (rd_T53 xs i).f2, (rd_T53 xs i).f3, (rd_T53 xs i).f4, (rd_T53 xs i).f5, (rd_T53 xs i).f6⟩ : S53) g3 g6)
theorem S_put2 {w : World} {base : Nat} {ok : Nat → Prop} {g n cap : Nat} {xs : List S53} (hS : Kd.S k53 53 w base ok (.slice (some ⟨g, 0, none⟩) n cap) xs) (i : Int) (h0 : 0 ≤ i) (h1 : i < n) (a : ByteArray) :
  Kd.S k53 53 (w.setCell ⟨g, i.toNat * 7 + 2, none⟩ (.string a)) base ok (.slice (some ⟨g, 0, none⟩) n cap) (xs.set i.toNat (⟨(rd_T53 xs i).f0, (rd_T53 xs i).f1, a, (rd_T53 xs i).f3, (rd_T53 xs i).f4, (rd_T53 xs i).f5, (rd_T53 xs i).f6⟩ : S53)) ∧ w.grownBy (w.setCell ⟨g, i.toNat * 7 + 2, none⟩ (.string a)) (some g) :=
 S_put hS i h0 h1 2 (by decide) (.string a) (⟨(rd_T53 xs i).f0, (rd_T53 xs i).f1, a, (rd_T53 xs i).f3, (rd_T53 xs i).f4, (rd_T53 xs i).f5, (rd_T53 xs i).f6⟩ : S53) (fun ok' v3 v6 g3 g6 => k53_mkM w base ok' (⟨(rd_T53 xs i).f0, (rd_T53 xs i).f1, a, (rd_T53 xs i).f3, (rd_T53 xs i).f4, (rd_T53 xs i).f5, (rd_T53 xs i).f6⟩ : S53) g3 g6)
theorem S_put4 {w : World} {base : Nat} {ok : Nat → Prop} {g n cap : Nat} {xs : List S53} (hS : Kd.S k53 53 w base ok (.slice (some ⟨g, 0, none⟩) n cap) xs) (i : Int) (h0 : 0 ≤ i) (h1 : i < n) (a : ByteArray) :
  Kd.S k53 53 (w.setCell ⟨g, i.toNat * 7 + 4, none⟩ (.string a)) base ok (.slice (some ⟨g, 0, none⟩) n cap) (xs.set i.toNat (⟨(rd_T53 xs i).f0, (rd_T53 xs i).f1, (rd_T53 xs i).f2, (rd_T53 xs i).f3, a, (rd_T53 xs i).f5, (rd_T53 xs i).f6⟩ : S53)) ∧ w.grownBy (w.setCell ⟨g, i.toNat * 7 + 4, none⟩ (.string a)) (some g) :=
 S_put hS i h0 h1 4 (by decide) (.string a) (⟨(rd_T53 xs i).f0, (rd_T53 xs i).f1, (rd_T53 xs i).f2, (rd_T53 xs i).f3, a, (rd_T53 xs i).f5, (rd_T53 xs i).f6⟩ : S53) (fun ok' v3 v6 g3 g6 => k53_mkM w base ok' (⟨(rd_T53 xs i).f0, (rd_T53 xs i).f1, (rd_T53 xs i).f2, (rd_T53 xs i).f3, a, (rd_T53 xs i).f5, (rd_T53 xs i).f6⟩ : S53) g3 g6)
theorem S_put5 {w : World} {base : Nat} {ok : Nat → Prop} {g n cap : Nat} {xs : List S53} (hS : Kd.S k53 53 w base ok (.slice (some ⟨g, 0, none⟩) n cap) xs) (i : Int) (h0 : 0 ≤ i) (h1 : i < n) (a : Int) :
  Kd.S k53 53 (w.setCell ⟨g, i.toNat * 7 + 5, none⟩ (.int .i64 a)) base ok (.slice (some ⟨g, 0, none⟩) n cap) (xs.set i.toNat (⟨(rd_T53 xs i).f0, (rd_T53 xs i).f1, (rd_T53 xs i).f2, (rd_T53 xs i).f3, (rd_T53 xs i).f4, a, (rd_T53 xs i).f6⟩ : S53)) ∧ w.grownBy (w.setCell ⟨g, i.toNat * 7 + 5, none⟩ (.int .i64 a)) (some g) :=
 S_put hS i h0 h1 5 (by decide) (.int .i64 a) (⟨(rd_T53 xs i).f0, (rd_T53 xs i).f1, (rd_T53 xs i).f2, (rd_T53 xs i).f3, (rd_T53 xs i).f4, a, (rd_T53 xs i).f6⟩ : S53) (fun ok' v3 v6 g3 g6 => k53_mkM w base ok' (⟨(rd_T53 xs i).f0, (rd_T53 xs i).f1, (rd_T53 xs i).f2, (rd_T53 xs i).f3, (rd_T53 xs i).f4, a, (rd_T53 xs i).f6⟩ : S53) g3 g6)
theorem rd_set (xs : List S53) (x : S53) (i : Int) (h0 : 0 ≤ i) (h1 : i < (xs.length : Int)) : rd_T53 (xs.set i.toNat x) i = x := by
 unfold rd_T53
 rw [List.getD_eq_getElem?_getD, List.getElem?_set_self (by omega)]
 rfl
theorem S_next1 {w : World} {base : Nat} {ok : Nat → Prop} {g n cap : Nat} {xs : List S53} {x : S53} {i : Int} (hS : Kd.S k53 53 w base ok (.slice (some ⟨g, 0, none⟩) n cap) (xs.set i.toNat x)) (h0 : 0 ≤ i) (h1 : i < n) (hl : i < (xs.length : Int)) (a : Int) :
  Kd.S k53 53 (w.setCell ⟨g, i.toNat * 7 + 1, none⟩ (.int .i64 a)) base ok (.slice (some ⟨g, 0, none⟩) n cap) (xs.set i.toNat (⟨x.f0, a, x.f2, x.f3, x.f4, x.f5, x.f6⟩ : S53)) ∧ w.grownBy (w.setCell ⟨g, i.toNat * 7 + 1, none⟩ (.int .i64 a)) (some g) := by
 have h := S_put1 hS i h0 h1 a
 rw [rd_set xs x i h0 hl, List.set_set] at h
 exact h
theorem S_next2 {w : World} {base : Nat} {ok : Nat → Prop} {g n cap : Nat} {xs : List S53} {x : S53} {i : Int} (hS : Kd.S k53 53 w base ok (.slice (some ⟨g, 0, none⟩) n cap) (xs.set i.toNat x)) (h0 : 0 ≤ i) (h1 : i < n) (hl : i < (xs.length : Int)) (a : ByteArray) :
  Kd.S k53 53 (w.setCell ⟨g, i.toNat * 7 + 2, none⟩ (.string a)) base ok (.slice (some ⟨g, 0, none⟩) n cap) (xs.set i.toNat (⟨x.f0, x.f1, a, x.f3, x.f4, x.f5, x.f6⟩ : S53)) ∧ w.grownBy (w.setCell ⟨g, i.toNat * 7 + 2, none⟩ (.string a)) (some g) := by
 have h := S_put2 hS i h0 h1 a
 rw [rd_set xs x i h0 hl, List.set_set] at h
 exact h
theorem S_next4 {w : World} {base : Nat} {ok : Nat → Prop} {g n cap : Nat} {xs : List S53} {x : S53} {i : Int} (hS : Kd.S k53 53 w base ok (.slice (some ⟨g, 0, none⟩) n cap) (xs.set i.toNat x)) (h0 : 0 ≤ i) (h1 : i < n) (hl : i < (xs.length : Int)) (a : ByteArray) :
  Kd.S k53 53 (w.setCell ⟨g, i.toNat * 7 + 4, none⟩ (.string a)) base ok (.slice (some ⟨g, 0, none⟩) n cap) (xs.set i.toNat (⟨x.f0, x.f1, x.f2, x.f3, a, x.f5, x.f6⟩ : S53)) ∧ w.grownBy (w.setCell ⟨g, i.toNat * 7 + 4, none⟩ (.string a)) (some g) := by
 have h := S_put4 hS i h0 h1 a
 rw [rd_set xs x i h0 hl, List.set_set] at h
 exact h
theorem S_next5 {w : World} {base : Nat} {ok : Nat → Prop} {g n cap : Nat} {xs : List S53} {x : S53} {i : Int} (hS : Kd.S k53 53 w base ok (.slice (some ⟨g, 0, none⟩) n cap) (xs.set i.toNat x)) (h0 : 0 ≤ i) (h1 : i < n) (hl : i < (xs.length : Int)) (a : Int) :
  Kd.S k53 53 (w.setCell ⟨g, i.toNat * 7 + 5, none⟩ (.int .i64 a)) base ok (.slice (some ⟨g, 0, none⟩) n cap) (xs.set i.toNat (⟨x.f0, x.f1, x.f2, x.f3, x.f4, a, x.f6⟩ : S53)) ∧ w.grownBy (w.setCell ⟨g, i.toNat * 7 + 5, none⟩ (.int .i64 a)) (some g) := by
 have h := S_put5 hS i h0 h1 a
 rw [rd_set xs x i h0 hl, List.set_set] at h
 exact h
theorem S_attrs' {w : World} {base : Nat} {ok : Nat → Prop} {g n cap : Nat} {xs : List S53} {x : S53} {i : Int} (hS : Kd.S k53 53 w base ok (.slice (some ⟨g, 0, none⟩) n cap) (xs.set i.toNat x)) (h0 : 0 ≤ i) (h1 : i < n) (hl : i < (xs.length : Int)) :
  ∃ v3, w.cell? ⟨g, i.toNat * 7 + 3, none⟩ = some v3 ∧ Kd.R k56 56 w base (fun k => some k = v3.ownBlock ∧ ok k) v3 x.f3 ∧
   ∀ (w1 : World) (ok2 : Nat → Prop) (r2 : List S56), Kd.R k56 56 w1 base ok2 v3 r2 → Kept w w1 (fun k => some k = v3.ownBlock ∧ ok k) →
    Kd.S k53 53 w1 base ok (.slice (some ⟨g, 0, none⟩) n cap) (xs.set i.toNat (⟨x.f0, x.f1, x.f2, r2, x.f4, x.f5, x.f6⟩ : S53)) := by
 obtain ⟨v3, hc, hr, hb⟩ := S_attrs hS i h0 h1
 rw [rd_set xs x i h0 hl] at hr hb
 refine ⟨v3, hc, hr, fun w1 ok2 r2 h2 hk => ?_⟩
 have h := hb w1 ok2 r2 h2 hk
 rw [List.set_set] at h
 exact h
theorem S_kids' {w : World} {base : Nat} {ok : Nat → Prop} {g n cap : Nat} {xs : List S53} {x : S53} {i : Int} (hS : Kd.S k53 53 w base ok (.slice (some ⟨g, 0, none⟩) n cap) (xs.set i.toNat x)) (h0 : 0 ≤ i) (h1 : i < n) (hl : i < (xs.length : Int)) :
  ∃ v6, w.cell? ⟨g, i.toNat * 7 + 6, none⟩ = some v6 ∧ Kd.R (Kd.int .i64) 3 w base (fun k => some k = v6.ownBlock ∧ ok k) v6 x.f6 ∧
   ∀ (w1 : World) (ok2 : Nat → Prop) (r2 : List Int), Kd.R (Kd.int .i64) 3 w1 base ok2 v6 r2 → Kept w w1 (fun k => some k = v6.ownBlock ∧ ok k) →
    Kd.S k53 53 w1 base ok (.slice (some ⟨g, 0, none⟩) n cap) (xs.set i.toNat (⟨x.f0, x.f1, x.f2, x.f3, x.f4, x.f5, r2⟩ : S53)) := by
 obtain ⟨v6, hc, hr, hb⟩ := S_kids hS i h0 h1
 rw [rd_set xs x i h0 hl] at hr hb
 refine ⟨v6, hc, hr, fun w1 ok2 r2 h2 hk => ?_⟩
 have h := hb w1 ok2 r2 h2 hk
 rw [List.set_set] at h
 exact h
/-- What a store into field j of item i meets. -/
theorem S_cells {w : World} {base : Nat} {ok : Nat → Prop} {g n cap : Nat} {xs : List S53} (hS : Kd.S k53 53 w base ok (.slice (some ⟨g, 0, none⟩) n cap) xs) (i : Int) (h0 : 0 ≤ i) (h1 : i < n) (j : Nat) (hj : j < 7) :
  (∃ v, w.cell? ⟨g, i.toNat * 7 + j, none⟩ = some v) ∧ w.frozen? ⟨g, i.toNat * 7 + j, none⟩ = false := by
 obtain ⟨oki, c, hcl, hM, hcc, hfr, _, _⟩ := Kd.S_elem hS z53 i h0 h1
 obtain ⟨v3, v6, rfl, _, _⟩ := k53_openM hM
 refine ⟨?_, hfr j⟩
 match j, hj with
 | 0, _ => exact ⟨_, hcc 0 _ rfl⟩
 | 1, _ => exact ⟨_, hcc 1 _ rfl⟩
 | 2, _ => exact ⟨_, hcc 2 _ rfl⟩
 | 3, _ => exact ⟨_, hcc 3 _ rfl⟩
 | 4, _ => exact ⟨_, hcc 4 _ rfl⟩
 | 5, _ => exact ⟨_, hcc 5 _ rfl⟩
 | 6, _ => exact ⟨_, hcc 6 _ rfl⟩
def laws_markItemS.l0 : Nat → List S53 → Int → Int → Option (Int × List S53)
 | 0, _, _, _ => none
 | k + 1, x0, x1, x5 => if x5 < (x0.length : Int) then (if 0 ≤ x5 then ((laws_markText.f k (wrap64 (wrap64 (x1 + 1) + 1))).bind fun t => (laws_markAttrS.f k (rd_T53 x0 x5).f3 (wrap64 (wrap64 (wrap64 (x1 + 1) + 1) + 1))).bind fun b => (laws_markText.f k b.1).bind fun t2 => (laws_markIntS.f k (rd_T53 x0 x5).f6 (wrap64 (wrap64 (b.1 + 1) + 1))).bind fun d => laws_markItemS.l0 k (x0.set x5.toNat (⟨x1, wrap64 (x1 + 1), t, b.2, t2, wrap64 (b.1 + 1), d.2⟩ : S53)) d.1 (wrap64 (x5 + 1))) else none) else some (x1, x0)
def laws_markItemS.g (k : Nat) (l0 : List S53) (a1 : Int) : Option (Int × List S53) := laws_markItemS.l0 k l0 a1 0
theorem laws_markItemS.calls_g (k : Nat) (P0_ : Nat → Prop) (u9000_ : Value) (l0 : List S53) (a1 : Int) (r1 : Int) (r2 : List S53) (w0 w : World) (hB : Below w0.heap.size w0 w) (ho0 : Kd.S k53 53 w w0.heap.size P0_ u9000_ l0) (h : laws_markItemS.g k l0 a1 = some (r1, r2)) :
  Calls Tryz.prog 38 #[u9000_, .int .i64 a1] w fun e w' => e = .returned (.int .i64 r1) ∧ Kd.S k53 53 w' w0.heap.size (fun k_ => (P0_ k_ ∨ w.heap.size ≤ k_)) u9000_ r2 ∧ Below w0.heap.size w0 w' ∧ Kept w w' (fun k_ => P0_ k_) := by
 have HO0 := am (show Kd.S k53 53 w w0.heap.size (fun k_ => (P0_ k_ ∨ w.heap.size ≤ k_)) u9000_ l0 from Kd.S_mono ho0 (fun k_ hk => (.inl hk)))
 have HK := am (Kept.refl w (fun k_ => P0_ k_))
 have HW0 := am hB.size
 have HB := am hB
 clear hB
 have H : (laws_markItemS.l0 k l0 a1 0) = some (r1, r2) := h
 clear h
 have H' := am H
 clear H
 go_enter Tryz.func38, Tryz.ntmps38
 go_wp2
 go_loopg [1, 5] k (fun kq v1 v5 w' => ∃ (x0_1 : List S53) (x1_1 : Int) (x5_1 : Int), v1 = .int .i64 x1_1 ∧ v5 = .int .i64 x5_1 ∧ Aside0 (laws_markItemS.l0 kq x0_1 x1_1 x5_1 = some (r1, r2)) ∧ Aside0 (kq ≤ k) ∧ Aside0 (Kd.S k53 53 w' w0.heap.size (fun k_ => (P0_ k_ ∨ w.heap.size ≤ k_)) u9000_ x0_1) ∧ Aside0 (Kept w w' (fun k_ => P0_ k_)) ∧ Aside0 (Below w0.heap.size w0 w'))
 case atStart => exact ⟨l0, a1, 0, rfl, rfl, H', ⟨Nat.le_refl _⟩, HO0, HK, HB⟩
 case round =>
  clear H'
  obtain ⟨x0_1, x1_1, x5_1, rfl, rfl, HA, HK1, HO_0, HK, HB⟩ := hrel
  cases gk with
  | zero => exact absurd HA.out (by simp [laws_markItemS.l0])
  | succ k1 =>
   have H := HA.out
   clear HA
   simp only [laws_markItemS.l0] at H
   by_cases c3 : x5_1 < (x0_1.length : Int)
   ·rw [if_pos c3] at H
    by_cases c5 : 0 ≤ x5_1
    case neg => rw [if_neg c5] at H; exact absurd H (by simp)
    rw [if_pos c5] at H
    obtain ⟨t, A4, H⟩ := Option.bind_eq_some_iff.mp H
    obtain ⟨⟨b1, b2⟩, A5, H⟩ := Option.bind_eq_some_iff.mp H
    obtain ⟨t2, A6, H⟩ := Option.bind_eq_some_iff.mp H
    obtain ⟨⟨d1, d2⟩, A7, H⟩ := Option.bind_eq_some_iff.mp H
    try dsimp only at A4 A5 A6 A7 H
    replace A4 := am A4
    replace A5 := am A5
    replace A6 := am A6
    replace A7 := am A7
    have H' := am H
    clear H
    obtain ⟨Ao9, co9, eo9⟩ := Kd.S_slice HO_0.out
    subst eo9
    obtain ⟨go6, co6, eo6, gb6, gl6, cl6, HG6⟩ := Kd.R_form (Kd.S_R HO_0.out) (by omega)
    (first | cases eo6 | (injection eo6 with ea_ en_ ec_; (first | subst ea_ | (injection ea_ with ea_; subst ea_)); subst ec_; clear en_))
    have GB6 := am gb6
    clear gb6 gl6 HG6
    have OK6 := am (show (P0_ go6 ∨ w.heap.size ≤ go6) from ((Kd.S_R HO_0.out).1 _ rfl))
    have C3 := am c3
    have C5 := am c5
    have c3b0 := decide_eq_true c3
    have c5b0 := decide_eq_true c5
    replace c3 := eq_true c3
    replace c5 := eq_true c5
    obtain ⟨⟨vc0, hx0⟩, hf0⟩ := S_cells HO_0.out x5_1 C5.out C3.out 0 (by decide)
    replace hx0 : wr.cell? ⟨go6, x5_1.toNat * 7, none⟩ = some vc0 := hx0; replace hf0 : wr.frozen? ⟨go6, x5_1.toNat * 7, none⟩ = false := hf0
    go_wp2_with (first | ((with_reducible refine gate_store (t := 3) (p := 16) rfl ?_); refine store_event (t := 3) (p := 16) (v := ?vo_w11) (w1 := (wr.setCell ⟨go6, x5_1.toNat * 7, none⟩ (.int .i64 x1_1))) ?hg ?ho ?hn ?hr ?_; (case ho => rfl); (case hg => rfl); (case hn => rfl); (case hr => first | (go_simp; done) | (go_simp; rfl)); intro w11 hw; have HP := S_put0 HO_0.out x5_1 C5.out C3.out (x1_1); have hg : wr.grownBy w11 (some go6) := (by rw [hw]; exact HP.2); have n0_ := am (show Kd.S k53 53 w11 w0.heap.size (fun k_ => (P0_ k_ ∨ w.heap.size ≤ k_)) (.slice (some ⟨go6, 0, none⟩) x0_1.length co9) (x0_1.set x5_1.toNat (⟨x1_1, (rd_T53 x0_1 x5_1).f1, (rd_T53 x0_1 x5_1).f2, (rd_T53 x0_1 x5_1).f3, (rd_T53 x0_1 x5_1).f4, (rd_T53 x0_1 x5_1).f5, (rd_T53 x0_1 x5_1).f6⟩ : S53)) from (by rw [hw]; exact HP.1)); clear HP; have n1_ := am ((by rw [hw]; exact below_set (HB.out) GB6.out : Below w0.heap.size w0 w11)); have n2_ := am (Kept.of_grown (S := (fun k_ => P0_ k_)) hg HK.out (fun k_ e_ => (by cases e_; exact OK6.out))); clear HO_0; clear HB; clear HK; have HO_0 := n0_; have HB := n1_; have HK := n2_; clear n0_ n1_ n2_; clear hg hw; clear hx0 hf0; obtain ⟨⟨vc1, hx1⟩, hf1⟩ := S_cells HO_0.out x5_1 C5.out C3.out 1 (by decide); replace hx1 : w11.cell? ⟨go6, x5_1.toNat * 7 + 1, none⟩ = some vc1 := hx1; replace hf1 : w11.frozen? ⟨go6, x5_1.toNat * 7 + 1, none⟩ = false := hf1) | ((with_reducible refine gate_store (t := 3) (p := 23) rfl ?_); refine store_event (t := 3) (p := 23) (v := ?vo_w12) (w1 := (w11.setCell ⟨go6, x5_1.toNat * 7 + 1, none⟩ (.int .i64 (wrap64 (x1_1 + 1))))) ?hg ?ho ?hn ?hr ?_; (case ho => rfl); (case hg => rfl); (case hn => rfl); (case hr => first | (go_simp; done) | (go_simp; rfl)); intro w12 hw; have HP := S_next1 HO_0.out C5.out C3.out C3.out ((wrap64 (x1_1 + 1))); have hg : w11.grownBy w12 (some go6) := (by rw [hw]; exact HP.2); have n0_ := am (show Kd.S k53 53 w12 w0.heap.size (fun k_ => (P0_ k_ ∨ w.heap.size ≤ k_)) (.slice (some ⟨go6, 0, none⟩) x0_1.length co9) (x0_1.set x5_1.toNat (⟨x1_1, (wrap64 (x1_1 + 1)), (rd_T53 x0_1 x5_1).f2, (rd_T53 x0_1 x5_1).f3, (rd_T53 x0_1 x5_1).f4, (rd_T53 x0_1 x5_1).f5, (rd_T53 x0_1 x5_1).f6⟩ : S53)) from (by rw [hw]; exact HP.1)); clear HP; have n1_ := am ((by rw [hw]; exact below_set (HB.out) GB6.out : Below w0.heap.size w0 w12)); have n2_ := am (Kept.of_grown (S := (fun k_ => P0_ k_)) hg HK.out (fun k_ e_ => (by cases e_; exact OK6.out))); clear HO_0; clear HB; clear HK; have HO_0 := n0_; have HB := n1_; have HK := n2_; clear n0_ n1_ n2_; clear hg hw; clear hx1 hf1) | ((with_reducible refine gate_callee (f := 40) rfl ?_); refine goesL_ (some 29) rfl rfl Tryz.func40 (by kernel_rfl) rfl #[.int .i64 (wrap64 (wrap64 (x1_1 + 1) + 1))] rfl (by (try simp only [List.map_toArray, List.map_cons, List.map_nil]); first | done | rfl) ?_; (with_reducible refine (laws_markText.calls k1 (wrap64 (wrap64 (x1_1 + 1) + 1)) t _ A4.out).mono ?_); rintro e w13 ⟨rfl, hb⟩; refine ⟨_, rfl, ?_⟩; replace HO_0 := am (Kd.S_below HO_0.out hb); replace HK := am (Kept.below (S := (fun k_ => P0_ k_)) HK.out hb); replace HB := am (below_step HB.out hb); clear hb; obtain ⟨⟨vc2, hx2⟩, hf2⟩ := S_cells HO_0.out x5_1 C5.out C3.out 2 (by decide); replace hx2 : w13.cell? ⟨go6, x5_1.toNat * 7 + 2, none⟩ = some vc2 := hx2; replace hf2 : w13.frozen? ⟨go6, x5_1.toNat * 7 + 2, none⟩ = false := hf2) | ((with_reducible refine gate_store (t := 9) (p := 31) rfl ?_); refine store_event (t := 9) (p := 31) (v := ?vo_w14) (w1 := (w13.setCell ⟨go6, x5_1.toNat * 7 + 2, none⟩ (.string t))) ?hg ?ho ?hn ?hr ?_; (case ho => rfl); (case hg => rfl); (case hn => rfl); (case hr => first | (go_simp; done) | (go_simp; rfl)); intro w14 hw; have HP := S_next2 HO_0.out C5.out C3.out C3.out (t); have hg : w13.grownBy w14 (some go6) := (by rw [hw]; exact HP.2); have n0_ := am (show Kd.S k53 53 w14 w0.heap.size (fun k_ => (P0_ k_ ∨ w.heap.size ≤ k_)) (.slice (some ⟨go6, 0, none⟩) x0_1.length co9) (x0_1.set x5_1.toNat (⟨x1_1, (wrap64 (x1_1 + 1)), t, (rd_T53 x0_1 x5_1).f3, (rd_T53 x0_1 x5_1).f4, (rd_T53 x0_1 x5_1).f5, (rd_T53 x0_1 x5_1).f6⟩ : S53)) from (by rw [hw]; exact HP.1)); clear HP; have n1_ := am ((by rw [hw]; exact below_set (HB.out) GB6.out : Below w0.heap.size w0 w14)); have n2_ := am (Kept.of_grown (S := (fun k_ => P0_ k_)) hg HK.out (fun k_ e_ => (by cases e_; exact OK6.out))); clear HO_0; clear HB; clear HK; have HO_0 := n0_; have HB := n1_; have HK := n2_; clear n0_ n1_ n2_; clear hg hw; clear hx2 hf2; obtain ⟨v3, hx3, hv_, hn_⟩ := S_attrs' HO_0.out C5.out C3.out C3.out; have HV3 := am hv_; have HN3 := am hn_; clear hv_ hn_) | ((with_reducible refine gate_callee (f := 15) rfl ?_); refine goesL_ (some 40) rfl rfl Tryz.func15 (by kernel_rfl) rfl #[v3, .int .i64 (wrap64 (wrap64 (wrap64 (x1_1 + 1) + 1) + 1))] rfl (by (try simp only [List.map_toArray, List.map_cons, List.map_nil]); first | done | rfl) ?_; (with_reducible refine (laws_markAttrS.calls k1 (fun k => some k = (v3 : Value).ownBlock ∧ (P0_ k ∨ w.heap.size ≤ k)) v3 ((rd_T53 x0_1 x5_1).f3) (wrap64 (wrap64 (wrap64 (x1_1 + 1) + 1) + 1)) b1 b2 w0 _ ?side1 ?side2 A5.out).mono ?_); (case side1 => exact HB.out); (case side2 => exact HV3.out); rintro e w15 ⟨rfl, hy0, hb, hkp⟩; refine ⟨_, rfl, ?_⟩; replace HO_0 := am (HN3.out _ _ _ hy0 hkp); replace HK := am (HK.out.then_ hkp (fun k_ h_ => h_.2)); replace HB := am hb; clear hb hkp hy0; clear HV3 HN3 hx3) | ((with_reducible refine gate_callee (f := 40) rfl ?_); refine goesL_ (some 44) rfl rfl Tryz.func40 (by kernel_rfl) rfl #[.int .i64 (b1)] rfl (by (try simp only [List.map_toArray, List.map_cons, List.map_nil]); first | done | rfl) ?_; (with_reducible refine (laws_markText.calls k1 (b1) t2 _ A6.out).mono ?_); rintro e w16 ⟨rfl, hb⟩; refine ⟨_, rfl, ?_⟩; replace HO_0 := am (Kd.S_below HO_0.out hb); replace HK := am (Kept.below (S := (fun k_ => P0_ k_)) HK.out hb); replace HB := am (below_step HB.out hb); clear hb; obtain ⟨⟨vc4, hx4⟩, hf4⟩ := S_cells HO_0.out x5_1 C5.out C3.out 4 (by decide); replace hx4 : w16.cell? ⟨go6, x5_1.toNat * 7 + 4, none⟩ = some vc4 := hx4; replace hf4 : w16.frozen? ⟨go6, x5_1.toNat * 7 + 4, none⟩ = false := hf4) | ((with_reducible refine gate_store (t := 9) (p := 46) rfl ?_); refine store_event (t := 9) (p := 46) (v := ?vo_w17) (w1 := (w16.setCell ⟨go6, x5_1.toNat * 7 + 4, none⟩ (.string t2))) ?hg ?ho ?hn ?hr ?_; (case ho => rfl); (case hg => rfl); (case hn => rfl); (case hr => first | (go_simp; done) | (go_simp; rfl)); intro w17 hw; have HP := S_next4 HO_0.out C5.out C3.out C3.out (t2); have hg : w16.grownBy w17 (some go6) := (by rw [hw]; exact HP.2); have n0_ := am (show Kd.S k53 53 w17 w0.heap.size (fun k_ => (P0_ k_ ∨ w.heap.size ≤ k_)) (.slice (some ⟨go6, 0, none⟩) x0_1.length co9) (x0_1.set x5_1.toNat (⟨x1_1, (wrap64 (x1_1 + 1)), t, b2, t2, (rd_T53 x0_1 x5_1).f5, (rd_T53 x0_1 x5_1).f6⟩ : S53)) from (by rw [hw]; exact HP.1)); clear HP; have n1_ := am ((by rw [hw]; exact below_set (HB.out) GB6.out : Below w0.heap.size w0 w17)); have n2_ := am (Kept.of_grown (S := (fun k_ => P0_ k_)) hg HK.out (fun k_ e_ => (by cases e_; exact OK6.out))); clear HO_0; clear HB; clear HK; have HO_0 := n0_; have HB := n1_; have HK := n2_; clear n0_ n1_ n2_; clear hg hw; clear hx4 hf4; obtain ⟨⟨vc5, hx5⟩, hf5⟩ := S_cells HO_0.out x5_1 C5.out C3.out 5 (by decide); replace hx5 : w17.cell? ⟨go6, x5_1.toNat * 7 + 5, none⟩ = some vc5 := hx5; replace hf5 : w17.frozen? ⟨go6, x5_1.toNat * 7 + 5, none⟩ = false := hf5) | ((with_reducible refine gate_store (t := 3) (p := 53) rfl ?_); refine store_event (t := 3) (p := 53) (v := ?vo_w18) (w1 := (w17.setCell ⟨go6, x5_1.toNat * 7 + 5, none⟩ (.int .i64 (wrap64 (b1 + 1))))) ?hg ?ho ?hn ?hr ?_; (case ho => rfl); (case hg => rfl); (case hn => rfl); (case hr => first | (go_simp; done) | (go_simp; rfl)); intro w18 hw; have HP := S_next5 HO_0.out C5.out C3.out C3.out ((wrap64 (b1 + 1))); have hg : w17.grownBy w18 (some go6) := (by rw [hw]; exact HP.2); have n0_ := am (show Kd.S k53 53 w18 w0.heap.size (fun k_ => (P0_ k_ ∨ w.heap.size ≤ k_)) (.slice (some ⟨go6, 0, none⟩) x0_1.length co9) (x0_1.set x5_1.toNat (⟨x1_1, (wrap64 (x1_1 + 1)), t, b2, t2, (wrap64 (b1 + 1)), (rd_T53 x0_1 x5_1).f6⟩ : S53)) from (by rw [hw]; exact HP.1)); clear HP; have n1_ := am ((by rw [hw]; exact below_set (HB.out) GB6.out : Below w0.heap.size w0 w18)); have n2_ := am (Kept.of_grown (S := (fun k_ => P0_ k_)) hg HK.out (fun k_ e_ => (by cases e_; exact OK6.out))); clear HO_0; clear HB; clear HK; have HO_0 := n0_; have HB := n1_; have HK := n2_; clear n0_ n1_ n2_; clear hg hw; clear hx5 hf5; obtain ⟨v6, hx6, hv_, hn_⟩ := S_kids' HO_0.out C5.out C3.out C3.out; have HV6 := am hv_; have HN6 := am hn_; clear hv_ hn_) | ((with_reducible refine gate_callee (f := 39) rfl ?_); refine goesL_ (some 62) rfl rfl Tryz.func39 (by kernel_rfl) rfl #[v6, .int .i64 (wrap64 (wrap64 (b1 + 1) + 1))] rfl (by (try simp only [List.map_toArray, List.map_cons, List.map_nil]); first | done | rfl) ?_; (with_reducible refine (laws_markIntS.calls k1 (fun k => some k = (v6 : Value).ownBlock ∧ (P0_ k ∨ w.heap.size ≤ k)) v6 ((rd_T53 x0_1 x5_1).f6) (wrap64 (wrap64 (b1 + 1) + 1)) d1 d2 w0 _ ?side1 ?side2 A7.out).mono ?_); (case side1 => exact HB.out); (case side2 => exact HV6.out); rintro e w19 ⟨rfl, hy0, hb, hkp⟩; refine ⟨_, rfl, ?_⟩; replace HO_0 := am (HN6.out _ _ _ hy0 hkp); replace HK := am (HK.out.then_ hkp (fun k_ h_ => h_.2)); replace HB := am hb; clear hb hkp hy0; clear HV6 HN6 hx6))
    go_roundg k1
    case measure => have := HK1.out; omega
    case rel => exact ⟨_, d1, wrap64 (x5_1 + 1), ab6, ab6, H', ⟨by have := HK1.out; omega⟩, HO_0, HK, HB⟩
   ·rw [if_neg c3] at H
    have c3b0 := decide_eq_false c3
    clear c3
    simp only [Option.some.injEq, Prod.mk.injEq] at H
    obtain ⟨rfl, rfl⟩ := H
    obtain ⟨Ao16, co16, eo16⟩ := Kd.S_slice HO_0.out
    subst eo16
    go_wp2
    go_ret
    exact ⟨by first | rfl | (simp; done), HO_0.out, HB.out, HK.out⟩
end
def slices_Clone_int_int.f (l0 : List Int) : Option (List Int) := (some (([] : List Int) : List Int)).bind fun y324 => (if y324.length + l0.length < 17592186044416 then (some (y324 ++ l0)) else (none))
theorem slices_Clone_int_int.calls (A0 : Option Addr) (c0 : Nat) (l0 : List Int) (r : List Int) (w : World) (hr0 : Kd.C (Kd.int .i64) w A0 l0.length l0) (hc0 : l0.length ≤ c0) (h : slices_Clone_int_int.f l0 = some r) :
  Calls Tryz.prog 60 #[.slice A0 l0.length c0] w fun e w' => ∃ v0_ : Value, e = .returned (v0_) ∧ Kd.R (Kd.int .i64) 3 w' w.heap.size (fun _ => True) v0_ r ∧ Below w.heap.size w w' := by
 have HR0 := am hr0
 have HC0 := am hc0
 clear hr0 hc0
 have HB := am (Below.refl w.heap.size w)
 have H : ((some (([] : List Int) : List Int)).bind fun y324 => (if y324.length + l0.length < 17592186044416 then (some (y324 ++ l0)) else (none))) = some r := h
 clear h
 obtain ⟨y324, hy324⟩ : ∃ y_ : List Int, y_ = (([] : List Int)) := ⟨_, rfl⟩
 replace H : (if y324.length + l0.length < 17592186044416 then (some (y324 ++ l0)) else (none)) = some r := by first | (rw [hy324]; with_reducible exact H) | (have H2_ := (Option.bind_some _ _).symm.trans H; rw [hy324]; with_reducible exact H2_) | (have H2_ := (Option.bind_some _ _).symm.trans H; with_reducible exact H2_) | with_reducible exact H | (rw [hy324]; exact H) | exact H
 have Ny324 := am hy324
 clear hy324
 by_cases c2 : y324.length + l0.length < 17592186044416
 case neg => rw [if_neg c2] at H; exact absurd H (by simp)
 rw [if_pos c2] at H
 have LMc2 := am c2
 clear c2
 obtain ⟨y327, hy327⟩ : ∃ y_ : List Int, y_ = (y324 ++ l0) := ⟨_, rfl⟩
 replace H : (some y327) = some r := by first | (rw [hy327]; with_reducible exact H) | (have H2_ := (Option.bind_some _ _).symm.trans H; rw [hy327]; with_reducible exact H2_) | (have H2_ := (Option.bind_some _ _).symm.trans H; with_reducible exact H2_) | with_reducible exact H | (rw [hy327]; exact H) | exact H
 have Ny327 := am hy327
 clear hy327
 obtain rfl := Option.some.inj H
 rcases A0 with _ | ad0
 ·have hl0 : l0 = [] := by
   have h1 := HR0.out.2.2
   cases l0 with
   | nil => rfl
   | cons x xs => obtain ⟨ad, he, _⟩ := h1 (Nat.succ_pos _); cases he
  subst hl0
  have e1_ := Ny324.out; subst e1_
  have e2_ := Ny327.out; subst e2_
  have hnil : ∀ W, (binOp .eql 23 (.slice none 0 c0) (.slice none 0 0)).run Tryz.prog W = .ok (.bool true) W := fun W => Lib.run_eql_slice_nil (h := Tryz.underlying23) ..
  go_enter Tryz.func60, Tryz.ntmps60
  go_wp2
  go_ret
  exact ⟨_, rfl, Kd.R_nil _ _ _ _ _, ab1⟩
 have hnil : ∀ W, (binOp .eql 23 (.slice (some ad0) l0.length c0) (.slice none 0 0)).run Tryz.prog W = .ok (.bool false) W := fun W => Lib.run_eql_slice_nil (h := Tryz.underlying23) ..
 go_enter Tryz.func60, Tryz.ntmps60
 go_wp2_with (first | ((with_reducible refine gate_dst (N := 5) rfl ?_); refine Kd.R_lit (Kd.int .i64) _ 3 ?hg (N := 5) ?hd (xs := ([] : List Int)) (inner := []) (ok := fun _ => True) (okp := fun _ => True) ?hr ?hp (fun _ hk => hk) trivial (Below.refl _ _) (Nat.le_refl _) (by simp) ?_; (case hd => rfl); (case hg => rfl); (case hr => first | (go_simp; done) | (go_simp; rfl)); (case hp => exact (Reps.none _ _)); intro v325 w3 ho4 hb hg_ hnew_; clear hg_ hnew_; (first | rw [← Ny324.out] at ho4 | (simp only [Int.reduceToNat] at ho4; rw [← Ny324.out] at ho4)); have HO326 := am (Kd.R_lower ho4 (below_size ab1)); replace HB := am (below_step ab1 hb); clear hb ho4) | ((with_reducible refine gate_builtin (b := .append) (xs := #[.tmp 5, .tmp 6]) rfl ?_); at_builtin; refine Kd.R_append_rows (Kd.int .i64) (w0 := w) w.heap.size rfl (.tmp 5) (.tmp 6) 23 3 (.int .i64 0) 8 rfl Tryz.underlying23 info3 rfl (by decide) (by omega) v325 y324 l0 _ _ _ (fun _ => True) (fun _ => False) rfl rfl ?aO ?aR (fun _ _ h => h) (fun _ h => h.elim) ?aF ?aB ?aS ?aL ?_; (case aR => repeat (first | exact (Kd.C_below HR0.out HB.out) | (with_reducible refine Kd.C_alloc ?_ _) | (with_reducible refine Kd.C_drewN ?_ _) | (with_reducible refine Kd.C_drew ?_))); (case aB => exact ab1); (case aF => exact (fun _ _ => trivial)); (case aO => exact (ab8 HO326)); (case aS => exact (below_size ab1)); (case aL => have := LMc2.out; omega); intro v328 w5 ho hb hg hat; rw [← Ny327.out] at ho; replace HB := am hb; have HO329 := am ho; clear HO326; clear ho hb hg hat))
 go_ret
 exact ⟨_, ab7, ab8 HO329, ab1⟩
section
open Go.Proofs.YtekkalnafngfeaaGreatW.PrintMore
/-- An item as it lies in an elder world. -/
def kSh (w0 : World) : Kd S53 where
 sz := 7
 E := k53.E
 K := fun _ x cs => k53.K w0 x cs
 M := fun _ _ _ x cs => k53.K w0 x cs
 K_len := fun h => k53.K_len h
 K_one := fun h => k53.K_one h
 K_below := fun _ h => h
 K_of_M := fun h => h
 M_mono := fun _ h => h
 M_bound := fun h => h
 M_move := fun _ h => h
 M_lower := fun _ h => h
theorem sh_C {w0 W : World} {A : Option Addr} {n : Nat} {xs : List S53} (h : Kd.C k53 w0 A n xs) (hb : Below w0.heap.size w0 W) : Kd.C (kSh w0) W A n xs := ReadsRow.imp_ h hb (fun _ _ hp => hp)
/-- An item that lies in an elder world (false), or has rows of its own (true). -/
def kF (w0 : World) : Kd (S53 × Bool) where
 sz := 7
 E := k53.E
 K := fun w x cs => match x.2 with | true => k53.K w x.1 cs | false => k53.K w0 x.1 cs
 M := fun w base ok x cs => match x.2 with | true => k53.M w base ok x.1 cs | false => k53.K w0 x.1 cs
 K_len := fun {w x cs} h => by rcases x with ⟨y, _ | _⟩ <;> exact k53.K_len h
 K_one := fun {w x cs} h => by rcases x with ⟨y, _ | _⟩ <;> exact k53.K_one h
 K_below := fun {w w1 x cs} hb h => by
  rcases x with ⟨y, _ | _⟩
  ·exact h
  ·exact k53.K_below hb h
 K_of_M := fun {w base ok x cs} h => by
  rcases x with ⟨y, _ | _⟩
  ·exact h
  ·exact k53.K_of_M h
 M_mono := fun {w base ok ok' x cs} hok h => by
  rcases x with ⟨y, _ | _⟩
  ·exact h
  ·exact k53.M_mono hok h
 M_bound := fun {w base ok x cs} h => by
  rcases x with ⟨y, _ | _⟩
  ·exact h
  ·exact k53.M_bound h
 M_move := fun {w w1 base ok x cs} hm h => by
  rcases x with ⟨y, _ | _⟩
  ·exact h
  ·exact k53.M_move hm h
 M_lower := fun {w base base' ok x cs} hb h => by
  rcases x with ⟨y, _ | _⟩
  ·exact h
  ·exact k53.M_lower hb h
/-- The items, the first i of which have rows of their own. -/
def Zc (l : List S53) (i : Nat) : List (S53 × Bool) := l.zipIdx.map fun p => (p.1, decide (p.2 < i))
theorem Zc_length (l : List S53) (i : Nat) : (Zc l i).length = l.length := by simp [Zc]
theorem Zc_at (l : List S53) (i j : Nat) (h : j < l.length) : (Zc l i)[j]? = some (l[j], decide (j < i)) := by
 unfold Zc
 rw [List.getElem?_map, List.getElem?_zipIdx, List.getElem?_eq_getElem h]
 simp
theorem Zc_set (l : List S53) (i : Nat) (h : i < l.length) : (Zc l i).set i (l[i], true) = Zc l (i + 1) := by
 apply List.ext_getElem?
 intro j
 by_cases hj : j < l.length
 ·rw [Zc_at l (i + 1) j hj]
  by_cases e : i = j
  ·subst e
   rw [List.getElem?_set_self (by rw [Zc_length]; exact h), decide_eq_true (by omega)]
  ·rw [List.getElem?_set_ne e, Zc_at l i j hj]
   congr 2
   exact decide_eq_decide.2 (by omega)
 ·rw [List.getElem?_eq_none (by rw [List.length_set, Zc_length]; omega), List.getElem?_eq_none (by rw [Zc_length]; omega)]
section
variable {w W W1 W2 : World} {base n cap g : Nat} {ok : Nat → Prop} {v : Value} {l : List S53}
theorem Zc_of_sh (h : Kd.R (kSh w) 53 W base ok v l) : Kd.S (kF w) 53 W base ok v (Zc l 0) := by
 obtain ⟨h0, inner, ho, hr⟩ := h
 refine ⟨fun _ => 0, h0, inner, by rw [List.length_zipIdx, Zc_length]; exact ho, by have := hr.1; rw [List.length_zipIdx, Zc_length]; exact this, fun j p hj => ?_⟩
 rw [List.getElem?_zipIdx] at hj
 obtain ⟨q, hq, rfl⟩ := Option.map_eq_some_iff.1 hj
 have hjl : j < l.length := by have := (List.getElem?_eq_some_iff.1 hq).1; rwa [Zc_length] at this
 rw [Zc_at l 0 j hjl] at hq
 injection hq with hq
 subst hq
 exact hr.2 j _ (List.getElem?_eq_getElem hjl)
theorem Zc_full (h : Kd.S (kF w) 53 W base ok v (Zc l l.length)) : Kd.S k53 53 W base ok v l := by
 obtain ⟨f, h0, inner, ho, hr⟩ := h
 refine ⟨f, h0, inner, by rw [List.length_zipIdx]; rw [List.length_zipIdx, Zc_length] at ho; exact ho, by have := hr.1; rw [List.length_zipIdx, Zc_length] at this; rw [List.length_zipIdx]; exact this, fun j p hj => ?_⟩
 rw [List.getElem?_zipIdx] at hj
 obtain ⟨q, hq, rfl⟩ := Option.map_eq_some_iff.1 hj
 obtain ⟨hjl, hqe⟩ := List.getElem?_eq_some_iff.1 hq
 have hz := hr.2 j ((l[j], true), 0 + j) (by rw [List.getElem?_zipIdx, Zc_at l l.length j hjl, decide_eq_true hjl]; rfl)
 rw [← hqe]
 exact hz
theorem rd_get (l : List S53) (x : Int) (h : x.toNat < l.length) : rd_T53 l x = l[x.toNat] := by
 unfold rd_T53
 rw [List.getD_eq_getElem?_getD, List.getElem?_eq_getElem h]
 rfl
/-- The item ahead: its cells, what its rows say in the elder world, the row without it. -/
theorem cp_open {x : Int} (HO : Kd.S (kF w) 53 W base ok (.slice (some ⟨g, 0, none⟩) n cap) (Zc l x.toNat)) (h0 : 0 ≤ x) (h1 : x < (l.length : Int)) (hn : n = l.length) :
  ∃ (oki : Nat → Prop) (A3 A6 : Option Addr) (c3 c6 : Nat), (∀ k, oki k → ok k ∧ k ≠ g) ∧
   Kd.H (kF w) 53 W base ok (.slice (some ⟨g, 0, none⟩) n cap) (Zc l x.toNat) x oki [.int .i64 (rd_T53 l x).f0, .int .i64 (rd_T53 l x).f1, .string (rd_T53 l x).f2, .slice A3 (rd_T53 l x).f3.length c3, .string (rd_T53 l x).f4, .int .i64 (rd_T53 l x).f5, .slice A6 (rd_T53 l x).f6.length c6] ∧
   W.cell? ⟨g, x.toNat * 7 + 3, none⟩ = some (.slice A3 (rd_T53 l x).f3.length c3) ∧ W.frozen? ⟨g, x.toNat * 7 + 3, none⟩ = false ∧ W.cell? ⟨g, x.toNat * 7 + 6, none⟩ = some (.slice A6 (rd_T53 l x).f6.length c6) ∧ W.frozen? ⟨g, x.toNat * 7 + 6, none⟩ = false ∧
   (rd_T53 l x).f3.length ≤ c3 ∧ Kd.C k56 w A3 (rd_T53 l x).f3.length (rd_T53 l x).f3 ∧ (rd_T53 l x).f6.length ≤ c6 ∧ Kd.C (Kd.int .i64) w A6 (rd_T53 l x).f6.length (rd_T53 l x).f6 := by
 obtain ⟨oki, c, hcl, hM, hcc, hfr, hoki, hH⟩ := Kd.S_elem HO (z53, false) x h0 (by omega)
 have hil : x.toNat < l.length := by omega
 have e : (Zc l x.toNat).getD x.toNat (z53, false) = (rd_T53 l x, false) := by
  rw [List.getD_eq_getElem?_getD, Zc_at l x.toNat x.toNat hil, decide_eq_false (Nat.lt_irrefl _), rd_get l x hil]
  rfl
 rw [e] at hM
 obtain ⟨A3, c3, A6, c6, rfl, l3, g3, l6, g6⟩ := k53_open (show k53.K w (rd_T53 l x) c from hM)
 exact ⟨oki, A3, A6, c3, c6, hoki, hH, hcc 3 _ rfl, hfr 3, hcc 6 _ rfl, hfr 6, l3, g3, l6, g6⟩
/-- Behind the first store: the attributes are the item's own. -/
theorem cp_store1 {x : Int} {oki : Nat → Prop} {A3 A6 : Option Addr} {c3 c6 : Nat} {v3 : Value} {r3 : List S56} (hoki : ∀ k, oki k → ok k ∧ k ≠ g)
  (hH : Kd.H (kF w) 53 W base ok (.slice (some ⟨g, 0, none⟩) n cap) (Zc l x.toNat) x oki [.int .i64 (rd_T53 l x).f0, .int .i64 (rd_T53 l x).f1, .string (rd_T53 l x).f2, .slice A3 (rd_T53 l x).f3.length c3, .string (rd_T53 l x).f4, .int .i64 (rd_T53 l x).f5, .slice A6 (rd_T53 l x).f6.length c6]) (h0 : 0 ≤ x) (h1 : x < n) (hb : Below W.heap.size W W2) (hg : g < W.heap.size) (hok : ∀ k, W.heap.size ≤ k → ok k) (hbase : base ≤ W.heap.size)
  (hv : Kd.R k56 56 W2 W.heap.size (fun _ => True) v3 r3) :
  ∃ ok1 : Nat → Prop, (∀ k, ok1 k → ok k ∧ k ≠ g) ∧ Kd.H (kF w) 53 (W2.setCell ⟨g, x.toNat * 7 + 3, none⟩ v3) base ok (.slice (some ⟨g, 0, none⟩) n cap) (Zc l x.toNat) x ok1 [.int .i64 (rd_T53 l x).f0, .int .i64 (rd_T53 l x).f1, .string (rd_T53 l x).f2, v3, .string (rd_T53 l x).f4, .int .i64 (rd_T53 l x).f5, .slice A6 (rd_T53 l x).f6.length c6] ∧
   Kd.R k56 56 (W2.setCell ⟨g, x.toNat * 7 + 3, none⟩ v3) base ok1 v3 r3 ∧ W2.grownBy (W2.setCell ⟨g, x.toNat * 7 + 3, none⟩ v3) (some g) := by
 have h2 := Kd.H_below (Kd.H_widen hH) hb
 have hv' := Kd.R_lower (Kd.R_mono (Kd.R_bound hv) (fun k hk => (⟨hk.2.1, hk.2.2.1⟩ : W.heap.size ≤ k ∧ k < W2.heap.size))) hbase
 obtain ⟨_, hone⟩ := Kd.R_val hv
 obtain ⟨h3, h4⟩ := Kd.H_seg h2 h0 h1 (seg := [v3]) (j := 3) (by show 3 + 1 ≤ 7; omega) (fun q hq => by rw [List.mem_singleton] at hq; subst hq; exact hone)
 refine ⟨_, fun k hk => ?_, h3, Kd.R_mono (Kd.R_far hv' (fun k hk => by show k ≠ g; omega) v3) (fun k hk => Or.inr ⟨hok k hk.1, hk.1⟩), h4⟩
 rcases hk with hk | hk
 ·exact hoki k hk
 ·exact ⟨hk.1, by omega⟩
/-- Behind the second store: the item is the row's own. -/
theorem cp_store2 {x : Int} {ok1 : Nat → Prop} {A6 : Option Addr} {c6 : Nat} {v3 v6 : Value} (hok1 : ∀ k, ok1 k → ok k ∧ k ≠ g)
  (hH : Kd.H (kF w) 53 W base ok (.slice (some ⟨g, 0, none⟩) n cap) (Zc l x.toNat) x ok1 [.int .i64 (rd_T53 l x).f0, .int .i64 (rd_T53 l x).f1, .string (rd_T53 l x).f2, v3, .string (rd_T53 l x).f4, .int .i64 (rd_T53 l x).f5, .slice A6 (rd_T53 l x).f6.length c6]) (h0 : 0 ≤ x) (h1 : x < n) (hn : n = l.length) (hb : Below W.heap.size W W2) (hg : g < W.heap.size) (hok : ∀ k, W.heap.size ≤ k → ok k) (hbase : base ≤ W.heap.size)
  (hr : Kd.R k56 56 W base ok1 v3 (rd_T53 l x).f3) (hv : Kd.R (Kd.int .i64) 3 W2 W.heap.size (fun _ => True) v6 (rd_T53 l x).f6) :
  Kd.S (kF w) 53 (W2.setCell ⟨g, x.toNat * 7 + 6, none⟩ v6) base ok (.slice (some ⟨g, 0, none⟩) n cap) (Zc l (x.toNat + 1)) ∧ W2.grownBy (W2.setCell ⟨g, x.toNat * 7 + 6, none⟩ v6) (some g) := by
 have h2 := Kd.H_below (Kd.H_widen hH) hb
 have hv' := Kd.R_lower (Kd.R_mono (Kd.R_bound hv) (fun k hk => (⟨hk.2.1, hk.2.2.1⟩ : W.heap.size ≤ k ∧ k < W2.heap.size))) hbase
 obtain ⟨_, hone⟩ := Kd.R_val hv
 obtain ⟨h3, h4⟩ := Kd.H_seg h2 h0 h1 (seg := [v6]) (j := 6) (by show 6 + 1 ≤ 7; omega) (fun q hq => by rw [List.mem_singleton] at hq; subst hq; exact hone)
 have g6 := Kd.R_far hv' (p := ⟨g, x.toNat * 7 + 6, none⟩) (fun k hk => by show k ≠ g; omega) v6
 have g3 := Kd.R_far (Kd.R_below hr hb) (p := ⟨g, x.toNat * 7 + 6, none⟩) (fun k hk => (hok1 k hk).2) v6
 have hM := k53_mkM (W2.setCell ⟨g, x.toNat * 7 + 6, none⟩ v6) base (fun k => ok1 k ∨ ok k ∧ W.heap.size ≤ k) (rd_T53 l x) (Kd.R_mono g3 (fun k hk => Or.inl hk)) (Kd.R_mono g6 (fun k hk => Or.inr ⟨hok k hk.1, hk.1⟩))
 have hil : x.toNat < l.length := by omega
 refine ⟨?_, h4⟩
 rw [← Zc_set l x.toNat hil, ← rd_get l x hil]
 exact Kd.H_back h3 (x' := (rd_T53 l x, true)) hM (fun k hk => hk)
end
end
def impl_Item.f (l0 : List (S53)) : Option ((List (S53))) := (some (([] : List (S53)) : List (S53))).bind fun y336 => (if y336.length + l0.length < 1353245080339 then (some (y336 ++ l0)) else (none))
theorem impl_Item.calls (A0 : Option Addr) (c0 : Nat) (l0 : List (S53)) (r : List (S53)) (w : World) (hr0 : Kd.C k53 w A0 l0.length l0) (hc0 : l0.length ≤ c0) (h : impl_Item.f l0 = some r) :
  Calls Tryz.prog 85 #[.slice A0 l0.length c0] w fun e w' => ∃ v0_ : Value, e = .returned (v0_) ∧ Kd.R (kSh w) 53 w' w.heap.size (fun _ => True) v0_ r ∧ Below w.heap.size w w' := by
 have HR0 := am hr0
 have HC0 := am hc0
 clear hr0 hc0
 have HB := am (Below.refl w.heap.size w)
 have H : ((some (([] : List (S53)) : List (S53))).bind fun y336 => (if y336.length + l0.length < 1353245080339 then (some (y336 ++ l0)) else (none))) = some r := h
 clear h
 obtain ⟨y336, hy336⟩ : ∃ y_ : List (S53), y_ = (([] : List (S53))) := ⟨_, rfl⟩
 replace H : (if y336.length + l0.length < 1353245080339 then (some (y336 ++ l0)) else (none)) = some r := by first | (rw [hy336]; with_reducible exact H) | (have H2_ := (Option.bind_some _ _).symm.trans H; rw [hy336]; with_reducible exact H2_) | (have H2_ := (Option.bind_some _ _).symm.trans H; with_reducible exact H2_) | with_reducible exact H | (rw [hy336]; exact H) | exact H
 have Ny336 := am hy336
 clear hy336
 by_cases c2 : y336.length + l0.length < 1353245080339
 case neg => rw [if_neg c2] at H; exact absurd H (by simp)
 rw [if_pos c2] at H
 have LMc2 := am c2
 clear c2
 obtain ⟨y339, hy339⟩ : ∃ y_ : List (S53), y_ = (y336 ++ l0) := ⟨_, rfl⟩
 replace H : (some y339) = some r := by first | (rw [hy339]; with_reducible exact H) | (have H2_ := (Option.bind_some _ _).symm.trans H; rw [hy339]; with_reducible exact H2_) | (have H2_ := (Option.bind_some _ _).symm.trans H; with_reducible exact H2_) | with_reducible exact H | (rw [hy339]; exact H) | exact H
 have Ny339 := am hy339
 clear hy339
 obtain rfl := Option.some.inj H
 rcases A0 with _ | ad0
 ·have hl0 : l0 = [] := by
   have h1 := HR0.out.2.2
   cases l0 with
   | nil => rfl
   | cons x xs => obtain ⟨ad, he, _⟩ := h1 (Nat.succ_pos _); cases he
  subst hl0
  have e1_ := Ny336.out; subst e1_
  have e2_ := Ny339.out; subst e2_
  have hnil : ∀ W, (binOp .eql 29 (.slice none 0 c0) (.slice none 0 0)).run Tryz.prog W = .ok (.bool true) W := fun W => Lib.run_eql_slice_nil (h := Tryz.underlying29) ..
  go_enter Tryz.func85, Tryz.ntmps85
  go_wp2
  go_ret
  exact ⟨_, rfl, Kd.R_nil _ _ _ _ _, ab1⟩
 have hnil : ∀ W, (binOp .eql 29 (.slice (some ad0) l0.length c0) (.slice none 0 0)).run Tryz.prog W = .ok (.bool false) W := fun W => Lib.run_eql_slice_nil (h := Tryz.underlying29) ..
 go_enter Tryz.func85, Tryz.ntmps85
 go_wp2_with (first | ((with_reducible refine gate_dst (N := 5) rfl ?_); refine Kd.R_lit (kSh w) _ 53 ?hg (N := 5) ?hd (xs := ([] : List (S53))) (inner := []) (ok := fun _ => True) (okp := fun _ => True) ?hr ?hp (fun _ hk => hk) trivial (Below.refl _ _) (Nat.le_refl _) (by simp) ?_; (case hd => rfl); (case hg => rfl); (case hr => first | (go_simp; done) | (go_simp; rfl)); (case hp => exact (Reps.none _ _)); intro v337 w3 ho4 hb hg_ hnew_; clear hg_ hnew_; (first | rw [← Ny336.out] at ho4 | (simp only [Int.reduceToNat] at ho4; rw [← Ny336.out] at ho4)); have HO338 := am (Kd.R_lower ho4 (below_size ab1)); replace HB := am (below_step ab1 hb); clear hb ho4) | ((with_reducible refine gate_builtin (b := .append) (xs := #[.tmp 5, .tmp 6]) rfl ?_); at_builtin; refine Kd.R_append_rows (kSh w) (w0 := w) w.heap.size rfl (.tmp 5) (.tmp 6) 29 53 (.agg #[(.int .i64 0), (.int .i64 0), (.string ⟨#[]⟩), (.slice none 0 0), (.string ⟨#[]⟩), (.int .i64 0), (.slice none 0 0)]) 104 rfl Tryz.underlying29 info53 rfl (Nat.succ_pos 6) (by omega) v337 y336 l0 _ _ _ (fun _ => True) (fun _ => False) rfl rfl ?aO ?aR (fun _ _ h => h) (fun _ h => h.elim) ?aF ?aB ?aS ?aL ?_; (case aR => exact sh_C HR0.out ab1); (case aB => exact ab1); (case aF => exact (fun _ _ => trivial)); (case aO => exact (ab8 HO338)); (case aS => exact (below_size ab1)); (case aL => have := LMc2.out; omega); intro v340 w5 ho hb hg hat; rw [← Ny339.out] at ho; replace HB := am hb; have HO341 := am ho; clear HO338; clear ho hb hg hat))
 go_ret
 exact ⟨_, ab7, ab8 HO341, ab1⟩
def impl_Attr_105.f (l0 : List (S56)) : Option ((List (S56))) := (some (([] : List (S56)) : List (S56))).bind fun y336 => (if y336.length + l0.length < 4398046511104 then (some (y336 ++ l0)) else (none))
theorem impl_Attr_105.calls (A0 : Option Addr) (c0 : Nat) (l0 : List (S56)) (r : List (S56)) (w : World) (hr0 : Kd.C k56 w A0 l0.length l0) (hc0 : l0.length ≤ c0) (h : impl_Attr_105.f l0 = some r) :
  Calls Tryz.prog 105 #[.slice A0 l0.length c0] w fun e w' => ∃ v0_ : Value, e = .returned (v0_) ∧ Kd.R k56 56 w' w.heap.size (fun _ => True) v0_ r ∧ Below w.heap.size w w' := by
 have HR0 := am hr0
 have HC0 := am hc0
 clear hr0 hc0
 have HB := am (Below.refl w.heap.size w)
 have H : ((some (([] : List (S56)) : List (S56))).bind fun y336 => (if y336.length + l0.length < 4398046511104 then (some (y336 ++ l0)) else (none))) = some r := h
 clear h
 obtain ⟨y336, hy336⟩ : ∃ y_ : List (S56), y_ = (([] : List (S56))) := ⟨_, rfl⟩
 replace H : (if y336.length + l0.length < 4398046511104 then (some (y336 ++ l0)) else (none)) = some r := by first | (rw [hy336]; with_reducible exact H) | (have H2_ := (Option.bind_some _ _).symm.trans H; rw [hy336]; with_reducible exact H2_) | (have H2_ := (Option.bind_some _ _).symm.trans H; with_reducible exact H2_) | with_reducible exact H | (rw [hy336]; exact H) | exact H
 have Ny336 := am hy336
 clear hy336
 by_cases c2 : y336.length + l0.length < 4398046511104
 case neg => rw [if_neg c2] at H; exact absurd H (by simp)
 rw [if_pos c2] at H
 have LMc2 := am c2
 clear c2
 obtain ⟨y339, hy339⟩ : ∃ y_ : List (S56), y_ = (y336 ++ l0) := ⟨_, rfl⟩
 replace H : (some y339) = some r := by first | (rw [hy339]; with_reducible exact H) | (have H2_ := (Option.bind_some _ _).symm.trans H; rw [hy339]; with_reducible exact H2_) | (have H2_ := (Option.bind_some _ _).symm.trans H; with_reducible exact H2_) | with_reducible exact H | (rw [hy339]; exact H) | exact H
 have Ny339 := am hy339
 clear hy339
 obtain rfl := Option.some.inj H
 rcases A0 with _ | ad0
 ·have hl0 : l0 = [] := by
   have h1 := HR0.out.2.2
   cases l0 with
   | nil => rfl
   | cons x xs => obtain ⟨ad, he, _⟩ := h1 (Nat.succ_pos _); cases he
  subst hl0
  have e1_ := Ny336.out; subst e1_
  have e2_ := Ny339.out; subst e2_
  have hnil : ∀ W, (binOp .eql 34 (.slice none 0 c0) (.slice none 0 0)).run Tryz.prog W = .ok (.bool true) W := fun W => Lib.run_eql_slice_nil (h := Tryz.underlying34) ..
  go_enter Tryz.func105, Tryz.ntmps105
  go_wp2
  go_ret
  exact ⟨_, rfl, Kd.R_nil _ _ _ _ _, ab1⟩
 have hnil : ∀ W, (binOp .eql 34 (.slice (some ad0) l0.length c0) (.slice none 0 0)).run Tryz.prog W = .ok (.bool false) W := fun W => Lib.run_eql_slice_nil (h := Tryz.underlying34) ..
 go_enter Tryz.func105, Tryz.ntmps105
 go_wp2_with (first | ((with_reducible refine gate_dst (N := 5) rfl ?_); refine Kd.R_lit k56 _ 56 ?hg (N := 5) ?hd (xs := ([] : List (S56))) (inner := []) (ok := fun _ => True) (okp := fun _ => True) ?hr ?hp (fun _ hk => hk) trivial (Below.refl _ _) (Nat.le_refl _) (by simp) ?_; (case hd => rfl); (case hg => rfl); (case hr => first | (go_simp; done) | (go_simp; rfl)); (case hp => exact (Reps.none _ _)); intro v337 w3 ho4 hb hg_ hnew_; clear hg_ hnew_; (first | rw [← Ny336.out] at ho4 | (simp only [Int.reduceToNat] at ho4; rw [← Ny336.out] at ho4)); have HO338 := am (Kd.R_lower ho4 (below_size ab1)); replace HB := am (below_step ab1 hb); clear hb ho4) | ((with_reducible refine gate_builtin (b := .append) (xs := #[.tmp 5, .tmp 6]) rfl ?_); at_builtin; refine Kd.R_append_rows k56 (w0 := w) w.heap.size rfl (.tmp 5) (.tmp 6) 34 56 (.agg #[(.string ⟨#[]⟩), (.string ⟨#[]⟩)]) 32 rfl Tryz.underlying34 info56 rfl (by decide) (by omega) v337 y336 l0 _ _ _ (fun _ => True) (fun _ => False) rfl rfl ?aO ?aR (fun _ _ h => h) (fun _ h => h.elim) ?aF ?aB ?aS ?aL ?_; (case aR => repeat (first | exact (Kd.C_below HR0.out HB.out) | (with_reducible refine Kd.C_alloc ?_ _) | (with_reducible refine Kd.C_drewN ?_ _) | (with_reducible refine Kd.C_drew ?_))); (case aB => exact ab1); (case aF => exact (fun _ _ => trivial)); (case aO => exact (ab8 HO338)); (case aS => exact (below_size ab1)); (case aL => have := LMc2.out; omega); intro v340 w5 ho hb hg hat; rw [← Ny339.out] at ho; replace HB := am hb; have HO341 := am ho; clear HO338; clear ho hb hg hat))
 go_ret
 exact ⟨_, ab7, ab8 HO341, ab1⟩
def impl_copyAttrs.f (l0 : List (S56)) : Option ((List (S56))) := (impl_Attr_105.f l0).bind fun t398 => (some t398)
theorem impl_copyAttrs.calls (A0 : Option Addr) (c0 : Nat) (l0 : List (S56)) (r : List (S56)) (w : World) (hr0 : Kd.C k56 w A0 l0.length l0) (hc0 : l0.length ≤ c0) (h : impl_copyAttrs.f l0 = some r) :
  Calls Tryz.prog 86 #[.slice A0 l0.length c0] w fun e w' => ∃ v0_ : Value, e = .returned (v0_) ∧ Kd.R k56 56 w' w.heap.size (fun _ => True) v0_ r ∧ Below w.heap.size w w' := by
 have HR0 := am hr0
 have HC0 := am hc0
 clear hr0 hc0
 have HB := am (Below.refl w.heap.size w)
 have H : ((impl_Attr_105.f l0).bind fun t398 => (some t398)) = some r := h
 clear h
 replace H := bi_ H; obtain ⟨t398, A2, H⟩ := H
 obtain rfl := Option.some.inj H
 go_enter Tryz.func86, Tryz.ntmps86
 go_wp2_with (first | ((with_reducible refine gf_ 105 ?_); refine gx_ Tryz.func105 (impl_Attr_105.calls _ _ l0 t398 _ ?side1 HC0.out A2.out) ?_; (case side1 => exact (by repeat (first | exact HR0.out | (with_reducible refine Kd.C_alloc ?_ _) | (with_reducible refine Kd.C_drewN ?_ _) | (with_reducible refine Kd.C_drew ?_)))); rintro v399 w3 ⟨ho0, hb⟩; have HO400 := am (Kd.R_lower ho0 (below_size ab1)); replace HB := am (below_step ab1 hb); (try clear hb); (try clear ho0)))
 go_ret
 exact ⟨_, ab7, ab8 HO400, ab1⟩
def impl_copyItems.f (l0 : List (S53)) : Option (List (S53)) := if l0.length < 1353245080339 then (if (l0.all fun x => decide (x.f3.length < 4398046511104) && decide (x.f6.length < 17592186044416)) = true then some l0 else none) else none
theorem impl_copyItems.calls (A0 : Option Addr) (c0 : Nat) (l0 : List (S53)) (r : List (S53)) (w : World) (hr0 : Kd.C k53 w A0 l0.length l0) (hc0 : l0.length ≤ c0) (h : impl_copyItems.f l0 = some r) :
  Calls Tryz.prog 59 #[.slice A0 l0.length c0] w fun e w' => ∃ v0_ : Value, e = .returned (v0_) ∧ Kd.S k53 53 w' w.heap.size (fun _ => True) v0_ r ∧ Below w.heap.size w w' := by
 have HR0 := am hr0
 have HC0 := am hc0
 clear hr0 hc0
 have HB := am (Below.refl w.heap.size w)
 unfold impl_copyItems.f at h
 by_cases cA : l0.length < 1353245080339
 case neg => rw [if_neg cA] at h; exact absurd h (by simp)
 rw [if_pos cA] at h
 by_cases cB : (l0.all fun x => decide (x.f3.length < 4398046511104) && decide (x.f6.length < 17592186044416)) = true
 case neg => rw [if_neg cB] at h; exact absurd h (by simp)
 rw [if_pos cB] at h
 obtain rfl := Option.some.inj h
 clear h
 have A1 := am (show impl_Item.f l0 = some l0 from by unfold impl_Item.f; simp only [Option.bind_some, List.length_nil, Nat.zero_add, List.nil_append]; rw [if_pos cA])
 have LA := am (fun x hx => (by have := List.all_eq_true.mp cB x hx; rw [Bool.and_eq_true, decide_eq_true_eq, decide_eq_true_eq] at this; exact this : x.f3.length < 4398046511104 ∧ x.f6.length < 17592186044416) : ∀ x ∈ l0, _)
 clear cA cB
 go_enter Tryz.func59, Tryz.ntmps59
 go_wp2_with (first | ((with_reducible refine gf_ 85 ?_); refine gx_ Tryz.func85 (impl_Item.calls _ _ l0 l0 _ HR0.out HC0.out A1.out) ?_; rintro v346 w3 ⟨ho0, hb⟩; have HO := am (Kd.S_mono (Kd.S_bound (Zc_of_sh ho0)) (fun k hk => hk.2.1) : Kd.S (kF w) 53 w3 w.heap.size (fun k => w.heap.size ≤ k) v346 (Zc l0 0)); clear HB; have HB := am hb; clear hb ho0; obtain ⟨Ao4, co4, eo4⟩ := Kd.S_slice HO.out; rw [Zc_length] at eo4; subst eo4))
 go_loopg [9] (l0.length + 1) (fun kq v9 w' => ∃ (x9_1 : Int), v9 = .int .i64 x9_1 ∧ Aside0 (0 ≤ x9_1 ∧ x9_1.toNat + kq = l0.length + 1 ∧ x9_1.toNat ≤ l0.length) ∧ Aside0 (Kd.S (kF w) 53 w' w.heap.size (fun k => w.heap.size ≤ k) (.slice Ao4 l0.length co4) (Zc l0 x9_1.toNat)) ∧ Aside0 (Below w.heap.size w w'))
 case atStart => exact ⟨0, ab6, ⟨by omega, by show 0 + _ = _; omega, by show 0 ≤ _; omega⟩, HO, ⟨ab1⟩⟩
 case round =>
  clear HO
  obtain ⟨x9_1, rfl, HI, HO, HB⟩ := hrel
  by_cases c5 : x9_1 < (l0.length : Int)
  ·have c5b0 : decide (x9_1 < (l0.length : Int)) = true := decide_eq_true c5
   have c6 : 0 ≤ x9_1 := HI.out.1
   have C5 := am c5
   have C6 := am c6
   obtain ⟨g, cap, eg, gb, gl, cl, HG⟩ := Kd.S_form HO.out (by rw [Zc_length]; omega)
   rw [Zc_length] at eg
   injection eg with ea_ en_ ec_
   subst ea_
   subst ec_
   clear en_
   have GB := am gb
   have GL := am gl
   clear gb gl HG
   obtain ⟨oki, A3, A6, c3, c6_, hoki, hH, hx3, hf3, hx6, hf6, l3, g3, l6, g6⟩ := cp_open HO.out c6 c5 rfl
   have HOK := am hoki
   have HH := am hH
   have G3 := am g3
   have L3 := am l3
   have G6 := am g6
   have L6 := am l6
   clear hoki hH g3 l3 g6 l6 HO
   have HL := am (LA.out (rd_T53 l0 x9_1) (by rw [rd_get l0 x9_1 (by omega)]; exact List.getElem_mem _))
   have B3 := am (show impl_copyAttrs.f (rd_T53 l0 x9_1).f3 = some (rd_T53 l0 x9_1).f3 from by unfold impl_copyAttrs.f; simp only [impl_Attr_105.f, Option.bind_some, List.length_nil, Nat.zero_add, List.nil_append]; rw [if_pos HL.out.1]; rfl)
   have B6 := am (show slices_Clone_int_int.f (rd_T53 l0 x9_1).f6 = some (rd_T53 l0 x9_1).f6 from by unfold slices_Clone_int_int.f; simp only [Option.bind_some, List.length_nil, Nat.zero_add, List.nil_append]; rw [if_pos HL.out.2])
   clear HL
   have HW := am (rfl : wr = wr)
   replace c6 := eq_true c6
   replace c5 := eq_true c5
   go_wp2_with (first | ((with_reducible refine gf_ 86 ?_); refine gx_ Tryz.func86 (impl_copyAttrs.calls _ _ (rd_T53 l0 x9_1).f3 (rd_T53 l0 x9_1).f3 _ (Kd.C_below G3.out HB.out) (L3.out) B3.out) ?_; rintro v350 w12 ⟨ho0, hb⟩; obtain ⟨Ao5, co5, eo5⟩ := Kd.R_slice ho0; subst eo5; have HN := am (cp_store1 HOK.out HH.out C6.out C5.out hb GL.out (fun k hk => Nat.le_trans (below_size HB.out) hk) (below_size HB.out) ho0); replace hx3 := (hb.cell (World.block_lt_of_cell? _ _ hx3)).trans hx3; replace hx6 := (hb.cell (World.block_lt_of_cell? _ _ hx6)).trans hx6; replace hf3 := (hb.frozen GL.out).trans hf3; replace hf6 := (hb.frozen GL.out).trans hf6; replace HB := am (below_step HB.out hb); clear HH HOK; have GL2 := am (Nat.lt_of_lt_of_le GL.out hb.size); clear hb ho0) | ((with_reducible refine gate_callee (f := 60) rfl ?_); (generalize hw_ : w12.setCell ⟨g, x9_1.toNat * 7 + 3, none⟩ (.slice Ao5 (rd_T53 l0 x9_1).f3.length co5) = w13); have hw := hw_.symm; clear hw_; obtain ⟨ok1, q1, q2, q3, q4⟩ := HN.out; rw [← hw] at q2 q3 q4; have HOK := am q1; have HH := am q2; have HV3 := am q3; clear q1 q2 q3 HN; have hx6' : w13.cell? ⟨g, x9_1.toNat * 7 + 6, none⟩ = some (.slice A6 (rd_T53 l0 x9_1).f6.length c6_) := (by rw [hw]; exact (World.cell?_setCell_other _ _ _ _ (by intro e_; injection e_; omega)).trans hx6); have hf6' : w13.frozen? ⟨g, x9_1.toNat * 7 + 6, none⟩ = false := (by rw [hw, World.frozen?_setCell]; exact hf6); have GL3 := am (show g < w13.heap.size from by rw [hw, World.size_setCell]; exact GL2.out); replace HB := am ((by rw [hw]; exact below_set HB.out GB.out : Below w.heap.size w w13)); clear hx3 hf3 hx6 hf6 q4 hw; have hx6 := hx6'; have hf6 := hf6'; clear hx6' hf6'; refine goesL_ (some 29) rfl rfl Tryz.func60 (by kernel_rfl) rfl #[.slice A6 (rd_T53 l0 x9_1).f6.length c6_] rfl ab5 ?_; (with_reducible refine (slices_Clone_int_int.calls _ _ (rd_T53 l0 x9_1).f6 (rd_T53 l0 x9_1).f6 _ (Kd.C_below G6.out HB.out) (L6.out) B6.out).mono ?_); rintro e w14 ⟨v354, rfl, ho0, hb⟩; refine ⟨_, rfl, ?_⟩; obtain ⟨Ao6, co6, eo6⟩ := Kd.R_slice ho0; subst eo6; have HN := am (cp_store2 HOK.out HH.out C6.out C5.out rfl hb GL3.out (fun k hk => Nat.le_trans (below_size HB.out) hk) (below_size HB.out) HV3.out ho0); replace hx6 := (hb.cell (World.block_lt_of_cell? _ _ hx6)).trans hx6; replace hf6 := (hb.frozen GL3.out).trans hf6; have n0_ := am (below_step HB.out hb); clear HB HH HOK HV3; have HB := n0_; clear n0_ hb ho0))
   go_roundg (l0.length - x9_1.toNat)
   case measure => have := HI.out; omega
   case rel => exact ⟨wrap64 (x9_1 + 1), ab6, by have := HI.out; have e1_ : wrap64 (x9_1 + 1) = x9_1 + 1 := (by have h1_ := C6.out; have h2_ := C5.out; have h3_ := HR0.out.2.1; unfold wrap64; omega); rw [e1_]; exact ⟨⟨by have := C6.out; omega, by have := C5.out; have := C6.out; omega, by have := C5.out; have := C6.out; omega⟩⟩, by have e1_ : (wrap64 (x9_1 + 1)).toNat = x9_1.toNat + 1 := (by have h1_ := C6.out; have e2_ : wrap64 (x9_1 + 1) = x9_1 + 1 := (by have h1_ := C6.out; have h2_ := C5.out; have h3_ := HR0.out.2.1; unfold wrap64; omega); rw [e2_]; omega); rw [e1_]; exact ⟨HN.out.1⟩, ⟨below_set HB.out GB.out⟩⟩
  ·have c5b0 : decide (x9_1 < (l0.length : Int)) = false := decide_eq_false c5
   have e_ : x9_1.toNat = l0.length := by have := HI.out; omega
   clear c5
   rw [e_] at HO
   go_wp2
   go_ret
   exact ⟨_, rfl, Kd.S_mono (Zc_full HO.out) (fun _ _ => trivial), ab1⟩
end Go.Proofs.YtekkalnafngfeaaGreat.P
