-- WRITTEN BY this session's own programs
import Derived.Test.YtekkalnafngfeaaGreatPr13
import Derived.Test.YtekkalnafngfeaaGreatPr44
import Derived.Test.YtekkalnafngfeaaGreatPr26
import Derived.Test.YtekkalnafngfeaaGreatPr15
import Derived.Test.YtekkalnafngfeaaGreatPr10
import Derived.Test.YtekkalnafngfeaaGreatPr2
import Derived.Test.YtekkalnafngfeaaGreatPr20
namespace Go.Proofs.YtekkalnafngfeaaGreat.P
open Go Go.RowKit Go.Proofs.YtekkalnafngfeaaGreatW.PrintWords Go.Proofs.YtekkalnafngfeaaGreatW.PrintLast Go.Proofs.YtekkalnafngfeaaGreatW.PrintMore
set_option linter.unusedVariables false
set_option linter.unusedSimpArgs false
set_option maxHeartbeats 8000000
set_option maxRecDepth 100000
set_option maxHeartbeats 16000000
attribute [local go_sem] max2_int min2_int max_two min_two max_three min_three max_four min_four
def spec_l6Add.f (l0 : List S53) (a1 a2 : Int) (a3_0 a3_1 : Int) (a3_2 : ByteArray) (l3_3 : List S56) (a3_4 : ByteArray) (a3_5 : Int) (l3_6 : List Int) : Option (List S53 × Int) :=
 (spec_l6Item.f a3_0 a3_1 a3_2 l3_3 a3_4 a3_5 l3_6).bind fun bt => if l0.length < 1353245080339 ∧ 0 ≤ a1 ∧ a1 < ((l0 ++ [(⟨bt.1, bt.2.1, bt.2.2.1, bt.2.2.2.1, bt.2.2.2.2.1, a1, ([] : List Int)⟩ : S53)]).length : Int) ∧ (rd_T53 (l0 ++ [(⟨bt.1, bt.2.1, bt.2.2.1, bt.2.2.2.1, bt.2.2.2.2.1, a1, ([] : List Int)⟩ : S53)]) a1).f6.length < 17592186044415 then
  some ((l0 ++ [(⟨bt.1, bt.2.1, bt.2.2.1, bt.2.2.2.1, bt.2.2.2.2.1, a1, ([] : List Int)⟩ : S53)]).set a1.toNat ⟨(rd_T53 (l0 ++ [(⟨bt.1, bt.2.1, bt.2.2.1, bt.2.2.2.1, bt.2.2.2.2.1, a1, ([] : List Int)⟩ : S53)]) a1).f0, (rd_T53 (l0 ++ [(⟨bt.1, bt.2.1, bt.2.2.1, bt.2.2.2.1, bt.2.2.2.2.1, a1, ([] : List Int)⟩ : S53)]) a1).f1, (rd_T53 (l0 ++ [(⟨bt.1, bt.2.1, bt.2.2.1, bt.2.2.2.1, bt.2.2.2.2.1, a1, ([] : List Int)⟩ : S53)]) a1).f2, (rd_T53 (l0 ++ [(⟨bt.1, bt.2.1, bt.2.2.1, bt.2.2.2.1, bt.2.2.2.2.1, a1, ([] : List Int)⟩ : S53)]) a1).f3, (rd_T53 (l0 ++ [(⟨bt.1, bt.2.1, bt.2.2.1, bt.2.2.2.1, bt.2.2.2.2.1, a1, ([] : List Int)⟩ : S53)]) a1).f4, (rd_T53 (l0 ++ [(⟨bt.1, bt.2.1, bt.2.2.1, bt.2.2.2.1, bt.2.2.2.2.1, a1, ([] : List Int)⟩ : S53)]) a1).f5, (rd_T53 (l0 ++ [(⟨bt.1, bt.2.1, bt.2.2.1, bt.2.2.2.1, bt.2.2.2.2.1, a1, ([] : List Int)⟩ : S53)]) a1).f6.take (hang_at a2 (rd_T53 (l0 ++ [(⟨bt.1, bt.2.1, bt.2.2.1, bt.2.2.2.1, bt.2.2.2.2.1, a1, ([] : List Int)⟩ : S53)]) a1).f6.length) ++ (l0.length : Int) :: (rd_T53 (l0 ++ [(⟨bt.1, bt.2.1, bt.2.2.1, bt.2.2.2.1, bt.2.2.2.2.1, a1, ([] : List Int)⟩ : S53)]) a1).f6.drop (hang_at a2 (rd_T53 (l0 ++ [(⟨bt.1, bt.2.1, bt.2.2.1, bt.2.2.2.1, bt.2.2.2.2.1, a1, ([] : List Int)⟩ : S53)]) a1).f6.length)⟩, (l0.length : Int)) else none
theorem spec_l6Add.calls (P0_ : Nat → Prop) (v0 : Value) (l0 : List S53) (a1 a2 : Int) (a3_0 a3_1 : Int) (a3_2 : ByteArray) (A3_3 : Option Addr) (c3_3 : Nat) (l3_3 : List S56) (a3_4 : ByteArray) (a3_5 : Int) (A3_6 : Option Addr) (c3_6 : Nat) (l3_6 : List Int) (r1 : List S53) (r2 : Int) (w0 w : World) (hB : Below w0.heap.size w0 w) (ho : Kd.S k53 53 w w0.heap.size P0_ v0 l0) (hr3 : Kd.C k56 w A3_3 l3_3.length l3_3) (hc3 : l3_3.length ≤ c3_3) (hr6 : Kd.C (Kd.int .i64) w A3_6 l3_6.length l3_6) (hc6 : l3_6.length ≤ c3_6) (h : spec_l6Add.f l0 a1 a2 a3_0 a3_1 a3_2 l3_3 a3_4 a3_5 l3_6 = some (r1, r2)) :
  Calls Tryz.prog 57 #[v0, .int .i64 a1, .int .i64 a2, .agg #[.int .i64 a3_0, .int .i64 a3_1, .string a3_2, .slice A3_3 l3_3.length c3_3, .string a3_4, .int .i64 a3_5, .slice A3_6 l3_6.length c3_6]] w fun e w' => ∃ v1_ : Value, e = .returned (.tuple #[v1_, .int .i64 r2]) ∧ Kd.S k53 53 w' w0.heap.size (fun k => P0_ k ∨ w.heap.size ≤ k) v1_ r1 ∧ Below w0.heap.size w0 w' ∧ Kept w w' P0_ := by
 unfold spec_l6Add.f at h
 replace h := Option.bind_eq_some_iff.mp h
 obtain ⟨⟨t0, t1, t2, t3, t4, t5, t6⟩, A60, h⟩ := h
 dsimp only at h
 generalize hx : (⟨t0, t1, t2, t3, t4, a1, ([] : List Int)⟩ : S53) = x at h
 generalize hy : l0 ++ [x] = y at h
 split at h
 case isFalse => exact absurd h (by simp)
 case isTrue hc =>
 obtain ⟨cl, p1, q1, c6⟩ := hc
 have cle : (y.length : Int) = l0.length + 1 := by rw [← hy]; simp
 have CLE := am cle
 clear cle
 have A6 := am A60
 clear A60
 have CL := am cl
 have C6 := am c6
 clear cl c6
 have HX := am hx
 have HY := am hy
 clear hx hy
 obtain ⟨A0, c0, rfl⟩ := Kd.S_slice ho
 have HS : Aside0 (Kd.S k53 53 w w0.heap.size (fun k => P0_ k ∧ k < w.heap.size) (.slice A0 l0.length c0) l0) := ⟨Kd.S_mono (Kd.S_bound ho) (fun k hk => ⟨hk.1, hk.2.2.1⟩)⟩
 have HL := am (Kd.S_lt ho)
 have HB := am hB
 have HW0 := am hB.size
 have HK := am (Kept.refl w P0_)
 have HR3 := am hr3
 have HC3 := am hc3
 have HR6a := am hr6
 have HC6a := am hc6
 clear ho hB hr3 hc3 hr6 hc6
 have P1 := am p1
 have Q1 := am q1
 clear p1 q1
 by_cases c10 : a2 < 0
 have PAT := am (show (0 : Int) ≤ ((rd_T53 y a1).f6.length : Int) by omega)
 have QAT := am (show ((rd_T53 y a1).f6.length : Int) ≤ ((rd_T53 y a1).f6.length : Int) by omega)
 have hh_ : hang_at a2 (rd_T53 y a1).f6.length = (((rd_T53 y a1).f6.length : Int)).toNat := by unfold hang_at; split <;> omega
 rw [hh_] at h
 clear hh_
 have c10b0 := decide_eq_true c10
 clear c10
 have pat_ := eq_true PAT.out
 have qat_ := eq_true QAT.out
 simp only [Option.some.injEq, Prod.mk.injEq] at h
 obtain ⟨rfl, rfl⟩ := h
 obtain ⟨y7, hy7⟩ : ∃ r : List Int, r = (rd_T53 y a1).f6.take (((rd_T53 y a1).f6.length : Int)).toNat := ⟨_, rfl⟩
 obtain ⟨y12, hy12⟩ : ∃ r : List Int, r = (rd_T53 y a1).f6.drop (((rd_T53 y a1).f6.length : Int)).toNat := ⟨_, rfl⟩
 have KY7 := am (show y7.length = (((rd_T53 y a1).f6.length : Int)).toNat by rw [hy7, List.length_take]; have := QAT.out; omega)
 have KY12 := am (show y12.length = (rd_T53 y a1).f6.length - (((rd_T53 y a1).f6.length : Int)).toNat by rw [hy12, List.length_drop])
 rw [← hy7, ← hy12]
 have HY7 := am hy7
 have HY12 := am hy12
 clear hy7 hy12
 obtain ⟨r6, hr6_⟩ : ∃ r : List Int, r = y7 ++ (l0.length : Int) :: y12 := ⟨_, rfl⟩
 rw [← hr6_]
 have HRR := am (show r6 = y7 ++ [(l0.length : Int)] ++ y12 by rw [hr6_]; simp)
 clear hr6_
 rotate_left
 by_cases c11 : ((rd_T53 y a1).f6.length : Int) < a2
 have PAT := am (show (0 : Int) ≤ ((rd_T53 y a1).f6.length : Int) by omega)
 have QAT := am (show ((rd_T53 y a1).f6.length : Int) ≤ ((rd_T53 y a1).f6.length : Int) by omega)
 have hh_ : hang_at a2 (rd_T53 y a1).f6.length = (((rd_T53 y a1).f6.length : Int)).toNat := by unfold hang_at; split <;> omega
 rw [hh_] at h
 clear hh_
 have c10b0 := decide_eq_false c10
 have c11b0 := decide_eq_true c11
 clear c10 c11
 have pat_ := eq_true PAT.out
 have qat_ := eq_true QAT.out
 simp only [Option.some.injEq, Prod.mk.injEq] at h
 obtain ⟨rfl, rfl⟩ := h
 obtain ⟨y7, hy7⟩ : ∃ r : List Int, r = (rd_T53 y a1).f6.take (((rd_T53 y a1).f6.length : Int)).toNat := ⟨_, rfl⟩
 obtain ⟨y12, hy12⟩ : ∃ r : List Int, r = (rd_T53 y a1).f6.drop (((rd_T53 y a1).f6.length : Int)).toNat := ⟨_, rfl⟩
 have KY7 := am (show y7.length = (((rd_T53 y a1).f6.length : Int)).toNat by rw [hy7, List.length_take]; have := QAT.out; omega)
 have KY12 := am (show y12.length = (rd_T53 y a1).f6.length - (((rd_T53 y a1).f6.length : Int)).toNat by rw [hy12, List.length_drop])
 rw [← hy7, ← hy12]
 have HY7 := am hy7
 have HY12 := am hy12
 clear hy7 hy12
 obtain ⟨r6, hr6_⟩ : ∃ r : List Int, r = y7 ++ (l0.length : Int) :: y12 := ⟨_, rfl⟩
 rw [← hr6_]
 have HRR := am (show r6 = y7 ++ [(l0.length : Int)] ++ y12 by rw [hr6_]; simp)
 clear hr6_
 rotate_left
 have PAT := am (show (0 : Int) ≤ a2 by omega)
 have QAT := am (show a2 ≤ ((rd_T53 y a1).f6.length : Int) by omega)
 have hh_ : hang_at a2 (rd_T53 y a1).f6.length = (a2).toNat := by unfold hang_at; split <;> omega
 rw [hh_] at h
 clear hh_
 have c10b0 := decide_eq_false c10
 have c11b0 := decide_eq_false c11
 clear c10 c11
 have pat_ := eq_true PAT.out
 have qat_ := eq_true QAT.out
 simp only [Option.some.injEq, Prod.mk.injEq] at h
 obtain ⟨rfl, rfl⟩ := h
 obtain ⟨y7, hy7⟩ : ∃ r : List Int, r = (rd_T53 y a1).f6.take (a2).toNat := ⟨_, rfl⟩
 obtain ⟨y12, hy12⟩ : ∃ r : List Int, r = (rd_T53 y a1).f6.drop (a2).toNat := ⟨_, rfl⟩
 have KY7 := am (show y7.length = (a2).toNat by rw [hy7, List.length_take]; have := QAT.out; omega)
 have KY12 := am (show y12.length = (rd_T53 y a1).f6.length - (a2).toNat by rw [hy12, List.length_drop])
 rw [← hy7, ← hy12]
 have HY7 := am hy7
 have HY12 := am hy12
 clear hy7 hy12
 obtain ⟨r6, hr6_⟩ : ∃ r : List Int, r = y7 ++ (l0.length : Int) :: y12 := ⟨_, rfl⟩
 rw [← hr6_]
 have HRR := am (show r6 = y7 ++ [(l0.length : Int)] ++ y12 by rw [hr6_]; simp)
 clear hr6_
 rotate_left
 all_goals
  go_enter Tryz.func57, Tryz.ntmps57
  go_wp2_with (first | ((with_reducible refine gd_ 7 ?_); (try (refine gate_guard (by rfl) ?_; dsimp only)); refine bx_ 7 (cs := #[.int .i64 a3_0, .int .i64 a3_1, .string a3_2, .slice A3_3 l3_3.length c3_3, .string a3_4, .int .i64 a3_5, .slice A3_6 l3_6.length c3_6]) 53 ?_; intro ga hg w1 hbox hb; replace HS := am (Kd.S_below HS.out hb); replace HB := am (below_step HB.out hb); replace HK := am (Kept.below HK.out hb); replace HR3 := am (Kd.C_below HR3.out hb); replace HR6a := am (Kd.C_below HR6a.out hb); have BA := am hbox; clear hb hbox hg; obtain ⟨hczz_0, hczz_1, hczz_2, hczz_3, hczz_4, hczz_5, hczz_6⟩ := cl7 BA; obtain ⟨hfzz_0, hfzz_1, hfzz_2, hfzz_3, hfzz_4, hfzz_5, hfzz_6⟩ := fz7 BA) | ((with_reducible refine gate_callee (f := 82) rfl ?_); refine goesL_ (some 17) rfl rfl Tryz.func82 (by kernel_rfl) rfl #[.agg #[.int .i64 a3_0, .int .i64 a3_1, .string a3_2, .slice A3_3 l3_3.length c3_3, .string a3_4, .int .i64 a3_5, .slice A3_6 l3_6.length c3_6]] rfl ab5 ?_; (with_reducible refine (spec_l6Item.calls a3_0 a3_1 a3_2 _ _ l3_3 a3_4 a3_5 _ _ l3_6 t0 t1 t2 t3 t4 t5 t6 _ HR3.out HC3.out HR6a.out HC6a.out A6.out).mono ?_); rintro e w2 ⟨v3, v6_, rfl, ho0, ho1, hb⟩; refine ⟨_, rfl, ?_⟩; obtain ⟨Ao, co, eo⟩ := Kd.R_slice ho0; subst eo; obtain ⟨Ap, cp, eo⟩ := Kd.R_slice ho1; subst eo; have HA : Aside0 (Kd.R k56 56 w2 w0.heap.size (fun k => w.heap.size ≤ k ∧ k < w2.heap.size) (.slice Ao t3.length co) t3) := ⟨Kd.R_lower (Kd.R_mono (Kd.R_bound ho0) (fun k hk => ⟨Nat.le_trans HK.out.1 hk.2.1, hk.2.2.1⟩)) (below_size HB.out)⟩; replace HS := am (Kd.S_below HS.out hb); replace HB := am (below_step HB.out hb); replace HK := am (Kept.below HK.out hb); clear ho0 ho1 hb HR3 HR6a BA) | ((with_reducible refine gd_ 11 ?_); (try (refine gate_guard (by rfl) ?_; dsimp only)); refine bx_ 11 (cs := #[.int .i64 0, .int .i64 0, .string (⟨#[]⟩ : ByteArray), .slice none 0 0, .string (⟨#[]⟩ : ByteArray), .int .i64 0, .slice none 0 0]) 53 ?_; intro gb hg w3 hbox hb; have GE := am (show w.heap.size ≤ gb by rw [hg]; exact HK.out.1); have HNE := am (fun (k : Nat) (hk : P0_ k ∧ k < w.heap.size) => (by have := hk.2; have := GE.out; omega : k ≠ gb)); replace HA : Aside0 (Kd.R k56 56 w3 w0.heap.size (fun k => w.heap.size ≤ k ∧ k ≠ gb) (.slice Ao t3.length co) t3) := ⟨Kd.R_mono (Kd.R_below HA.out hb) (fun k hk => ⟨hk.1, by have := hk.2; omega⟩)⟩; replace HS := am (Kd.S_below HS.out hb); replace HB := am (below_step HB.out hb); replace HK := am (Kept.below HK.out hb); have BK := am hbox; clear hb hbox hg; obtain ⟨hczy_0, hczy_1, hczy_2, hczy_3, hczy_4, hczy_5, hczy_6⟩ := cl7 BK; obtain ⟨hfzy_0, hfzy_1, hfzy_2, hfzy_3, hfzy_4, hfzy_5, hfzy_6⟩ := fz7 BK) | ((with_reducible refine gate_store (t := 53) (p := 11) rfl ?_); refine store_event (t := 53) (p := 11) (v := ?vo11) (w1 := (((((((w3.setCell ⟨gb, 0, none⟩ (.int .i64 t0)).setCell ⟨gb, 1, none⟩ (.int .i64 t1)).setCell ⟨gb, 2, none⟩ (.string t2)).setCell ⟨gb, 3, none⟩ (.slice Ao t3.length co)).setCell ⟨gb, 4, none⟩ (.string t4)).setCell ⟨gb, 5, none⟩ (.int .i64 t5)).setCell ⟨gb, 6, none⟩ (.slice Ap t6.length cp))) ?hg ?ho ?hn ?hr ?_; (case ho => rfl); (case hg => rfl); (case hn => rfl); (case hr => first | (go_simp; done) | (go_simp; rfl)); intro w4 hw; replace HA : Aside0 (Kd.R k56 56 w4 w0.heap.size (fun k => w.heap.size ≤ k ∧ k ≠ gb) (.slice Ao t3.length co) t3) := ⟨by rw [hw]; exact (Kd.R_far (p := ⟨gb, 6, none⟩) (Kd.R_far (p := ⟨gb, 5, none⟩) (Kd.R_far (p := ⟨gb, 4, none⟩) (Kd.R_far (p := ⟨gb, 3, none⟩) (Kd.R_far (p := ⟨gb, 2, none⟩) (Kd.R_far (p := ⟨gb, 1, none⟩) (Kd.R_far (p := ⟨gb, 0, none⟩) HA.out (fun _ hk => hk.2) (.int .i64 t0)) (fun _ hk => hk.2) (.int .i64 t1)) (fun _ hk => hk.2) (.string t2)) (fun _ hk => hk.2) (.slice Ao t3.length co)) (fun _ hk => hk.2) (.string t4)) (fun _ hk => hk.2) (.int .i64 t5)) (fun _ hk => hk.2) (.slice Ap t6.length cp))⟩; replace HS : Aside0 (Kd.S k53 53 w4 w0.heap.size (fun k => P0_ k ∧ k < w.heap.size) (.slice A0 l0.length c0) l0) := ⟨by rw [hw]; exact (Kd.S_far (p := ⟨gb, 6, none⟩) (Kd.S_far (p := ⟨gb, 5, none⟩) (Kd.S_far (p := ⟨gb, 4, none⟩) (Kd.S_far (p := ⟨gb, 3, none⟩) (Kd.S_far (p := ⟨gb, 2, none⟩) (Kd.S_far (p := ⟨gb, 1, none⟩) (Kd.S_far (p := ⟨gb, 0, none⟩) HS.out (fun k hk => HNE.out k hk) (.int .i64 t0)) (fun k hk => HNE.out k hk) (.int .i64 t1)) (fun k hk => HNE.out k hk) (.string t2)) (fun k hk => HNE.out k hk) (.slice Ao t3.length co)) (fun k hk => HNE.out k hk) (.string t4)) (fun k hk => HNE.out k hk) (.int .i64 t5)) (fun k hk => HNE.out k hk) (.slice Ap t6.length cp))⟩; replace BK : Aside0 (w4.heap[gb]? = some (.cells #[.int .i64 t0, .int .i64 t1, .string t2, .slice Ao t3.length co, .string t4, .int .i64 t5, .slice Ap t6.length cp] 53 (0, 0))) := ⟨by rw [hw]; refine blk_put (cs := #[.int .i64 t0, .int .i64 t1, .string t2, .slice Ao t3.length co, .string t4, .int .i64 t5, .slice none 0 0]) ?_ 6 _ rfl; refine blk_put (cs := #[.int .i64 t0, .int .i64 t1, .string t2, .slice Ao t3.length co, .string t4, .int .i64 0, .slice none 0 0]) ?_ 5 _ rfl; refine blk_put (cs := #[.int .i64 t0, .int .i64 t1, .string t2, .slice Ao t3.length co, .string (⟨#[]⟩ : ByteArray), .int .i64 0, .slice none 0 0]) ?_ 4 _ rfl; refine blk_put (cs := #[.int .i64 t0, .int .i64 t1, .string t2, .slice none 0 0, .string (⟨#[]⟩ : ByteArray), .int .i64 0, .slice none 0 0]) ?_ 3 _ rfl; refine blk_put (cs := #[.int .i64 t0, .int .i64 t1, .string (⟨#[]⟩ : ByteArray), .slice none 0 0, .string (⟨#[]⟩ : ByteArray), .int .i64 0, .slice none 0 0]) ?_ 2 _ rfl; refine blk_put (cs := #[.int .i64 t0, .int .i64 0, .string (⟨#[]⟩ : ByteArray), .slice none 0 0, .string (⟨#[]⟩ : ByteArray), .int .i64 0, .slice none 0 0]) ?_ 1 _ rfl; refine blk_put (cs := #[.int .i64 0, .int .i64 0, .string (⟨#[]⟩ : ByteArray), .slice none 0 0, .string (⟨#[]⟩ : ByteArray), .int .i64 0, .slice none 0 0]) ?_ 0 _ rfl; exact BK.out⟩; replace HB : Aside0 (Below w0.heap.size w0 w4) := ⟨by rw [hw]; exact (below_set (below_set (below_set (below_set (below_set (below_set (below_set HB.out (Nat.le_trans HW0.out GE.out)) (Nat.le_trans HW0.out GE.out)) (Nat.le_trans HW0.out GE.out)) (Nat.le_trans HW0.out GE.out)) (Nat.le_trans HW0.out GE.out)) (Nat.le_trans HW0.out GE.out)) (Nat.le_trans HW0.out GE.out))⟩; replace HK : Aside0 (Kept w w4 P0_) := ⟨by rw [hw]; exact (Kept.setCell (p := ⟨gb, 6, none⟩) (Kept.setCell (p := ⟨gb, 5, none⟩) (Kept.setCell (p := ⟨gb, 4, none⟩) (Kept.setCell (p := ⟨gb, 3, none⟩) (Kept.setCell (p := ⟨gb, 2, none⟩) (Kept.setCell (p := ⟨gb, 1, none⟩) (Kept.setCell (p := ⟨gb, 0, none⟩) HK.out (Or.inr GE.out) (.int .i64 t0)) (Or.inr GE.out) (.int .i64 t1)) (Or.inr GE.out) (.string t2)) (Or.inr GE.out) (.slice Ao t3.length co)) (Or.inr GE.out) (.string t4)) (Or.inr GE.out) (.int .i64 t5)) (Or.inr GE.out) (.slice Ap t6.length cp))⟩; clear hw; obtain ⟨hczb0_0, hczb0_1, hczb0_2, hczb0_3, hczb0_4, hczb0_5, hczb0_6⟩ := cl7 BK; obtain ⟨hfzb0_0, hfzb0_1, hfzb0_2, hfzb0_3, hfzb0_4, hfzb0_5, hfzb0_6⟩ := fz7 BK) | ((with_reducible refine gate_store (t := 23) (p := 18) rfl ?_); refine store_event (t := 23) (p := 18) (v := ?vo18) (w1 := (w4.setCell ⟨gb, 6, none⟩ (.slice none 0 0))) ?hg ?ho ?hn ?hr ?_; (case ho => rfl); (case hg => rfl); (case hn => rfl); (case hr => first | (go_simp; done) | (go_simp; rfl)); intro w5 hw; replace HA : Aside0 (Kd.R k56 56 w5 w0.heap.size (fun k => w.heap.size ≤ k ∧ k ≠ gb) (.slice Ao t3.length co) t3) := ⟨by rw [hw]; exact (Kd.R_far (p := ⟨gb, 6, none⟩) HA.out (fun _ hk => hk.2) (.slice none 0 0))⟩; replace HS : Aside0 (Kd.S k53 53 w5 w0.heap.size (fun k => P0_ k ∧ k < w.heap.size) (.slice A0 l0.length c0) l0) := ⟨by rw [hw]; exact (Kd.S_far (p := ⟨gb, 6, none⟩) HS.out (fun k hk => HNE.out k hk) (.slice none 0 0))⟩; replace BK : Aside0 (w5.heap[gb]? = some (.cells #[.int .i64 t0, .int .i64 t1, .string t2, .slice Ao t3.length co, .string t4, .int .i64 t5, .slice none 0 0] 53 (0, 0))) := ⟨by rw [hw]; refine blk_put (cs := #[.int .i64 t0, .int .i64 t1, .string t2, .slice Ao t3.length co, .string t4, .int .i64 t5, .slice Ap t6.length cp]) ?_ 6 _ rfl; exact BK.out⟩; replace HB : Aside0 (Below w0.heap.size w0 w5) := ⟨by rw [hw]; exact (below_set HB.out (Nat.le_trans HW0.out GE.out))⟩; replace HK : Aside0 (Kept w w5 P0_) := ⟨by rw [hw]; exact (Kept.setCell (p := ⟨gb, 6, none⟩) HK.out (Or.inr GE.out) (.slice none 0 0))⟩; clear hw; obtain ⟨hczb1_0, hczb1_1, hczb1_2, hczb1_3, hczb1_4, hczb1_5, hczb1_6⟩ := cl7 BK; obtain ⟨hfzb1_0, hfzb1_1, hfzb1_2, hfzb1_3, hfzb1_4, hfzb1_5, hfzb1_6⟩ := fz7 BK) | ((with_reducible refine gate_store (t := 3) (p := 20) rfl ?_); refine store_event (t := 3) (p := 20) (v := ?vo20) (w1 := (w5.setCell ⟨gb, 5, none⟩ (.int .i64 a1))) ?hg ?ho ?hn ?hr ?_; (case ho => rfl); (case hg => rfl); (case hn => rfl); (case hr => first | (go_simp; done) | (go_simp; rfl)); intro w5b hw; replace HA : Aside0 (Kd.R k56 56 w5b w0.heap.size (fun k => w.heap.size ≤ k ∧ k ≠ gb) (.slice Ao t3.length co) t3) := ⟨by rw [hw]; exact (Kd.R_far (p := ⟨gb, 5, none⟩) HA.out (fun _ hk => hk.2) (.int .i64 a1))⟩; replace HS : Aside0 (Kd.S k53 53 w5b w0.heap.size (fun k => P0_ k ∧ k < w.heap.size) (.slice A0 l0.length c0) l0) := ⟨by rw [hw]; exact (Kd.S_far (p := ⟨gb, 5, none⟩) HS.out (fun k hk => HNE.out k hk) (.int .i64 a1))⟩; replace BK : Aside0 (w5b.heap[gb]? = some (.cells #[.int .i64 t0, .int .i64 t1, .string t2, .slice Ao t3.length co, .string t4, .int .i64 a1, .slice none 0 0] 53 (0, 0))) := ⟨by rw [hw]; refine blk_put (cs := #[.int .i64 t0, .int .i64 t1, .string t2, .slice Ao t3.length co, .string t4, .int .i64 t5, .slice none 0 0]) ?_ 5 _ rfl; exact BK.out⟩; replace HB : Aside0 (Below w0.heap.size w0 w5b) := ⟨by rw [hw]; exact (below_set HB.out (Nat.le_trans HW0.out GE.out))⟩; replace HK : Aside0 (Kept w w5b P0_) := ⟨by rw [hw]; exact (Kept.setCell (p := ⟨gb, 5, none⟩) HK.out (Or.inr GE.out) (.int .i64 a1))⟩; clear hw; obtain ⟨hczb2_0, hczb2_1, hczb2_2, hczb2_3, hczb2_4, hczb2_5, hczb2_6⟩ := cl7 BK; obtain ⟨hfzb2_0, hfzb2_1, hfzb2_2, hfzb2_3, hfzb2_4, hfzb2_5, hfzb2_6⟩ := fz7 BK) | ((with_reducible refine gate_builtin (b := .append) (xs := #[.tmp 21, .tmp 23]) rfl ?_); (try (refine gate_guard (by rfl) ?_; dsimp only)); at_builtin; refine Kd.S_append k53 (w0 := w0) w0.heap.size rfl (.tmp 21) (.tmp 23) 29 53 (.agg #[(.int .i64 0), (.int .i64 0), (.string ⟨#[]⟩), (.slice none 0 0), (.string ⟨#[]⟩), (.int .i64 0), (.slice none 0 0)]) 104 rfl Tryz.underlying29 info53 rfl (by decide) (by omega) (.slice A0 l0.length c0) l0 x [.int .i64 t0, .int .i64 t1, .string t2, .slice Ao t3.length co, .string t4, .int .i64 a1, .slice none 0 0] (fun k => P0_ k ∨ w.heap.size ≤ k) (fun k => some k = (.slice Ao t3.length co : Value).ownBlock) rfl rfl ?aP ?aK ?aF ?aO ?aB ?aS ?aL ?_; (case aP => rw [← HX.out]; exact k53_mkM _ _ _ (⟨t0, t1, t2, t3, t4, a1, ([] : List Int)⟩ : S53) (Kd.R_tight rfl HA.out) (Kd.R_nil _ _ _ _ _)); (case aK => exact fun k hk => ⟨Or.inr (HA.out.1 k hk.symm).1, fun e_ => by have h1_ := HL.out k e_.symm; have h2_ := (HA.out.1 k hk.symm).1; omega⟩); (case aB => exact HB.out); (case aF => exact fun k hk => Or.inr (Nat.le_trans HK.out.1 hk)); (case aO => exact Kd.S_mono HS.out (fun k hk => ⟨Or.inl hk.1, fun e_ => by have h1_ := hk.2; have h2_ := (HA.out.1 k e_.symm).1; omega⟩)); (case aS => exact below_size HB.out); (case aL => have := CL.out; omega); intro v6 w6 ho hb hg hat; rw [HY.out] at ho; replace HK := am (Kept.of_grown (S := P0_) hg HK.out (fun k e_ => Or.inl ((Kd.S_R HS.out).1 k e_).1)); replace HB := am hb; have HO := am ho; clear hg hb ho hat BK HA HS; obtain ⟨g, cap, eg, gb2, gl, cells, HG⟩ := Kd.S_form HO.out (by have := CLE.out; omega); subst eg; have HGP := am ((Kd.S_R HO.out).1 g rfl); have GB := am gb2; have GL := am gl; clear gb2 gl HG; obtain ⟨A6_, c6_, hx6, hf6, hl6, hr6, hback⟩ := S_kids_store HO.out a1 P1.out Q1.out (fun k hk => Or.inr (Nat.le_trans HK.out.1 hk)) GL.out; have HR6 := am hr6; have HBK := am hback; have HF6 := am (hf6 6); have HX6 := am hx6; have HL6 := am hl6; clear hr6 hback hf6 hl6; have p1_ := eq_true P1.out; have q1_ := eq_true Q1.out) | ((with_reducible refine gate_dst (N := 40) rfl ?_); (try (refine gate_guard (by rfl) ?_; dsimp only)); refine Kd.R_lit (Kd.int .i64) _ 3 ?hg (N := 40) ?hd (xs := ([] : List Int)) (inner := []) (ok := fun _ => True) (okp := fun _ => True) ?hr ?hp (fun _ hk => hk) trivial (Below.refl _ _) (Nat.le_refl _) (by simp) ?_; (case hd => rfl); (case hg => rfl); (case hr => first | (go_simp; done) | (go_simp; rfl)); (case hp => exact (Reps.none _ _)); intro v7 w7 ho7 hb hg_ hnew_; clear hg_ hnew_; have HQ := am (show Below w6.heap.size w6 w7 from hb); have HO7 := am (show Kd.R (Kd.int .i64) 3 w7 w6.heap.size (fun _ => True) v7 ([] : List Int) from ho7); clear hb ho7; obtain ⟨i07, hi07, _, hsz7, _⟩ := info_parts info3; have hcut7 := cut_to (P := Tryz.prog) 23 3 .i64 Tryz.underlying23 hi07 A6_ (rd_T53 y a1).f6.length c6_ a2 PAT.out QAT.out HL6.out; have hr7 := Kd.C_take (m := (a2).toNat) (Kd.R_reads' HR6.out).2.2 (by have := QAT.out; have := PAT.out; omega); rw [← HY7.out] at hr7; rw [← KY7.out] at hcut7; have HR7 := am (show Kd.C (Kd.int .i64) w6 A6_ y7.length y7 from hr7); clear hr7 hi07 hsz7) | ((with_reducible refine gate_dst (N := 40) rfl ?_); (try (refine gate_guard (by rfl) ?_; dsimp only)); refine Kd.R_lit (Kd.int .i64) _ 3 ?hg (N := 40) ?hd (xs := ([] : List Int)) (inner := []) (ok := fun _ => True) (okp := fun _ => True) ?hr ?hp (fun _ hk => hk) trivial (Below.refl _ _) (Nat.le_refl _) (by simp) ?_; (case hd => rfl); (case hg => rfl); (case hr => first | (go_simp; done) | (go_simp; rfl)); (case hp => exact (Reps.none _ _)); intro v7 w7 ho7 hb hg_ hnew_; clear hg_ hnew_; have HQ := am (show Below w6.heap.size w6 w7 from hb); have HO7 := am (show Kd.R (Kd.int .i64) 3 w7 w6.heap.size (fun _ => True) v7 ([] : List Int) from ho7); clear hb ho7; obtain ⟨i07, hi07, _, hsz7, _⟩ := info_parts info3; have hcut7 := cut_to (P := Tryz.prog) 23 3 .i64 Tryz.underlying23 hi07 A6_ (rd_T53 y a1).f6.length c6_ ((rd_T53 y a1).f6.length : Int) PAT.out QAT.out HL6.out; have hr7 := Kd.C_take (m := (((rd_T53 y a1).f6.length : Int)).toNat) (Kd.R_reads' HR6.out).2.2 (by have := QAT.out; have := PAT.out; omega); rw [← HY7.out] at hr7; rw [← KY7.out] at hcut7; have HR7 := am (show Kd.C (Kd.int .i64) w6 A6_ y7.length y7 from hr7); clear hr7 hi07 hsz7) | ((with_reducible refine gate_builtin (b := .append) (xs := #[.tmp 40, .tmp 43]) rfl ?_); (try (refine gate_guard (by rfl) ?_; dsimp only)); at_builtin; refine Kd.R_append_rows (Kd.int .i64) (w0 := w6) w6.heap.size rfl (.tmp 40) (.tmp 43) 23 3 (.int .i64 0) 8 rfl Tryz.underlying23 info3 rfl (by decide) (by omega) v7 ([] : List Int) y7 _ _ _ (fun _ => True) (fun _ => False) rfl rfl ?aO ?aR (fun _ _ h => h) (fun _ h => h.elim) ?aF ?aB ?aS ?aL ?_; (case aR => exact Kd.C_below HR7.out HQ.out); (case aB => exact HQ.out); (case aF => exact fun _ _ => trivial); (case aO => exact Kd.R_mono HO7.out (fun _ _ => by simp)); (case aS => exact below_size HQ.out); (case aL => have h1_ := C6.out; have h2_ := PAT.out; have h3_ := QAT.out; have h4_ := KY7.out; have h5_ := KY12.out; simp only [List.length_nil, List.length_append, List.length_cons]; omega); intro v8 w8 ho hb hg hat; replace HQ := am hb; have HO8 := am (show Kd.R (Kd.int .i64) 3 w8 w6.heap.size (fun _ => True) v8 y7 from ho); clear ho hb hg hat HO7) | ((with_reducible refine gate_builtin (b := .append) (xs := #[.tmp 45, .tmp 47]) rfl ?_); (try (refine gate_guard (by rfl) ?_; dsimp only)); at_builtin; refine Kd.R_append (Kd.int .i64) (w0 := w6) w6.heap.size rfl (.tmp 45) (.tmp 47) 23 3 (.int .i64 0) 8 rfl Tryz.underlying23 info3 rfl (by decide) (by omega) v8 y7 (l0.length : Int) [.int .i64 (l0.length : Int)] (fun _ => True) (fun _ => False) rfl rfl ?aP (fun _ hk => hk.elim) ?aF ?aO ?aB ?aS ?aL ?_; (case aP => exact rfl); (case aB => exact HQ.out); (case aF => exact fun _ _ => trivial); (case aO => exact Kd.R_mono HO8.out (fun _ _ => by simp)); (case aS => exact below_size HQ.out); (case aL => have h1_ := C6.out; have h2_ := PAT.out; have h3_ := QAT.out; have h4_ := KY7.out; omega); intro v9 w9 ho hb hg hat; replace HQ := am hb; have HO9 := am ho; clear ho hb hg hat HO8; obtain ⟨i012, hi012, _, hsz12, _⟩ := info_parts info3; have hcut12 := cut_from (P := Tryz.prog) 23 3 .i64 Tryz.underlying23 hi012 1 hsz12 A6_ (rd_T53 y a1).f6.length c6_ a2 PAT.out QAT.out; have hr12 := Kd.C_drop (m := (a2).toNat) (c := c6_) (Kd.R_reads' HR6.out).2.2 (by have h2_ := PAT.out; have h3_ := QAT.out; omega) HL6.out; obtain ⟨A12, hA12⟩ : ∃ A1, A1 = (if c6_ = (a2).toNat then A6_ else (A6_ : Option Addr).map (·.add ((a2).toNat * 1))) := ⟨_, rfl⟩; obtain ⟨c12, hc12⟩ : ∃ c1, c1 = c6_ - (a2).toNat := ⟨_, rfl⟩; rw [← HY12.out] at hr12; replace hr12 : Kd.C (Kd.int .i64) _ A12 y12.length y12 := (by rw [hA12]; exact hr12); rw [← KY12.out, ← hA12, ← hc12] at hcut12; have HR12 := am hr12; have KA12 := am hA12; have KC12 := am hc12; clear hr12 hi012 hsz12 hA12 hc12) | ((with_reducible refine gate_builtin (b := .append) (xs := #[.tmp 45, .tmp 47]) rfl ?_); (try (refine gate_guard (by rfl) ?_; dsimp only)); at_builtin; refine Kd.R_append (Kd.int .i64) (w0 := w6) w6.heap.size rfl (.tmp 45) (.tmp 47) 23 3 (.int .i64 0) 8 rfl Tryz.underlying23 info3 rfl (by decide) (by omega) v8 y7 (l0.length : Int) [.int .i64 (l0.length : Int)] (fun _ => True) (fun _ => False) rfl rfl ?aP (fun _ hk => hk.elim) ?aF ?aO ?aB ?aS ?aL ?_; (case aP => exact rfl); (case aB => exact HQ.out); (case aF => exact fun _ _ => trivial); (case aO => exact Kd.R_mono HO8.out (fun _ _ => by simp)); (case aS => exact below_size HQ.out); (case aL => have h1_ := C6.out; have h2_ := PAT.out; have h3_ := QAT.out; have h4_ := KY7.out; omega); intro v9 w9 ho hb hg hat; replace HQ := am hb; have HO9 := am ho; clear ho hb hg hat HO8; obtain ⟨i012, hi012, _, hsz12, _⟩ := info_parts info3; have hcut12 := cut_from (P := Tryz.prog) 23 3 .i64 Tryz.underlying23 hi012 1 hsz12 A6_ (rd_T53 y a1).f6.length c6_ ((rd_T53 y a1).f6.length : Int) PAT.out QAT.out; have hr12 := Kd.C_drop (m := (((rd_T53 y a1).f6.length : Int)).toNat) (c := c6_) (Kd.R_reads' HR6.out).2.2 (by have h2_ := PAT.out; have h3_ := QAT.out; omega) HL6.out; obtain ⟨A12, hA12⟩ : ∃ A1, A1 = (if c6_ = (((rd_T53 y a1).f6.length : Int)).toNat then A6_ else (A6_ : Option Addr).map (·.add ((((rd_T53 y a1).f6.length : Int)).toNat * 1))) := ⟨_, rfl⟩; obtain ⟨c12, hc12⟩ : ∃ c1, c1 = c6_ - (((rd_T53 y a1).f6.length : Int)).toNat := ⟨_, rfl⟩; rw [← HY12.out] at hr12; replace hr12 : Kd.C (Kd.int .i64) _ A12 y12.length y12 := (by rw [hA12]; exact hr12); rw [← KY12.out, ← hA12, ← hc12] at hcut12; have HR12 := am hr12; have KA12 := am hA12; have KC12 := am hc12; clear hr12 hi012 hsz12 hA12 hc12) | ((with_reducible refine gate_builtin (b := .append) (xs := #[.tmp 51, .tmp 54]) rfl ?_); (try (refine gate_guard (by rfl) ?_; dsimp only)); at_builtin; refine Kd.R_append_rows (Kd.int .i64) (w0 := w6) w6.heap.size rfl (.tmp 51) (.tmp 54) 23 3 (.int .i64 0) 8 rfl Tryz.underlying23 info3 rfl (by decide) (by omega) v9 (y7 ++ [(l0.length : Int)]) y12 _ _ _ (fun _ => True) (fun _ => False) rfl rfl ?aO ?aR (fun _ _ h => h) (fun _ h => h.elim) ?aF ?aB ?aS ?aL ?_; (case aR => exact Kd.C_below HR12.out HQ.out); (case aB => exact HQ.out); (case aF => exact fun _ _ => trivial); (case aO => exact Kd.R_mono HO9.out (fun _ _ => by simp)); (case aS => exact below_size HQ.out); (case aL => have h1_ := C6.out; have h2_ := PAT.out; have h3_ := QAT.out; have h4_ := KY7.out; have h5_ := KY12.out; simp only [List.length_nil, List.length_append, List.length_cons]; omega); intro v10 w10 ho hb hg hat; replace HQ := am hb; rw [← HRR.out] at ho; obtain ⟨Av, cv, ev⟩ := Kd.R_slice ho; subst ev; have HST := am (HBK.out w10 _ _ (Kd.R_lower (Kd.R_mono (Kd.R_bound ho) (fun k hk => Or.inr hk.2.1)) (below_size HB.out)) (Kept.of_below HQ.out _)); have hx8 : w10.cell? ⟨g, a1.toNat * 7 + 6, none⟩ = some (.slice A6_ (rd_T53 y a1).f6.length c6_) := cell_kept HX6.out (Kept.of_below HQ.out (fun _ => False)) (fun h_ => h_); have hf8 : w10.frozen? ⟨g, a1.toNat * 7 + 6, none⟩ = false := (by have := HF6.out; unfold World.frozen? at this ⊢; rw [HQ.out.block g GL.out]; exact this); replace HK := am (Kept.below HK.out HQ.out); replace HB := am (below_step HB.out HQ.out); clear ho hb hg hat HO9) | ((with_reducible refine gate_store (t := 23) (p := 57) rfl ?_); refine store_event (t := 23) (p := 57) (v := ?vo57) (w1 := (w10.setCell ⟨g, a1.toNat * 7 + 6, none⟩ (.slice Av r6.length cv))) ?hg ?ho ?hn ?hr ?_; (case ho => rfl); (case hg => rfl); (case hn => rfl); (case hr => first | (go_simp; done) | (go_simp; rfl)); intro w11 hw; have HZ : Aside0 (Below w0.heap.size w0 w11) := ⟨by rw [hw]; exact below_set HB.out GB.out⟩; have HKZ : Aside0 (Kept w w11 P0_) := ⟨by rw [hw]; exact Kept.setCell HK.out HGP.out _⟩; rw [← hw] at HST; clear hw))
  go_ret2
  exact ⟨_, by first | rfl | (simp [errW_none, errW_some] <;> rfl), HST.out.1, HZ.out, HKZ.out⟩
def spec_l9Tag.f (s0 : List S53) (s1 : List Int) (up at_ : Int) (a0 a1 : Int) (a2 : ByteArray) (l3 : List S56) (a4 : ByteArray) (a5 : Int) (l6 : List Int) (op : Bool) : Option (List S53 × List Int) :=
 (spec_l6Add.f s0 up at_ a0 a1 a2 l3 a4 a5 l6).bind fun z => if op = true ∧ (s1.length : Int) < 40 then some (z.1, s1 ++ [z.2]) else some (z.1, s1)
theorem spec_l9Tag.calls (U : Nat → Prop) (A0 : Option Addr) (c0 : Nat) (s0 : List S53) (A1 : Option Addr) (c1 : Nat) (s1 : List Int) (A2 : Option Addr) (c2 : Nat) (s2 : List Int) (h b up at_ : Int) (a0 a1 : Int) (a2 : ByteArray) (A3 : Option Addr) (c3 : Nat) (l3 : List S56) (a4 : ByteArray) (a5 : Int) (A6 : Option Addr) (c6 : Nat) (l6 : List Int) (op : Bool) (r1 : List S53) (r2 : List Int) (w0 w : World) (hO : OwnP w w0.heap.size U (.slice A0 s0.length c0) (.slice A1 s1.length c1) (.slice A2 s2.length c2) s0 s1 s2) (hB : Below w0.heap.size w0 w) (hr3 : Kd.C k56 w A3 l3.length l3) (hc3 : l3.length ≤ c3) (hr6 : Kd.C (Kd.int .i64) w A6 l6.length l6) (hc6 : l6.length ≤ c6) (H : spec_l9Tag.f s0 s1 up at_ a0 a1 a2 l3 a4 a5 l6 op = some (r1, r2)) :
  Calls Tryz.prog 28 #[.agg #[.slice A0 s0.length c0, .slice A1 s1.length c1, .slice A2 s2.length c2, .int .i64 h, .int .i64 b], .int .i64 up, .int .i64 at_, .agg #[.int .i64 a0, .int .i64 a1, .string a2, .slice A3 l3.length c3, .string a4, .int .i64 a5, .slice A6 l6.length c6], .bool op] w fun e w' => ∃ u0 u1 : Value, e = .returned (.agg #[u0, u1, .slice A2 s2.length c2, .int .i64 h, .int .i64 b]) ∧ OwnP w' w0.heap.size (fun k => U k ∨ w.heap.size ≤ k) u0 u1 (.slice A2 s2.length c2) r1 r2 s2 ∧ Below w0.heap.size w0 w' ∧ Kept w w' U := by
 unfold spec_l9Tag.f at H
 obtain ⟨⟨z1, z2⟩, hz, H⟩ := Option.bind_eq_some_iff.mp H
 dsimp only at H
 have hu31 := Tryz.underlying31
 have HO := am (hO.bound.mono (U' := fun k => U k ∧ k < w.heap.size) (fun k hk => ⟨hk.1, hk.2.2⟩))
 have HB := am hB
 have HX := am (Below.refl w.heap.size w)
 have HR3 := am hr3
 have HC3 := am hc3
 have HR6 := am hr6
 have HC6 := am hc6
 have AZ := am hz
 clear hO hB hr3 hc3 hr6 hc6 hz
 cases op
 rw [if_neg (by simp)] at H
 simp only [Option.some.injEq, Prod.mk.injEq] at H
 obtain ⟨rfl, rfl⟩ := H
 rotate_left
 by_cases c : (s1.length : Int) < 40
 have cb := decide_eq_true c
 have CL := am c
 rw [if_pos ⟨rfl, c⟩] at H
 simp only [Option.some.injEq, Prod.mk.injEq] at H
 obtain ⟨rfl, rfl⟩ := H
 clear c
 obtain ⟨y, hy⟩ : ∃ y : List Int, y = s1 ++ [z2] := ⟨_, rfl⟩
 rw [← hy]
 have HY := am hy
 clear hy
 have LXT : True := trivial
 rotate_left
 have cb := decide_eq_false c
 rw [if_neg (by simpa using c)] at H
 simp only [Option.some.injEq, Prod.mk.injEq] at H
 obtain ⟨rfl, rfl⟩ := H
 rotate_left
 all_goals
  go_enter Tryz.func28, Tryz.ntmps28
  go_wp2_with (first | ((with_reducible refine gd_ 5 ?_); refine bx_ 5 (cs := #[.slice A0 s0.length c0, .slice A1 s1.length c1, .slice A2 s2.length c2, .int .i64 h, .int .i64 b]) 31 ?_; intro gbp hg wp hbox hb; have GEp := gE HX hg; replace HX := xb HX hb; have BKp := am hbox; clear hb hbox hg) | ((with_reducible refine gd_ 8 ?_); refine bx_ 8 (cs := #[.int .i64 a0, .int .i64 a1, .string a2, .slice A3 l3.length c3, .string a4, .int .i64 a5, .slice A6 l6.length c6]) 53 ?_; intro gbi hg wi hbox hb; have GEi := gE HX hg; have NEp_i := nE BKp hg; replace BKp := bb BKp hb; replace HX := xb HX hb; have BKi := am hbox; clear hb hbox hg) | ((with_reducible refine gd_ 10 ?_); refine bx_ 10 (cs := #[.slice none 0 0, .slice none 0 0, .slice none 0 0, .int .i64 0, .int .i64 0]) 31 ?_; intro gbr hg wr hbox hb; have GEr := gE HX hg; have NEp_r := nE BKp hg; have NEi_r := nE BKi hg; replace BKp := bb BKp hb; replace BKi := bb BKi hb; replace HX := xb HX hb; have BKr := am hbox; clear hb hbox hg; obtain ⟨h3p0, h3p1, h3p2, h3p3, h3p4⟩ := cl5 BKp; obtain ⟨h3i0, h3i1, h3i2, h3i3, h3i4, h3i5, h3i6⟩ := cl7 BKi) | (go_at_call 57; obtain ⟨P0, hP0, hs0, hback⟩ := OwnP.items (HO.out.below HX.out); have HP0 := am hP0; have HBK := am hback; clear hP0 hback; (refine (spec_l6Add.calls P0 _ s0 up at_ a0 a1 a2 A3 c3 l3 a4 a5 A6 c6 l6 z1 z2 w0 _ (below_step HB.out HX.out) hs0 (Kd.C_below HR3.out HX.out) HC3.out (Kd.C_below HR6.out HX.out) HC6.out AZ.out).mono ?_); rintro e wm ⟨vm, rfl, hs, hb, hk⟩; obtain ⟨Y0, e0, rfl⟩ := Kd.S_slice hs; have HO2 := am (HBK.out _ _ _ hs hk); have LX := am (below_size HX.out); have GWp := GEp; have LSp := am (blk_lt BKp.out); replace BKp := am (blk_kept BKp.out hk (fun q_ => by have h1_ := (HP0.out _ q_).2; have h2_ := GEp.out; omega)); replace GEp := am (Nat.le_trans (below_size HB.out) GEp.out); have GWi := GEi; have LSi := am (blk_lt BKi.out); replace BKi := am (blk_kept BKi.out hk (fun q_ => by have h1_ := (HP0.out _ q_).2; have h2_ := GEi.out; omega)); replace GEi := am (Nat.le_trans (below_size HB.out) GEi.out); have GWr := GEr; have LSr := am (blk_lt BKr.out); replace BKr := am (blk_kept BKr.out hk (fun q_ => by have h1_ := (HP0.out _ q_).2; have h2_ := GEr.out; omega)); replace GEr := am (Nat.le_trans (below_size HB.out) GEr.out); have HK := am (Kept.then_ (Kept.of_below HX.out U) hk (fun k q => Or.inl (HP0.out k q).1)); replace HX := am hb; clear hs hb hk HBK hs0 HO; have HO := HO2; clear HO2; (try clear h3p0 h3p1 h3p2 h3p3 h3p4 h3i0 h3i1 h3i2 h3i3 h3i4 h3i5 h3i6); obtain ⟨h4p0, h4p1, h4p2, h4p3, h4p4⟩ := cl5 BKp; obtain ⟨f4p0, f4p1, f4p2, f4p3, f4p4⟩ := fz5 BKp) | ((with_reducible refine gate_store (t := 29) (p := 23) rfl ?_); refine store_event (t := 29) (p := 23) (v := ?vot1) (w1 := (wm.setCell ⟨gbp, 0, none⟩ (.slice Y0 z1.length e0))) ?hg ?ho ?hn ?hr ?_; (case ho => rfl); (case hg => rfl); (case hn => rfl); (case hr => first | (go_simp; done) | (go_simp; rfl)); intro wt hw; replace BKp : Aside0 (wt.heap[gbp]? = some (.cells #[.slice Y0 z1.length e0, .slice A1 s1.length c1, .slice A2 s2.length c2, .int .i64 h, .int .i64 b] 31 (0, 0))) := ⟨by rw [hw]; exact blk_put (cs := #[.slice A0 s0.length c0, .slice A1 s1.length c1, .slice A2 s2.length c2, .int .i64 h, .int .i64 b]) BKp.out 0 _ rfl⟩; replace BKi := kS1 hw BKi (Ne.symm NEp_i.out); replace BKr := kS1 hw BKr (Ne.symm NEp_r.out); replace HX := bS1 hw HX GEp.out; replace HK : Aside0 (Kept w wt U) := ⟨by rw [hw]; exact Kept.setCell HK.out (Or.inr GWp.out) _⟩; replace HO := pS1 hw HO (fun k hk e_ => by have h2_ := LSp.out; have h3_ : k = gbp := e_; have h4_ := GWp.out; rcases hk with hk | hk; (have := hk.2; omega); omega); clear hw; (try clear h4p0 h4p1 h4p2 h4p3 h4p4 f4p0 f4p1 f4p2 f4p3 f4p4); obtain ⟨h5p0, h5p1, h5p2, h5p3, h5p4⟩ := cl5 BKp; obtain ⟨f5p0, f5p1, f5p2, f5p3, f5p4⟩ := fz5 BKp; obtain ⟨h5r0, h5r1, h5r2, h5r3, h5r4⟩ := cl5 BKr; obtain ⟨f5r0, f5r1, f5r2, f5r3, f5r4⟩ := fz5 BKr) | ((with_reducible refine gate_store (t := 31) (p := 10) rfl ?_); refine store_event (t := 31) (p := 10) (v := ?vorwt) (w1 := (st5 wt gbr (.slice Y0 z1.length e0) (.slice A1 s1.length c1) (.slice A2 s2.length c2) (.int .i64 h) (.int .i64 b))) ?hg ?ho ?hn ?hr ?_; (case ho => rfl); (case hg => rfl); (case hn => rfl); (case hr => first | (go_simp; done) | (go_simp; rfl)); intro wf hw; replace BKp := kS5 hw BKp NEp_r.out; replace BKi := kS5 hw BKi NEi_r.out; replace BKr := sS5 hw BKr; replace HX := bS5 hw HX GEr.out; have HF := pS5 hw HO (fun k hk e_ => by have h1_ := LSr.out; have h2_ := GWr.out; rcases hk with hk | hk; (have := hk.2; omega); omega); replace HK : Aside0 (Kept w wf U) := ⟨by rw [hw]; exact Kept.then_ HK.out (set5_kept _ _ _ _ _ _ _) (fun k q => Or.inr (q ▸ GWr.out))⟩; clear hw; (try clear h5p0 h5p1 h5p2 h5p3 h5p4 f5p0 f5p1 f5p2 f5p3 f5p4 h5r0 h5r1 h5r2 h5r3 h5r4 f5r0 f5r1 f5r2 f5r3 f5r4)) | ((with_reducible refine gate_dst (N := 31) rfl ?_); obtain ⟨P1, hP1, hs1, hback1⟩ := OwnP.open_ HO.out; have HP1 := am hP1; have HBK1 := am hback1; have HS1 := am (OwnP.reads HO.out).2.1.2.2; clear hP1 hs1 hback1; refine Kd.R_lit (Kd.int .i64) _ 3 ?hg (N := 31) ?hd (w0 := wt) (xs := ([] : List Int)) (inner := []) (ok := fun k => wt.heap.size ≤ k) (okp := fun _ => False) ?hr ?hp (fun _ hk => hk.elim) (Nat.le_refl _) (Below.refl _ _) (Nat.le_refl _) (by simp) ?_; (case hd => rfl); (case hg => rfl); (case hr => first | (go_simp; done) | (go_simp; rfl)); (case hp => exact Reps.none _ _); intro vl w1 ho hb hg_ hnew_; have HV := am ho; have HT := am hb; (try clear h5p0 h5p1 h5p2 h5p3 h5p4 f5p0 f5p1 f5p2 f5p3 f5p4 h5r0 h5r1 h5r2 h5r3 h5r4 f5r0 f5r1 f5r2 f5r3 f5r4); obtain ⟨hla0, hla1, hla2, hla3, hla4⟩ := cl5 (bb BKp hb); obtain ⟨fla0, fla1, fla2, fla3, fla4⟩ := fz5 (bb BKp hb); clear hg_ hnew_ ho hb) | ((with_reducible refine gate_builtin (b := .append) (xs := #[.tmp 31, .tmp 33]) rfl ?_); at_builtin; refine Kd.R_append_rows (Kd.int .i64) (w0 := wt) wt.heap.size rfl (.tmp 31) (.tmp 33) 23 3 (.int .i64 0) 8 rfl Tryz.underlying23 info3 rfl (by decide) (by omega) vl ([] : List Int) s1 _ _ _ (fun k => wt.heap.size ≤ k) (fun _ => False) rfl rfl ?aO ?aR (fun _ _ h => h) (fun _ h => h.elim) ?aF ?aB ?aS ?aL ?_; (case aO => exact HV.out); (case aR => exact Kd.C_below HS1.out HT.out); (case aF => exact fun k hk => Nat.le_trans (below_size HT.out) hk); (case aB => exact HT.out); (case aS => exact below_size HT.out); (case aL => have := CL.out; simp only [List.length_nil]; omega); intro v9 w2 ho hb hg hat; rw [List.nil_append] at ho; replace HV := am ho; replace HT := am hb; (try clear hla0 fla0 hla1 fla1 hla2 fla2 hla3 fla3 hla4 fla4); obtain ⟨hlb0, hlb1, hlb2, hlb3, hlb4⟩ := cl5 (bb BKp hb); obtain ⟨flb0, flb1, flb2, flb3, flb4⟩ := fz5 (bb BKp hb); clear ho hb hg hat) | ((with_reducible refine gate_builtin (b := .append) (xs := #[.tmp 34, .tmp 36]) rfl ?_); at_builtin; refine Kd.R_append (Kd.int .i64) (w0 := wt) wt.heap.size rfl (.tmp 34) (.tmp 36) 23 3 (.int .i64 0) 8 rfl Tryz.underlying23 info3 rfl (by decide) (by omega) v9 s1 z2 [.int .i64 z2] (fun k => wt.heap.size ≤ k) (fun _ => False) rfl rfl ?aP (fun _ hk => hk.elim) ?aF ?aO ?aB ?aS ?aL ?_; (case aP => exact rfl); (case aB => exact HT.out); (case aF => exact fun k hk => Nat.le_trans (below_size HT.out) hk); (case aO => exact HV.out); (case aS => exact below_size HT.out); (case aL => have := CL.out; omega); intro v10 w3 ho hb hg hat; rw [← HY.out] at ho; obtain ⟨Ao, co, eo⟩ := Kd.R_slice ho; subst eo; replace HO := am (HBK1.out _ _ _ (Kd.R_mono (Kd.R_lower ho (below_size HX.out)) (fun k hk => Or.inr hk)) (Kept.of_below hb P1)); replace HK := am (Kept.then_ HK.out (Kept.of_below hb (fun _ => False)) (fun _ q => q.elim)); have HLT := am (show w.heap.size ≤ wt.heap.size by have h1_ := blk_lt BKp.out; have h2_ := GWp.out; omega); have LT := am (blk_lt BKp.out); have LTr := am (blk_lt BKr.out); clear ho hg hat HBK1; (try clear hlb0 flb0 hlb1 flb1 hlb2 flb2 hlb3 flb3 hlb4 flb4); replace BKp := bb BKp hb; replace BKi := bb BKi hb; replace BKr := bb BKr hb; replace HX := xb HX hb; clear hb; obtain ⟨h6p0, h6p1, h6p2, h6p3, h6p4⟩ := cl5 BKp; obtain ⟨f6p0, f6p1, f6p2, f6p3, f6p4⟩ := fz5 BKp; obtain ⟨h6r0, h6r1, h6r2, h6r3, h6r4⟩ := cl5 BKr; obtain ⟨f6r0, f6r1, f6r2, f6r3, f6r4⟩ := fz5 BKr) | ((with_reducible refine gate_store (t := 23) (p := 38) rfl ?_); refine store_event (t := 23) (p := 38) (v := ?vot2) (w1 := (w3.setCell ⟨gbp, 1, none⟩ (.slice Ao y.length co))) ?hg ?ho ?hn ?hr ?_; (case ho => rfl); (case hg => rfl); (case hn => rfl); (case hr => first | (go_simp; done) | (go_simp; rfl)); intro w4 hw; replace BKp : Aside0 (w4.heap[gbp]? = some (.cells #[.slice Y0 z1.length e0, .slice Ao y.length co, .slice A2 s2.length c2, .int .i64 h, .int .i64 b] 31 (0, 0))) := ⟨by rw [hw]; exact blk_put (cs := #[.slice Y0 z1.length e0, .slice A1 s1.length c1, .slice A2 s2.length c2, .int .i64 h, .int .i64 b]) BKp.out 1 _ rfl⟩; replace BKi := kS1 hw BKi (Ne.symm NEp_i.out); replace BKr := kS1 hw BKr (Ne.symm NEp_r.out); replace HX := bS1 hw HX GEp.out; replace HK : Aside0 (Kept w w4 U) := ⟨by rw [hw]; exact Kept.setCell HK.out (Or.inr GWp.out) _⟩; replace HO := pS1 hw HO (fun k hk e_ => by have h2_ := LSp.out; have h3_ : k = gbp := e_; have h4_ := GWp.out; have h5_ := LT.out; rcases hk with (hk | hk) | hk; (have := hk.2; omega); omega; omega); clear hw; (try clear h6p0 h6p1 h6p2 h6p3 h6p4 f6p0 f6p1 f6p2 f6p3 f6p4 h6r0 h6r1 h6r2 h6r3 h6r4 f6r0 f6r1 f6r2 f6r3 f6r4); obtain ⟨h7p0, h7p1, h7p2, h7p3, h7p4⟩ := cl5 BKp; obtain ⟨h7r0, h7r1, h7r2, h7r3, h7r4⟩ := cl5 BKr; obtain ⟨f7r0, f7r1, f7r2, f7r3, f7r4⟩ := fz5 BKr) | ((with_reducible refine gate_store (t := 31) (p := 10) rfl ?_); refine store_event (t := 31) (p := 10) (v := ?vorw4) (w1 := (st5 w4 gbr (.slice Y0 z1.length e0) (.slice Ao y.length co) (.slice A2 s2.length c2) (.int .i64 h) (.int .i64 b))) ?hg ?ho ?hn ?hr ?_; (case ho => rfl); (case hg => rfl); (case hn => rfl); (case hr => first | (go_simp; done) | (go_simp; rfl)); intro wf hw; replace BKp := kS5 hw BKp NEp_r.out; replace BKi := kS5 hw BKi NEi_r.out; replace BKr := sS5 hw BKr; replace HX := bS5 hw HX GEr.out; have HF := pS5 hw HO (fun k hk e_ => by have h1_ := LSr.out; have h2_ := GWr.out; have h5_ := LTr.out; rcases hk with (hk | hk) | hk; (have := hk.2; omega); omega; omega); replace HK : Aside0 (Kept w wf U) := ⟨by rw [hw]; exact Kept.then_ HK.out (set5_kept _ _ _ _ _ _ _) (fun k q => Or.inr (q ▸ GWr.out))⟩; clear hw; (try clear h7p0 h7p1 h7p2 h7p3 h7p4 h7r0 h7r1 h7r2 h7r3 h7r4 f7r0 f7r1 f7r2 f7r3 f7r4)))
  first | (refine bodyPost_ret (results_cell_row rfl _ _ gbr 31 #[.slice Y0 z1.length e0, .slice A1 s1.length c1, .slice A2 s2.length c2, .int .i64 h, .int .i64 b] (0, 0) _ rfl BKr.out Tryz.underlying31 rfl (by kernel_rfl)) rfl ?_; exact ⟨_, _, rfl, HF.out.mono (fun k q => q.elim (fun q => Or.inl q.1) (fun q => Or.inr (Nat.le_trans LX.out q))), HX.out, HK.out⟩) | (refine bodyPost_ret (results_cell_row rfl _ _ gbr 31 #[.slice Y0 z1.length e0, .slice Ao y.length co, .slice A2 s2.length c2, .int .i64 h, .int .i64 b] (0, 0) _ rfl BKr.out Tryz.underlying31 rfl (by kernel_rfl)) rfl ?_; exact ⟨_, _, rfl, HF.out.mono (fun k q => q.elim (fun q => q.elim (fun q => Or.inl q.1) (fun q => Or.inr (Nat.le_trans LX.out q))) (fun q => Or.inr (by have h1_ := LX.out; have h2_ := HLT.out; omega))), HX.out, HK.out⟩)
def spec_Reopen.l0 : Nat → List Int → List Int → Int → Option Int
 | 0, _, _, _ => none
 | k + 1, s1, s2, x => if x > 0 then (if 0 ≤ wrap64 (x - 1) ∧ wrap64 (x - 1) < (s2.length : Int) then (if rd s2 (wrap64 (x - 1)) = -1 then some x else (spec_l6Count.f k s1 (rd s2 (wrap64 (x - 1)))).bind fun t => if t = 0 then spec_Reopen.l0 k s1 s2 (wrap64 (x - 1)) else some x) else none) else some x
def spec_Reopen.l1 : Nat → Nat → List S53 → List Int → List Int → Int → Int → Int → Option (List S53 × List Int × List Int)
 | 0, _, _, _, _, _, _, _ => none
 | k + 1, n, z0, z1, z2, h, b, x => if x < (n : Int) then (spec_l9Room.f z0 z1 z2 h b).bind fun u => if u = true then (if (0 ≤ x ∧ x < (z2.length : Int) ∧ 0 ≤ rd z2 x ∧ rd z2 x < (z0.length : Int)) ∧ (rd_T53 z0 (rd z2 x)).f3.length < 4398046511104 then (spec_l9Place.f k z0 z1 z2 h b).bind fun p => (spec_l9Tag.f z0 z1 p.1 p.2 2 (rd_T53 z0 (rd z2 x)).f1 (rd_T53 z0 (rd z2 x)).f2 (rd_T53 z0 (rd z2 x)).f3 (⟨#[]⟩ : ByteArray) 0 [] true).bind fun q => spec_Reopen.l1 k n q.1 q.2 (z2.set x.toNat (z0.length : Int)) h b (wrap64 (x + 1)) else none) else some (z0, z1, z2) else some (z0, z1, z2)
def spec_Reopen.f (k : Nat) (s0 : List S53) (s1 s2 : List Int) (h b : Int) : Option (List S53 × List Int × List Int × Int × Int) :=
 (spec_l8Copy.f k s0 s1 s2 h b).bind fun z => (spec_PageOk.f k s0 s1 s2 h b).bind fun t => if t = true then (spec_Reopen.l0 k s1 s2 (s2.length : Int)).bind fun x => (spec_Reopen.l1 k s2.length z.1 z.2.1 z.2.2.1 z.2.2.2.1 z.2.2.2.2 x).bind fun q => some (q.1, q.2.1, q.2.2, z.2.2.2.1, z.2.2.2.2) else some z
theorem spec_Reopen.calls (k : Nat) (A0 : Option Addr) (c0 : Nat) (s0 : List S53) (A1 : Option Addr) (c1 : Nat) (s1 : List Int) (A2 : Option Addr) (c2 : Nat) (s2 : List Int) (h b : Int) (r1 : List S53) (r2 r3 : List Int) (r4 r5 : Int) (w : World) (hp0 : Kd.C k53 w A0 s0.length s0) (hd0 : s0.length ≤ c0) (hp1 : Kd.C (Kd.int .i64) w A1 s1.length s1) (hd1 : s1.length ≤ c1) (hp2 : Kd.C (Kd.int .i64) w A2 s2.length s2) (hd2 : s2.length ≤ c2) (H : spec_Reopen.f k s0 s1 s2 h b = some (r1, r2, r3, r4, r5)) :
  Calls Tryz.prog 17 #[.agg #[.slice A0 s0.length c0, .slice A1 s1.length c1, .slice A2 s2.length c2, .int .i64 h, .int .i64 b]] w fun e w' => ∃ v0_ v1_ v2_ : Value, e = .returned (.agg #[v0_, v1_, v2_, .int .i64 r4, .int .i64 r5]) ∧ Kd.S k53 53 w' w.heap.size (fun k_ => some k_ ≠ (v1_ : Value).ownBlock ∧ some k_ ≠ (v2_ : Value).ownBlock) v0_ r1 ∧ Kd.R (Kd.int .i64) 3 w' w.heap.size (fun k_ => some k_ ≠ (v2_ : Value).ownBlock) v1_ r2 ∧ Kd.R (Kd.int .i64) 3 w' w.heap.size (fun k_ => some k_ ≠ (v1_ : Value).ownBlock) v2_ r3 ∧ Below w.heap.size w w' := by
 unfold spec_Reopen.f at H
 obtain ⟨⟨z0, z1, z2, z3, z4⟩, hz, H⟩ := Option.bind_eq_some_iff.mp H
 obtain ⟨t, ht, H⟩ := Option.bind_eq_some_iff.mp H
 dsimp only at H
 have hu31 := Tryz.underlying31
 have Hhp0 := am hp0
 have Hhd0 := am hd0
 have Hhp1 := am hp1
 have Hhd1 := am hd1
 have Hhp2 := am hp2
 have Hhd2 := am hd2
 have HX := am (Below.refl w.heap.size w)
 have AZ := am hz
 have AT := am ht
 clear hz ht hp0 hd0 hp1 hd1 hp2 hd2
 cases t with
 | false =>
  simp only [Bool.false_eq_true, if_false, Option.some.injEq, Prod.mk.injEq] at H
  obtain ⟨rfl, rfl, rfl, rfl, rfl⟩ := H
  go_enter Tryz.func17, Tryz.ntmps17
  go_wp2_with (first | ((with_reducible refine gd_ 1 ?_); refine bx_ 1 (cs := #[.slice A0 s0.length c0, .slice A1 s1.length c1, .slice A2 s2.length c2, .int .i64 h, .int .i64 b]) 31 ?_; intro gbp hg wp hbox hb; have GEp := gE HX hg; replace HX := xb HX hb; have BKp := am hbox; clear hb hbox hg) | ((with_reducible refine gd_ 2 ?_); refine bx_ 2 (cs := #[.slice none 0 0, .slice none 0 0, .slice none 0 0, .int .i64 0, .int .i64 0]) 31 ?_; intro gbr hg wq hbox hb; have GEr := gE HX hg; have NEp_r := nE BKp hg; replace BKp := bb BKp hb; replace HX := xb HX hb; have BKr := am hbox; clear hb hbox hg; obtain ⟨h2p0, h2p1, h2p2, h2p3, h2p4⟩ := cl5 BKp) | (go_at_call 26; (with_reducible refine (spec_l8Copy.calls k A0 c0 s0 A1 c1 s1 A2 c2 s2 h b z0 z1 z2 z3 z4 _ ?sa Hhd0.out ?sb Hhd1.out ?sc Hhd2.out AZ.out).mono ?_); (case sa => exact Kd.C_below Hhp0.out HX.out); (case sb => exact Kd.C_below Hhp1.out HX.out); (case sc => exact Kd.C_below Hhp2.out HX.out); rintro e wc ⟨v0, v1, v2, rfl, ho0, ho1, ho2, hb⟩; have LRC := am (show wq.heap.size ≤ wc.heap.size from hb.size); have HO := am ((OwnP.of_copy ho0 ho1 ho2).lower (below_size HX.out)); have LTp := am (blk_lt BKp.out); have LTr := am (blk_lt BKr.out); replace BKp := bb BKp hb; replace BKr := bb BKr hb; replace HX := xb HX hb; obtain ⟨Z0, d0, Z1, d1, Z2, d2, rfl, rfl, rfl, _, _, _⟩ := HO.out.slices; clear ho0 ho1 ho2; clear hb; (try clear h2p0 h2p1 h2p2 h2p3 h2p4)) | ((with_reducible refine gd_ 3 ?_); refine bx_ 3 (cs := #[.slice none 0 0, .slice none 0 0, .slice none 0 0, .int .i64 0, .int .i64 0]) 31 ?_; intro gbo hg wo hbox hb; have GEo := gE HX hg; have NEp_o := nE BKp hg; have NEr_o := nE BKr hg; have GO := am (show wc.heap.size ≤ gbo by rw [hg]; exact Nat.le_refl _); replace HO := ob HO hb; replace BKp := bb BKp hb; replace BKr := bb BKr hb; replace HX := xb HX hb; have BKo := am hbox; clear hb hbox hg; obtain ⟨h4o0, h4o1, h4o2, h4o3, h4o4⟩ := cl5 BKo; obtain ⟨f4o0, f4o1, f4o2, f4o3, f4o4⟩ := fz5 BKo) | ((with_reducible refine gate_store (t := 31) (p := 3) rfl ?_); refine store_event (t := 31) (p := 3) (v := ?voo) (w1 := (st5 wo gbo (.slice Z0 z0.length d0) (.slice Z1 z1.length d1) (.slice Z2 z2.length d2) (.int .i64 z3) (.int .i64 z4))) ?hg ?ho ?hn ?hr ?_; (case ho => rfl); (case hg => rfl); (case hn => rfl); (case hr => first | (go_simp; done) | (go_simp; rfl)); intro ws hw; replace BKp := kS5 hw BKp NEp_o.out; replace BKr := kS5 hw BKr NEr_o.out; replace BKo := sS5 hw BKo; replace HX := bS5 hw HX GEo.out; replace HO := pS5 hw HO (fun k hk e_ => by have := GO.out; have := hk.2; omega); clear hw; (try clear h4o0 h4o1 h4o2 h4o3 h4o4 f4o0 f4o1 f4o2 f4o3 f4o4); obtain ⟨h5p0, h5p1, h5p2, h5p3, h5p4⟩ := cl5 BKp) | (go_at_call 24; (with_reducible refine (spec_PageOk.calls k A0 c0 s0 A1 c1 s1 A2 c2 s2 h b false _ ?sa Hhd0.out ?sb Hhd1.out ?sc Hhd2.out AT.out).mono ?_); (case sa => exact Kd.C_below Hhp0.out HX.out); (case sb => exact Kd.C_below Hhp1.out HX.out); (case sc => exact Kd.C_below Hhp2.out HX.out); rintro e wk ⟨rfl, hb⟩; replace BKp := bb BKp hb; replace BKr := bb BKr hb; replace BKo := bb BKo hb; replace HX := xb HX hb; replace HO := ob HO hb; clear hb; (try clear h5p0 h5p1 h5p2 h5p3 h5p4); obtain ⟨h6r0, h6r1, h6r2, h6r3, h6r4⟩ := cl5 BKr; obtain ⟨f6r0, f6r1, f6r2, f6r3, f6r4⟩ := fz5 BKr; obtain ⟨h6o0, h6o1, h6o2, h6o3, h6o4⟩ := cl5 BKo) | ((with_reducible refine gate_store (t := 31) (p := 2) rfl ?_); refine store_event (t := 31) (p := 2) (v := ?vorwk) (w1 := (st5 wk gbr (.slice Z0 z0.length d0) (.slice Z1 z1.length d1) (.slice Z2 z2.length d2) (.int .i64 z3) (.int .i64 z4))) ?hg ?ho ?hn ?hr ?_; (case ho => rfl); (case hg => rfl); (case hn => rfl); (case hr => first | (go_simp; done) | (go_simp; rfl)); intro wf hw; replace BKp := kS5 hw BKp NEp_r.out; replace BKr := sS5 hw BKr; replace BKo := kS5 hw BKo (Ne.symm NEr_o.out); replace HX := bS5 hw HX GEr.out; have HF := pS5 hw HO (fun k hk e_ => by have := LTr.out; have := hk.1; omega); clear hw; (try clear h6r0 h6r1 h6r2 h6r3 h6r4 f6r0 f6r1 f6r2 f6r3 f6r4 h6o0 h6o1 h6o2 h6o3 h6o4)))
  refine bodyPost_ret (results_cell_row rfl _ _ gbr 31 #[.slice Z0 z0.length d0, .slice Z1 z1.length d1, .slice Z2 z2.length d2, .int .i64 z3, .int .i64 z4] (0, 0) _ rfl BKr.out Tryz.underlying31 rfl (by kernel_rfl)) rfl ?_
  exact ⟨_, _, _, rfl, HF.out.to_copy.1, HF.out.to_copy.2.1, HF.out.to_copy.2.2, HX.out⟩
 | true =>
  simp only [if_true] at H
  obtain ⟨n, hn, H⟩ := Option.bind_eq_some_iff.mp H
  obtain ⟨⟨q0, q1, q2⟩, hq, H⟩ := Option.bind_eq_some_iff.mp H
  dsimp only at hq H
  simp only [Option.some.injEq, Prod.mk.injEq] at H
  obtain ⟨rfl, rfl, rfl, rfl, rfl⟩ := H
  have AN := am hn
  have AQ := am hq
  clear hn hq
  go_enter Tryz.func17, Tryz.ntmps17
  go_upto_block 0 with (first | ((with_reducible refine gd_ 1 ?_); refine bx_ 1 (cs := #[.slice A0 s0.length c0, .slice A1 s1.length c1, .slice A2 s2.length c2, .int .i64 h, .int .i64 b]) 31 ?_; intro gbp hg wp hbox hb; have GEp := gE HX hg; replace HX := xb HX hb; have BKp := am hbox; clear hb hbox hg) | ((with_reducible refine gd_ 2 ?_); refine bx_ 2 (cs := #[.slice none 0 0, .slice none 0 0, .slice none 0 0, .int .i64 0, .int .i64 0]) 31 ?_; intro gbr hg wq hbox hb; have GEr := gE HX hg; have NEp_r := nE BKp hg; replace BKp := bb BKp hb; replace HX := xb HX hb; have BKr := am hbox; clear hb hbox hg; obtain ⟨h2p0, h2p1, h2p2, h2p3, h2p4⟩ := cl5 BKp) | (go_at_call 26; (with_reducible refine (spec_l8Copy.calls k A0 c0 s0 A1 c1 s1 A2 c2 s2 h b z0 z1 z2 z3 z4 _ ?sa Hhd0.out ?sb Hhd1.out ?sc Hhd2.out AZ.out).mono ?_); (case sa => exact Kd.C_below Hhp0.out HX.out); (case sb => exact Kd.C_below Hhp1.out HX.out); (case sc => exact Kd.C_below Hhp2.out HX.out); rintro e wc ⟨v0, v1, v2, rfl, ho0, ho1, ho2, hb⟩; have LRC := am (show wq.heap.size ≤ wc.heap.size from hb.size); have HO := am ((OwnP.of_copy ho0 ho1 ho2).lower (below_size HX.out)); have LTp := am (blk_lt BKp.out); have LTr := am (blk_lt BKr.out); replace BKp := bb BKp hb; replace BKr := bb BKr hb; replace HX := xb HX hb; obtain ⟨Z0, d0, Z1, d1, Z2, d2, rfl, rfl, rfl, _, _, _⟩ := HO.out.slices; clear ho0 ho1 ho2; clear hb; (try clear h2p0 h2p1 h2p2 h2p3 h2p4)) | ((with_reducible refine gd_ 3 ?_); refine bx_ 3 (cs := #[.slice none 0 0, .slice none 0 0, .slice none 0 0, .int .i64 0, .int .i64 0]) 31 ?_; intro gbo hg wo hbox hb; have GEo := gE HX hg; have NEp_o := nE BKp hg; have NEr_o := nE BKr hg; have GO := am (show wc.heap.size ≤ gbo by rw [hg]; exact Nat.le_refl _); replace HO := ob HO hb; replace BKp := bb BKp hb; replace BKr := bb BKr hb; replace HX := xb HX hb; have BKo := am hbox; clear hb hbox hg; obtain ⟨h4o0, h4o1, h4o2, h4o3, h4o4⟩ := cl5 BKo; obtain ⟨f4o0, f4o1, f4o2, f4o3, f4o4⟩ := fz5 BKo) | ((with_reducible refine gate_store (t := 31) (p := 3) rfl ?_); refine store_event (t := 31) (p := 3) (v := ?voo) (w1 := (st5 wo gbo (.slice Z0 z0.length d0) (.slice Z1 z1.length d1) (.slice Z2 z2.length d2) (.int .i64 z3) (.int .i64 z4))) ?hg ?ho ?hn ?hr ?_; (case ho => rfl); (case hg => rfl); (case hn => rfl); (case hr => first | (go_simp; done) | (go_simp; rfl)); intro ws hw; replace BKp := kS5 hw BKp NEp_o.out; replace BKr := kS5 hw BKr NEr_o.out; replace BKo := sS5 hw BKo; replace HX := bS5 hw HX GEo.out; replace HO := pS5 hw HO (fun k hk e_ => by have := GO.out; have := hk.2; omega); clear hw; (try clear h4o0 h4o1 h4o2 h4o3 h4o4 f4o0 f4o1 f4o2 f4o3 f4o4); obtain ⟨h5p0, h5p1, h5p2, h5p3, h5p4⟩ := cl5 BKp) | (go_at_call 24; (with_reducible refine (spec_PageOk.calls k A0 c0 s0 A1 c1 s1 A2 c2 s2 h b true _ ?sa Hhd0.out ?sb Hhd1.out ?sc Hhd2.out AT.out).mono ?_); (case sa => exact Kd.C_below Hhp0.out HX.out); (case sb => exact Kd.C_below Hhp1.out HX.out); (case sc => exact Kd.C_below Hhp2.out HX.out); rintro e wk ⟨rfl, hb⟩; replace BKp := bb BKp hb; replace BKr := bb BKr hb; replace BKo := bb BKo hb; replace HX := xb HX hb; replace HO := ob HO hb; clear hb; (try clear h5p0 h5p1 h5p2 h5p3 h5p4); obtain ⟨h6p0, h6p1, h6p2, h6p3, h6p4⟩ := cl5 BKp))
  go_cut [4] (fun v4 wx => v4 = .int .i64 n ∧ Aside0 (Below wk.heap.size wk wx))
  case first =>
   have HXk := am (Below.refl wk.heap.size wk)
   have HR1 := am (Kd.C_below Hhp1.out HX.out)
   have HR2 := am (Kd.C_below Hhp2.out HX.out)
   go_wp2
   go_loopg [4] k (fun kq v4 w' => ∃ x : Int, v4 = .int .i64 x ∧ Aside0 (spec_Reopen.l0 kq s1 s2 x = some n) ∧ Aside0 (kq ≤ k) ∧ Aside0 (Below wk.heap.size wk w'))
   case atStart => exact ⟨_, rfl, AN, ⟨Nat.le_refl _⟩, HXk⟩
   case round =>
    obtain ⟨x, rfl, HA, HK, HXr⟩ := hrel
    clear HXk AN AQ HO h6p0 h6p1 h6p2 h6p3 h6p4
    cases gk with
    | zero => exact absurd HA.out (by simp [spec_Reopen.l0])
    | succ k1 =>
     have H := HA.out
     clear HA
     simp only [spec_Reopen.l0] at H
     by_cases c1_ : x > 0
     case neg =>
      rw [if_neg c1_] at H
      obtain rfl := Option.some.inj H
      have c1b : decide (x > 0) = false := decide_eq_false c1_
      clear c1_ H
      try go_wp2
      have HXd := am (below_drew1 HXr.out)
      refine start_ (n := 23) (S := fun w' => True) (ds := []) #[false, false, false, false, false, false, false, false, false, false, false, false, false, false, false, false, false, false, false, false, false, false, false] (by kernel_rfl) rfl rfl trivial (fun hHeld => ?_)
      generalize World.drew _ = w5 at HXd hHeld ⊢
      refine pk_ 0 19 ?_
      refine pk_ 1 20 ?_
      refine pk_ 2 21 ?_
      refine pu2_ 3 22 ?_
      refine pu2_ 4 23 ?_
      refine pu2_ 5 24 ?_
      refine pu2_ 6 25 ?_
      refine pu2_ 7 26 ?_
      refine pu2_ 8 27 ?_
      refine pu2_ 9 28 ?_
      refine pk_ 10 29 ?_
      refine pk_ 11 30 ?_
      refine pu2_ 12 31 ?_
      refine pu2_ 13 32 ?_
      refine pu2_ 14 33 ?_
      refine pu2_ 15 34 ?_
      refine pu2_ 16 35 ?_
      refine pu2_ 17 36 ?_
      refine pu2_ 18 37 ?_
      refine pu2_ 19 38 ?_
      refine pu2_ 20 39 ?_
      refine pu2_ 21 40 ?_
      refine pk_ 22 41 ?_
      refine done_ (by kernel_rfl) ?_
      (try clear hHeld)
      go_wp2
      go_meet
      case rel => exact ⟨rfl, HXd⟩
     case pos =>
      rw [if_pos c1_] at H
      have c1b : decide (x > 0) = true := decide_eq_true c1_
      clear c1_
      by_cases c2_ : 0 ≤ wrap64 (x - 1) ∧ wrap64 (x - 1) < (s2.length : Int)
      case neg => rw [if_neg c2_] at H; exact absurd H (by simp)
      rw [if_pos c2_] at H
      obtain ⟨p1, q1⟩ := c2_
      obtain ⟨ad, e1, hx1⟩ := Kd.at_int HR2.out (wrap64 (x - 1)) p1 q1
      subst e1
      replace p1 := eq_true p1
      replace q1 := eq_true q1
      by_cases c3 : rd s2 (wrap64 (x - 1)) = -1
      case pos =>
       rw [if_pos c3] at H
       obtain rfl := Option.some.inj H
       have c3b : (rd s2 (wrap64 (x - 1)) != -1) = false := by rw [c3]; rfl
       clear c3 H
       try go_wp2
       have HXd := am (below_drew1 HXr.out)
       refine start_ (n := 23) (S := fun w' => w'.cell? ⟨gbp, 0, none⟩ = some (.slice A0 s0.length c0) ∧ w'.cell? ⟨gbp, 1, none⟩ = some (.slice A1 s1.length c1) ∧ w'.cell? ⟨gbp, 2, none⟩ = some (.slice (some ad) s2.length c2) ∧ w'.cell? ⟨gbp, 3, none⟩ = some (.int .i64 h) ∧ w'.cell? ⟨gbp, 4, none⟩ = some (.int .i64 b) ∧ w'.cell? (ad.add (wrap64 (x - 1)).toNat) = some (.int .i64 (rd s2 (wrap64 (x - 1))))) (ds := []) #[false, false, false, false, false, false, false, false, false, false, false, false, false, false, false, false, false, false, false, false, false, false, false] (by kernel_rfl) rfl rfl ⟨(blk_cell (blk_below BKp.out HXd.out) 0).trans rfl, (blk_cell (blk_below BKp.out HXd.out) 1).trans rfl, (blk_cell (blk_below BKp.out HXd.out) 2).trans rfl, (blk_cell (blk_below BKp.out HXd.out) 3).trans rfl, (blk_cell (blk_below BKp.out HXd.out) 4).trans rfl, pw_cell_below HXd.out hx1⟩ (fun hHeld => ?_)
       generalize World.drew _ = w5 at HXd hHeld ⊢
       refine pk_ 0 19 ?_
       refine pk_ 1 20 ?_
       refine pk_ 2 21 ?_
       refine pk_ 3 22 ?_
       refine pk_ 5 24 ?_
       refine pk_ 6 25 ?_
       refine tk3_ 4 23 hHeld ?_
       refine pk_ 7 26 ?_
       refine tk3_ 8 27 hHeld ?_
       refine pk_ 9 28 ?_
       refine pk_ 10 29 ?_
       refine pk_ 11 30 ?_
       refine pu2_ 12 31 ?_
       refine pu2_ 13 32 ?_
       refine pu2_ 14 33 ?_
       refine pu2_ 15 34 ?_
       refine pu2_ 16 35 ?_
       refine pu2_ 17 36 ?_
       refine pu2_ 18 37 ?_
       refine pu2_ 19 38 ?_
       refine pu2_ 20 39 ?_
       refine pu2_ 21 40 ?_
       refine pk_ 22 41 ?_
       refine done_ (by kernel_rfl) ?_
       (try clear hHeld)
       go_wp2
       go_meet
       case rel => exact ⟨rfl, HXd⟩
      case neg =>
       rw [if_neg c3] at H
       have c3b : (rd s2 (wrap64 (x - 1)) != -1) = true := bne_iff_ne.mpr c3
       clear c3
       obtain ⟨tt, htt, H⟩ := Option.bind_eq_some_iff.mp H
       have ATt := am htt
       clear htt
       by_cases c4 : tt = 0
       case neg =>
        rw [if_neg c4] at H
        obtain rfl := Option.some.inj H
        have c4b : (tt == 0) = false := beq_eq_false_iff_ne.mpr c4
        clear H c4
        try go_wp2
        have HXd := am (below_drew1 HXr.out)
        refine start_ (n := 23) (S := fun w' => w'.cell? ⟨gbp, 0, none⟩ = some (.slice A0 s0.length c0) ∧ w'.cell? ⟨gbp, 1, none⟩ = some (.slice A1 s1.length c1) ∧ w'.cell? ⟨gbp, 2, none⟩ = some (.slice (some ad) s2.length c2) ∧ w'.cell? ⟨gbp, 3, none⟩ = some (.int .i64 h) ∧ w'.cell? ⟨gbp, 4, none⟩ = some (.int .i64 b) ∧ w'.cell? (ad.add (wrap64 (x - 1)).toNat) = some (.int .i64 (rd s2 (wrap64 (x - 1))))) (ds := []) #[false, false, false, false, false, false, false, false, false, false, false, false, false, false, false, false, false, false, false, false, false, false, false] (by kernel_rfl) rfl rfl ⟨(blk_cell (blk_below BKp.out HXd.out) 0).trans rfl, (blk_cell (blk_below BKp.out HXd.out) 1).trans rfl, (blk_cell (blk_below BKp.out HXd.out) 2).trans rfl, (blk_cell (blk_below BKp.out HXd.out) 3).trans rfl, (blk_cell (blk_below BKp.out HXd.out) 4).trans rfl, pw_cell_below HXd.out hx1⟩ (fun hHeld => ?_)
        generalize World.drew _ = w5 at HXd hHeld ⊢
        refine pk_ 0 19 ?_
        refine pk_ 1 20 ?_
        refine pk_ 2 21 ?_
        refine pk_ 3 22 ?_
        refine pk_ 5 24 ?_
        refine pk_ 6 25 ?_
        refine tk3_ 4 23 hHeld ?_
        refine pk_ 7 26 ?_
        refine tk3_ 8 27 hHeld ?_
        refine pk_ 9 28 ?_
        refine pk_ 10 29 ?_
        refine pk_ 11 30 ?_
        refine pk_ 12 31 ?_
        refine pk_ 14 33 ?_
        refine pk_ 16 35 ?_
        refine pk_ 17 36 ?_
        refine tk3_ 13 32 hHeld ?_
        refine tk3_ 15 34 hHeld ?_
        refine pk_ 18 37 ?_
        refine tk3_ 19 38 hHeld ?_
        refine one_ (i := 20) (N := some 39) #[true, true, true, true, true, true, true, true, true, true, true, true, true, true, true, true, true, true, true, true, true, false, false] rfl rfl (by kernel_rfl) (by decide) (fun K hK => ?_)
        refine goes_ Tryz.func43 (by kernel_rfl) rfl #[.slice A1 s1.length c1, .int .i64 (rd s2 (wrap64 (x - 1)))] (by rfl) rfl rfl ab5 ?_
        refine (spec_l6Count.calls k1 _ _ s1 _ _ _ (Kd.C_below HR1.out HXd.out) Hhd1.out ATt.out).mono ?_
        rintro e w6 ⟨rfl, ⟨nd, rfl⟩⟩
        refine ⟨_, rfl, ?_⟩
        have HXe := am (pw_below_drewN (n := nd) HXd.out)
        clear hHeld HXd
        have HXd := HXe
        clear HXe
        refine hK.out _ _ ⟨(blk_cell (blk_below BKp.out HXd.out) 0).trans rfl, (blk_cell (blk_below BKp.out HXd.out) 1).trans rfl, (blk_cell (blk_below BKp.out HXd.out) 2).trans rfl, (blk_cell (blk_below BKp.out HXd.out) 3).trans rfl, (blk_cell (blk_below BKp.out HXd.out) 4).trans rfl, pw_cell_below HXd.out hx1⟩ (fun hHeld => ?_)
        clear hK K
        refine nk_ 39 ?_
        refine pk_ 21 40 ?_
        refine pk_ 22 41 ?_
        refine done_ (by kernel_rfl) ?_
        (try clear hHeld)
        go_wp2
        go_meet
        case rel => exact ⟨rfl, HXd⟩
       case pos =>
        rw [if_pos c4] at H
        have AH1 := am H
        have c4b : (tt == 0) = true := beq_iff_eq.mpr c4
        clear H c4
        try go_wp2
        have HXd := am (below_drew1 HXr.out)
        refine start_ (n := 23) (S := fun w' => w'.cell? ⟨gbp, 0, none⟩ = some (.slice A0 s0.length c0) ∧ w'.cell? ⟨gbp, 1, none⟩ = some (.slice A1 s1.length c1) ∧ w'.cell? ⟨gbp, 2, none⟩ = some (.slice (some ad) s2.length c2) ∧ w'.cell? ⟨gbp, 3, none⟩ = some (.int .i64 h) ∧ w'.cell? ⟨gbp, 4, none⟩ = some (.int .i64 b) ∧ w'.cell? (ad.add (wrap64 (x - 1)).toNat) = some (.int .i64 (rd s2 (wrap64 (x - 1))))) (ds := []) #[false, false, false, false, false, false, false, false, false, false, false, false, false, false, false, false, false, false, false, false, false, false, false] (by kernel_rfl) rfl rfl ⟨(blk_cell (blk_below BKp.out HXd.out) 0).trans rfl, (blk_cell (blk_below BKp.out HXd.out) 1).trans rfl, (blk_cell (blk_below BKp.out HXd.out) 2).trans rfl, (blk_cell (blk_below BKp.out HXd.out) 3).trans rfl, (blk_cell (blk_below BKp.out HXd.out) 4).trans rfl, pw_cell_below HXd.out hx1⟩ (fun hHeld => ?_)
        generalize World.drew _ = w5 at HXd hHeld ⊢
        refine pk_ 0 19 ?_
        refine pk_ 1 20 ?_
        refine pk_ 2 21 ?_
        refine pk_ 3 22 ?_
        refine pk_ 5 24 ?_
        refine pk_ 6 25 ?_
        refine tk3_ 4 23 hHeld ?_
        refine pk_ 7 26 ?_
        refine tk3_ 8 27 hHeld ?_
        refine pk_ 9 28 ?_
        refine pk_ 10 29 ?_
        refine pk_ 11 30 ?_
        refine pk_ 12 31 ?_
        refine pk_ 14 33 ?_
        refine pk_ 16 35 ?_
        refine pk_ 17 36 ?_
        refine tk3_ 13 32 hHeld ?_
        refine tk3_ 15 34 hHeld ?_
        refine pk_ 18 37 ?_
        refine tk3_ 19 38 hHeld ?_
        refine one_ (i := 20) (N := some 39) #[true, true, true, true, true, true, true, true, true, true, true, true, true, true, true, true, true, true, true, true, true, false, false] rfl rfl (by kernel_rfl) (by decide) (fun K hK => ?_)
        refine goes_ Tryz.func43 (by kernel_rfl) rfl #[.slice A1 s1.length c1, .int .i64 (rd s2 (wrap64 (x - 1)))] (by rfl) rfl rfl ab5 ?_
        refine (spec_l6Count.calls k1 _ _ s1 _ _ _ (Kd.C_below HR1.out HXd.out) Hhd1.out ATt.out).mono ?_
        rintro e w6 ⟨rfl, ⟨nd, rfl⟩⟩
        refine ⟨_, rfl, ?_⟩
        have HXe := am (pw_below_drewN (n := nd) HXd.out)
        clear hHeld HXd
        have HXd := HXe
        clear HXe
        refine hK.out _ _ ⟨(blk_cell (blk_below BKp.out HXd.out) 0).trans rfl, (blk_cell (blk_below BKp.out HXd.out) 1).trans rfl, (blk_cell (blk_below BKp.out HXd.out) 2).trans rfl, (blk_cell (blk_below BKp.out HXd.out) 3).trans rfl, (blk_cell (blk_below BKp.out HXd.out) 4).trans rfl, pw_cell_below HXd.out hx1⟩ (fun hHeld => ?_)
        clear hK K
        refine nk_ 39 ?_
        refine pk_ 21 40 ?_
        refine pk_ 22 41 ?_
        refine done_ (by kernel_rfl) ?_
        (try clear hHeld)
        go_wp2
        go_roundg k1
        case measure => have := HK.out; omega
        case rel => exact ⟨_, rfl, AH1, ⟨by have := HK.out; omega⟩, HXd⟩
  case rest =>
   obtain ⟨rfl, HXc⟩ := hcut
   have LRK := am (show gbr < wq.heap.size from LTr.out)
   have LGO := am (show wq.heap.size ≤ gbo from Nat.le_trans LRC.out GO.out)
   have LPK := am (show gbp < wq.heap.size from LTp.out)
   skip
   have HPS : Aside0 (PgS w.heap.size wk (fun k => wq.heap.size ≤ k ∧ k ≠ gbo) gbo z0 z1 z2 z3 z4) := ⟨⟨_, _, _, BKo.out, GEo.out, fun k hk => hk.2, HO.out.mono (fun k hk => ⟨hk.1, fun e_ => by have h1_ := GO.out; have h2_ := hk.2; omega⟩)⟩⟩
   replace HPS := am (HPS.out.below HXc.out)
   replace HX := am (below_step HX.out HXc.out)
   replace BKp := bb BKp HXc.out
   replace BKr := bb BKr HXc.out
   clear HXc AN HO BKo h6p0 h6p1 h6p2 h6p3 h6p4
   obtain ⟨hp0, hp1, hp2, hp3, hp4⟩ := cl5 BKp
   go_wp2
   go_loopg [5] k (fun kq v5 w' => ∃ (x : Int) (y0 : List S53) (y1 y2 : List Int), v5 = .int .i64 x ∧ Aside0 (spec_Reopen.l1 kq s2.length y0 y1 y2 z3 z4 x = some (q0, q1, q2)) ∧ Aside0 (kq ≤ k) ∧ Aside0 (PgS w.heap.size w' (fun k => wq.heap.size ≤ k ∧ k ≠ gbo) gbo y0 y1 y2 z3 z4) ∧ Aside0 (w'.heap[gbp]? = some (.cells #[.slice A0 s0.length c0, .slice A1 s1.length c1, .slice A2 s2.length c2, .int .i64 h, .int .i64 b] 31 (0, 0))) ∧ Aside0 (w'.heap[gbr]? = some (.cells #[.slice none 0 0, .slice none 0 0, .slice none 0 0, .int .i64 0, .int .i64 0] 31 (0, 0))) ∧ Aside0 (Below w.heap.size w w'))
   case atStart => exact ⟨_, z0, z1, z2, rfl, AQ, ⟨Nat.le_refl _⟩, HPS, BKp, BKr, HX⟩
   case round =>
    clear HPS AQ BKp BKr HX hp0 hp1 hp2 hp3 hp4
    obtain ⟨x, y0, y1, y2, rfl, HA, HK, HPS, BKp, BKr, HX⟩ := hrel
    cases gk with
    | zero => exact absurd HA.out (by simp [spec_Reopen.l1])
    | succ k1 =>
     have H := HA.out
     clear HA
     simp only [spec_Reopen.l1] at H
     obtain ⟨v0, v1, v2, hg, hgb, hU, hO⟩ := HPS.out
     obtain ⟨Z0, d0, Z1, d1, Z2, d2, rfl, rfl, rfl, R0, R1, R2⟩ := hO.slices
     have BKo := am hg
     have HU := am hU
     have HO := am hO
     have HR0 := am R0
     have HR1 := am R1
     have HR2 := am R2
     clear hg hgb hU hO R0 R1 R2
     obtain ⟨-, -, hp2, -, -⟩ := cl5 BKp
     obtain ⟨ho0, ho1, ho2, ho3, ho4⟩ := cl5 BKo
     obtain ⟨hr0, hr1, hr2, hr3, hr4⟩ := cl5 BKr
     obtain ⟨fr0, fr1, fr2, fr3, fr4⟩ := fz5 BKr
     by_cases c1_ : x < (s2.length : Int)
     case neg =>
      rw [if_neg c1_] at H
      have c1b : decide (x < (s2.length : Int)) = false := decide_eq_false c1_
      clear c1_
      simp only [Option.some.injEq, Prod.mk.injEq] at H
      obtain ⟨rfl, rfl, rfl⟩ := H
      go_upto_region 17 with fail
      clear hp2
      go_wp2_with (first | ((with_reducible refine gate_store (t := 31) (p := 2) rfl ?_); refine store_event (t := 31) (p := 2) (v := ?vof1) (w1 := (st5 wr gbr (.slice Z0 y0.length d0) (.slice Z1 y1.length d1) (.slice Z2 y2.length d2) (.int .i64 z3) (.int .i64 z4))) ?hg ?ho ?hn ?hr ?_; (case ho => rfl); (case hg => rfl); (case hn => rfl); (case hr => first | (go_simp; done) | (go_simp; rfl)); intro wf hw; replace BKr := sS5 hw BKr; replace HX := bS5 hw HX GEr.out; have HF := pS5 hw HO (fun k hk e_ => by have h1_ := LRK.out; have h2_ := hk.1; omega); clear hw))
      refine bodyPost_ret (results_cell_row rfl _ _ gbr 31 #[.slice Z0 y0.length d0, .slice Z1 y1.length d1, .slice Z2 y2.length d2, .int .i64 z3, .int .i64 z4] (0, 0) _ rfl BKr.out Tryz.underlying31 rfl (by kernel_rfl)) rfl ?_
      exact ⟨_, _, _, rfl, HF.out.to_copy.1, HF.out.to_copy.2.1, HF.out.to_copy.2.2, HX.out⟩
     case pos =>
      rw [if_pos c1_] at H
      have c1b : decide (x < (s2.length : Int)) = true := decide_eq_true c1_
      clear c1_
      obtain ⟨u, hu, H⟩ := Option.bind_eq_some_iff.mp H
      have AU := am hu
      clear hu
      cases u with
      | false =>
       simp only [Bool.false_eq_true, if_false, Option.some.injEq, Prod.mk.injEq] at H
       obtain ⟨rfl, rfl, rfl⟩ := H
       go_wp2_with (first | (go_at_call 25; (refine (spec_l9Room.calls Z0 d0 y0 Z1 d1 y1 Z2 d2 y2 z3 z4 false _ HR0.out.2 HR0.out.1 HR1.out.2 HR1.out.1 HR2.out.2 HR2.out.1 AU.out).mono ?_); rintro e wa ⟨rfl, hb⟩; replace BKp := bb BKp hb; replace BKr := bb BKr hb; replace BKo := bb BKo hb; replace HO := ob HO hb; replace HPS := am (HPS.out.below hb); replace HX := xb HX hb; clear hb hp2 ho0 ho1 ho2 ho3 ho4 hr0 hr1 hr2 hr3 hr4 fr0 fr1 fr2 fr3 fr4; obtain ⟨ho0, ho1, ho2, ho3, ho4⟩ := cl5 BKo; obtain ⟨hr0, hr1, hr2, hr3, hr4⟩ := cl5 BKr; obtain ⟨fr0, fr1, fr2, fr3, fr4⟩ := fz5 BKr) | ((with_reducible refine gate_store (t := 31) (p := 2) rfl ?_); refine store_event (t := 31) (p := 2) (v := ?vof2) (w1 := (st5 wa gbr (.slice Z0 y0.length d0) (.slice Z1 y1.length d1) (.slice Z2 y2.length d2) (.int .i64 z3) (.int .i64 z4))) ?hg ?ho ?hn ?hr ?_; (case ho => rfl); (case hg => rfl); (case hn => rfl); (case hr => first | (go_simp; done) | (go_simp; rfl)); intro wf hw; replace BKr := sS5 hw BKr; replace HX := bS5 hw HX GEr.out; have HF := pS5 hw HO (fun k hk e_ => by have h1_ := LRK.out; have h2_ := hk.1; omega); clear hw))
       refine bodyPost_ret (results_cell_row rfl _ _ gbr 31 #[.slice Z0 y0.length d0, .slice Z1 y1.length d1, .slice Z2 y2.length d2, .int .i64 z3, .int .i64 z4] (0, 0) _ rfl BKr.out Tryz.underlying31 rfl (by kernel_rfl)) rfl ?_
       exact ⟨_, _, _, rfl, HF.out.to_copy.1, HF.out.to_copy.2.1, HF.out.to_copy.2.2, HX.out⟩
      | true =>
       simp only [if_true] at H
       by_cases c2_ : (0 ≤ x ∧ x < (y2.length : Int) ∧ 0 ≤ rd y2 x ∧ rd y2 x < (y0.length : Int)) ∧ (rd_T53 y0 (rd y2 x)).f3.length < 4398046511104
       case neg => rw [if_neg c2_] at H; exact absurd H (by simp)
       rw [if_pos c2_] at H
       obtain ⟨⟨p1, q1_, p2, q2_⟩, hl⟩ := c2_
       obtain ⟨⟨pl1, pl2⟩, hpl, H⟩ := Option.bind_eq_some_iff.mp H
       obtain ⟨⟨t0, t1⟩, hta, H⟩ := Option.bind_eq_some_iff.mp H
       dsimp only at hta H
       have APL := am hpl
       have ATA := am hta
       have AH := am H
       have HL := am hl
       clear hpl hta H hl
       have P1 := am p1
       have Q1 := am q1_
       obtain ⟨ad, e1, hx1⟩ := Kd.at_int HR2.out.2 x p1 q1_
       subst e1
       obtain ⟨bd, A3, c3, A6, c6, e2, hy0, hy1, hy2, hy3, hy4, hy5, hy6, hl3, hi3, hl6, hi6⟩ := at_T53 HR0.out.2 (rd y2 x) p2 q2_
       subst e2
       have HL3 := am hl3
       have HI3 := am hi3
       clear hl3 hi3 hl6 hi6
       replace p1 := eq_true p1
       replace q1_ := eq_true q1_
       replace p2 := eq_true p2
       replace q2_ := eq_true q2_
       have HXY := am (Below.refl _ _ : Below wr.heap.size wr wr)
       go_wp2_with (first | (go_at_call 25; (refine (spec_l9Room.calls _ d0 y0 _ d1 y1 _ d2 y2 z3 z4 true _ HR0.out.2 HR0.out.1 HR1.out.2 HR1.out.1 HR2.out.2 HR2.out.1 AU.out).mono ?_); rintro e wa ⟨rfl, hb⟩; replace BKp := bb BKp hb; replace BKr := bb BKr hb; replace BKo := bb BKo hb; replace HO := ob HO hb; replace HPS := am (HPS.out.below hb); replace HX := xb HX hb; replace HXY := xb HXY hb; clear hb hp2 ho0 ho1 ho2 ho3 ho4 hr0 hr1 hr2 hr3 hr4 fr0 fr1 fr2 fr3 fr4))
       replace HO := am (HO.out.bound.mono (U' := fun k => (wq.heap.size ≤ k ∧ k ≠ gbo) ∧ k < wa.heap.size) (fun k hk => ⟨hk.1, hk.2.2⟩))
       have HXd := am (below_drew1 (Below.refl wa.heap.size wa))
       have HXz := am (below_drew1 HXY.out)
       refine start_ (n := 11) (S := fun w' => w'.cell? ⟨gbo, 0, none⟩ = some (.slice (some bd) y0.length d0) ∧ w'.cell? ⟨gbo, 1, none⟩ = some (.slice Z1 y1.length d1) ∧ w'.cell? ⟨gbo, 2, none⟩ = some (.slice (some ad) y2.length d2) ∧ w'.cell? ⟨gbo, 3, none⟩ = some (.int .i64 z3) ∧ w'.cell? ⟨gbo, 4, none⟩ = some (.int .i64 z4) ∧ w'.cell? (ad.add x.toNat) = some (.int .i64 (rd y2 x)) ∧ w'.cell? (bd.add ((rd y2 x).toNat * 7)) = some (.int .i64 (rd_T53 y0 (rd y2 x)).f0) ∧ w'.cell? ⟨(bd.add ((rd y2 x).toNat * 7)).block, (bd.add ((rd y2 x).toNat * 7)).off + 1, none⟩ = some (.int .i64 (rd_T53 y0 (rd y2 x)).f1) ∧ w'.cell? ⟨(bd.add ((rd y2 x).toNat * 7)).block, (bd.add ((rd y2 x).toNat * 7)).off + 2, none⟩ = some (.string (rd_T53 y0 (rd y2 x)).f2) ∧ w'.cell? ⟨(bd.add ((rd y2 x).toNat * 7)).block, (bd.add ((rd y2 x).toNat * 7)).off + 3, none⟩ = some (.slice A3 (rd_T53 y0 (rd y2 x)).f3.length c3) ∧ w'.cell? ⟨(bd.add ((rd y2 x).toNat * 7)).block, (bd.add ((rd y2 x).toNat * 7)).off + 4, none⟩ = some (.string (rd_T53 y0 (rd y2 x)).f4) ∧ w'.cell? ⟨(bd.add ((rd y2 x).toNat * 7)).block, (bd.add ((rd y2 x).toNat * 7)).off + 5, none⟩ = some (.int .i64 (rd_T53 y0 (rd y2 x)).f5) ∧ w'.cell? ⟨(bd.add ((rd y2 x).toNat * 7)).block, (bd.add ((rd y2 x).toNat * 7)).off + 6, none⟩ = some (.slice A6 (rd_T53 y0 (rd y2 x)).f6.length c6)) (ds := [10]) #[false, false, false, false, false, false, false, false, false, false, false] (by kernel_rfl) rfl rfl ⟨(blk_cell (blk_below BKo.out HXd.out) 0).trans rfl, (blk_cell (blk_below BKo.out HXd.out) 1).trans rfl, (blk_cell (blk_below BKo.out HXd.out) 2).trans rfl, (blk_cell (blk_below BKo.out HXd.out) 3).trans rfl, (blk_cell (blk_below BKo.out HXd.out) 4).trans rfl, pw_cell_below HXz.out hx1, pw_cell_below HXz.out hy0, pw_cell_below HXz.out hy1, pw_cell_below HXz.out hy2, pw_cell_below HXz.out hy3, pw_cell_below HXz.out hy4, pw_cell_below HXz.out hy5, pw_cell_below HXz.out hy6⟩ (fun hHeld => ?_)
       generalize World.drew _ = w5 at HXd HXz hHeld ⊢
       refine pk_ 0 56 ?_
       refine pk_ 2 58 ?_
       refine pk_ 4 60 ?_
       refine tk3_ 1 57 hHeld ?_
       refine tk3_ 3 59 hHeld ?_
       refine pk_ 5 61 ?_
       refine tk3_ 6 62 hHeld ?_
       refine pk_ 7 63 ?_
       refine tk3_ 8 64 hHeld ?_
       refine one_ (i := 9) (N := some 6) #[true, true, true, true, true, true, true, true, true, true, false] rfl rfl (by kernel_rfl) (by decide) (fun K hK => ?_)
       refine box_step ?hg (N := 6) ?hd (cs := #[.int .i64 0, .int .i64 0, .string (⟨#[]⟩ : ByteArray), .slice none 0 0, .string (⟨#[]⟩ : ByteArray), .int .i64 0, .slice none 0 0]) (t := 53) ?hr ?_; (case hd => rfl); (case hg => rfl); (case hr => first | (go_simp; done) | (go_simp; rfl))
       intro gbi hg w6 hbox hb
       have GI := am (show wa.heap.size ≤ gbi by rw [hg]; exact below_size HXd.out)
       have BI := am hbox
       replace HXd := xb HXd hb
       replace HXz := xb HXz hb
       clear hHeld hbox hg hb
       refine hK.out _ _ ⟨(blk_cell (blk_below BKo.out HXd.out) 0).trans rfl, (blk_cell (blk_below BKo.out HXd.out) 1).trans rfl, (blk_cell (blk_below BKo.out HXd.out) 2).trans rfl, (blk_cell (blk_below BKo.out HXd.out) 3).trans rfl, (blk_cell (blk_below BKo.out HXd.out) 4).trans rfl, pw_cell_below HXz.out hx1, pw_cell_below HXz.out hy0, pw_cell_below HXz.out hy1, pw_cell_below HXz.out hy2, pw_cell_below HXz.out hy3, pw_cell_below HXz.out hy4, pw_cell_below HXz.out hy5, pw_cell_below HXz.out hy6⟩ (fun hHeld => ?_)
       clear hK K
       refine nk_ 6 ?_
       refine last_ (i := 10) (N := none) #[true, true, true, true, true, true, true, true, true, true, true] rfl rfl (by kernel_rfl) (by decide) (fun K hK => ?_)
       obtain ⟨hfi0, hfi1, hfi2, hfi3, hfi4, hfi5, hfi6⟩ := fz7 BI
       obtain ⟨hci0, hci1, hci2, hci3, hci4, hci5, hci6⟩ := cl7 BI
       refine skip_ (w1 := st7 w6 gbi (.int .i64 (rd_T53 y0 (rd y2 x)).f0) (.int .i64 (rd_T53 y0 (rd y2 x)).f1) (.string (rd_T53 y0 (rd y2 x)).f2) (.slice A3 (rd_T53 y0 (rd y2 x)).f3.length c3) (.string (rd_T53 y0 (rd y2 x)).f4) (.int .i64 (rd_T53 y0 (rd y2 x)).f5) (.slice A6 (rd_T53 y0 (rd y2 x)).f6.length c6)) (by rfl) rfl ?_ ?_
       ·first | (go_simp; done) | (go_simp; rfl)
       refine hK.out _ _ ?_
       clear hK K hHeld hfi0 hfi1 hfi2 hfi3 hfi4 hfi5 hfi6 hci0 hci1 hci2 hci3 hci4 hci5 hci6 hx1 hy0 hy1 hy2 hy3 hy4 hy5 hy6 HXz
       obtain ⟨w7, hw⟩ : ∃ w', w' = st7 w6 gbi (.int .i64 (rd_T53 y0 (rd y2 x)).f0) (.int .i64 (rd_T53 y0 (rd y2 x)).f1) (.string (rd_T53 y0 (rd y2 x)).f2) (.slice A3 (rd_T53 y0 (rd y2 x)).f3.length c3) (.string (rd_T53 y0 (rd y2 x)).f4) (.int .i64 (rd_T53 y0 (rd y2 x)).f5) (.slice A6 (rd_T53 y0 (rd y2 x)).f6.length c6) := ⟨_, rfl⟩
       rw [← hw]
       replace BI := sS7 hw BI
       have HX7 := bS7 hw HXd GI.out
       clear hw HXd
       refine done_ (by kernel_rfl) ?_
       have HI7 := am (Kd.C_below (Kd.C_below HI3.out HXY.out) HX7.out)
       replace BKp := bb BKp HX7.out
       replace BKr := bb BKr HX7.out
       replace BKo := bb BKo HX7.out
       replace HO := ob HO HX7.out
       replace HX := xb HX HX7.out
       clear HX7 HXY HI3 HR0 HR1 HR2 HPS
       have HY := am (OwnP.reads HO.out)
       obtain ⟨ho0, ho1, ho2, ho3, ho4⟩ := cl5 BKo
       go_wp2_with (first | (go_at_call 27; (refine (spec_l9Place.calls k1 _ _ y0 _ _ y1 _ _ y2 z3 z4 pl1 pl2 _ HY.out.1.2.2 HY.out.1.2.1 HY.out.2.1.2.2 HY.out.2.1.2.1 HY.out.2.2.2.2 HY.out.2.2.2.1 APL.out).mono ?_); rintro e w8 ⟨rfl, hb⟩; replace BKp := bb BKp hb; replace BKr := bb BKr hb; replace BKo := bb BKo hb; replace BI := bb BI hb; replace HO := ob HO hb; replace HX := xb HX hb; replace HI7 := am (Kd.C_below HI7.out hb); replace GI := am GI.out; clear hb HY ho0 ho1 ho2 ho3 ho4))
       have HXd := am (below_drew1 (Below.refl w8.heap.size w8))
       refine start_ (n := 14) (S := fun w' => w'.cell? ⟨gbo, 0, none⟩ = some (.slice (some bd) y0.length d0) ∧ w'.cell? ⟨gbo, 1, none⟩ = some (.slice Z1 y1.length d1) ∧ w'.cell? ⟨gbo, 2, none⟩ = some (.slice (some ad) y2.length d2) ∧ w'.cell? ⟨gbo, 3, none⟩ = some (.int .i64 z3) ∧ w'.cell? ⟨gbo, 4, none⟩ = some (.int .i64 z4) ∧ w'.cell? ⟨gbi, 0, none⟩ = some (.int .i64 (rd_T53 y0 (rd y2 x)).f0) ∧ w'.cell? ⟨gbi, 1, none⟩ = some (.int .i64 (rd_T53 y0 (rd y2 x)).f1) ∧ w'.cell? ⟨gbi, 2, none⟩ = some (.string (rd_T53 y0 (rd y2 x)).f2) ∧ w'.cell? ⟨gbi, 3, none⟩ = some (.slice A3 (rd_T53 y0 (rd y2 x)).f3.length c3) ∧ w'.cell? ⟨gbi, 4, none⟩ = some (.string (rd_T53 y0 (rd y2 x)).f4) ∧ w'.cell? ⟨gbi, 5, none⟩ = some (.int .i64 (rd_T53 y0 (rd y2 x)).f5) ∧ w'.cell? ⟨gbi, 6, none⟩ = some (.slice A6 (rd_T53 y0 (rd y2 x)).f6.length c6)) (ds := [13]) #[false, false, false, false, false, false, false, false, false, false, false, false, false, false] (by kernel_rfl) rfl rfl ⟨(blk_cell (blk_below BKo.out HXd.out) 0).trans rfl, (blk_cell (blk_below BKo.out HXd.out) 1).trans rfl, (blk_cell (blk_below BKo.out HXd.out) 2).trans rfl, (blk_cell (blk_below BKo.out HXd.out) 3).trans rfl, (blk_cell (blk_below BKo.out HXd.out) 4).trans rfl, (blk_cell (blk_below BI.out HXd.out) 0).trans rfl, (blk_cell (blk_below BI.out HXd.out) 1).trans rfl, (blk_cell (blk_below BI.out HXd.out) 2).trans rfl, (blk_cell (blk_below BI.out HXd.out) 3).trans rfl, (blk_cell (blk_below BI.out HXd.out) 4).trans rfl, (blk_cell (blk_below BI.out HXd.out) 5).trans rfl, (blk_cell (blk_below BI.out HXd.out) 6).trans rfl⟩ (fun hHeld => ?_)
       generalize World.drew _ = w9 at HXd hHeld ⊢
       refine pk_ 1 74 ?_
       refine pk_ 2 75 ?_
       refine pk_ 3 76 ?_
       refine pk_ 6 79 ?_
       refine pk_ 9 82 ?_
       refine tk3_ 0 73 hHeld ?_
       refine tk3_ 4 77 hHeld ?_
       refine tk3_ 7 80 hHeld ?_
       refine tk3_ 10 83 hHeld ?_
       refine one_ (i := 5) (N := some 78) #[true, true, true, true, true, true, true, true, false, true, true, false, false, false] rfl rfl (by kernel_rfl) (by decide) (fun K hK => ?_)
       refine Kd.R_lit_step k56 _ 56 ?hg (N := 78) ?hd (xs := ([] : List S56)) (inner := []) (ok := fun _ => True) (okp := fun _ => True) ?hr ?hp (fun _ hk => hk) trivial (Below.refl _ _) (Nat.le_refl _) (by simp) ?_; (case hd => rfl); (case hg => rfl); (case hr => first | (go_simp; done) | (go_simp; rfl)); (case hp => exact (Reps.none _ _))
       intro va w10 hoa hb hg_ hnew_
       have LA := am (show w8.heap.size ≤ w9.heap.size from below_size HXd.out)
       have HA := am (Kd.R_lower hoa LA.out)
       replace HXd := xb HXd hb
       clear hg_ hnew_ hoa hb hHeld
       refine hK.out _ _ ⟨(blk_cell (blk_below BKo.out HXd.out) 0).trans rfl, (blk_cell (blk_below BKo.out HXd.out) 1).trans rfl, (blk_cell (blk_below BKo.out HXd.out) 2).trans rfl, (blk_cell (blk_below BKo.out HXd.out) 3).trans rfl, (blk_cell (blk_below BKo.out HXd.out) 4).trans rfl, (blk_cell (blk_below BI.out HXd.out) 0).trans rfl, (blk_cell (blk_below BI.out HXd.out) 1).trans rfl, (blk_cell (blk_below BI.out HXd.out) 2).trans rfl, (blk_cell (blk_below BI.out HXd.out) 3).trans rfl, (blk_cell (blk_below BI.out HXd.out) 4).trans rfl, (blk_cell (blk_below BI.out HXd.out) 5).trans rfl, (blk_cell (blk_below BI.out HXd.out) 6).trans rfl⟩ (fun hHeld => ?_)
       clear hK K
       refine nk_ 78 ?_
       refine one_ (i := 8) (N := some 81) #[true, true, true, true, true, true, true, true, true, true, true, false, false, false] rfl rfl (by kernel_rfl) (by decide) (fun K hK => ?_)
       refine Kd.R_append_rows_step k56 (w0 := w8) w8.heap.size rfl (.tmp 78) (.tmp 80) 34 56 (.agg #[(.string ⟨#[]⟩), (.string ⟨#[]⟩)]) 32 rfl Tryz.underlying34 info56 rfl (by decide) (by omega) va ([] : List S56) (rd_T53 y0 (rd y2 x)).f3 _ _ _ (fun _ => True) (fun _ => False) rfl rfl ?aO ?aR (fun _ _ h => h) (fun _ h => h.elim) ?aF ?aB ?aS ?aL ?_; (case aR => exact Kd.C_below HI7.out HXd.out); (case aB => exact HXd.out); (case aF => exact fun _ _ => trivial); (case aO => exact HA.out); (case aS => exact below_size HXd.out); (case aL => have h_ := HL.out; simp only [List.length_nil]; omega)
       intro vb w11 hob hb hg hat
       rw [List.nil_append] at hob
       have HB3 := am hob
       replace HXd := am hb
       clear hob hb hg hat hHeld HA
       refine hK.out _ _ ⟨(blk_cell (blk_below BKo.out HXd.out) 0).trans rfl, (blk_cell (blk_below BKo.out HXd.out) 1).trans rfl, (blk_cell (blk_below BKo.out HXd.out) 2).trans rfl, (blk_cell (blk_below BKo.out HXd.out) 3).trans rfl, (blk_cell (blk_below BKo.out HXd.out) 4).trans rfl, (blk_cell (blk_below BI.out HXd.out) 0).trans rfl, (blk_cell (blk_below BI.out HXd.out) 1).trans rfl, (blk_cell (blk_below BI.out HXd.out) 2).trans rfl, (blk_cell (blk_below BI.out HXd.out) 3).trans rfl, (blk_cell (blk_below BI.out HXd.out) 4).trans rfl, (blk_cell (blk_below BI.out HXd.out) 5).trans rfl, (blk_cell (blk_below BI.out HXd.out) 6).trans rfl⟩ (fun hHeld => ?_)
       clear hK K
       refine nk_ 81 ?_
       obtain ⟨Ab, cb, rfl⟩ := Kd.R_slice HB3.out
       refine pk_ 11 84 ?_
       refine one_ (i := 12) (N := some 85) #[true, true, true, true, true, true, true, true, true, true, true, true, true, false] rfl rfl (by kernel_rfl) (by decide) (fun K hK => ?_)
       refine goes_ Tryz.func28 (by kernel_rfl) rfl #[.agg #[.slice (some bd) y0.length d0, .slice Z1 y1.length d1, .slice (some ad) y2.length d2, .int .i64 z3, .int .i64 z4], .int .i64 pl1, .int .i64 pl2, .agg #[.int .i64 2, .int .i64 (rd_T53 y0 (rd y2 x)).f1, .string (rd_T53 y0 (rd y2 x)).f2, .slice Ab (rd_T53 y0 (rd y2 x)).f3.length cb, .string (⟨#[]⟩ : ByteArray), .int .i64 0, .slice none 0 0], .bool true] (by rfl) rfl rfl ab5 ?_
       have HOx := ob HO HXd.out
       have HXx := xb HX HXd.out
       refine (spec_l9Tag.calls _ _ d0 y0 _ d1 y1 _ d2 y2 z3 z4 pl1 pl2 2 _ _ Ab cb _ (⟨#[]⟩ : ByteArray) 0 none 0 [] true t0 t1 w _ HOx.out HXx.out (Kd.R_reads' HB3.out).2.2 (Kd.R_reads' HB3.out).2.1 (Kd.C_nil _ _) (Nat.le_refl 0) ATA.out).mono ?_
       rintro e w12 ⟨u0, u1, rfl, ho, hb, hk⟩
       obtain ⟨T0, e0, T1, e1, T2, e2, ey0, ey1, ey2, _, _, _⟩ := ho.slices
       subst ey0
       subst ey1
       clear ey2
       refine ⟨_, rfl, ?_⟩
       have LSo := am (show gbo < w11.heap.size from blk_lt (blk_below BKo.out HXd.out))
       have BKo2 := am (blk_kept (blk_below BKo.out HXd.out) hk (fun q_ => q_.1.2 rfl))
       have BKp2 := am (blk_kept (blk_below BKp.out HXd.out) hk (fun q_ => by have h1_ := LPK.out; have h2_ := q_.1.1; omega))
       have BKr2 := am (blk_kept (blk_below BKr.out HXd.out) hk (fun q_ => by have h1_ := LRK.out; have h2_ := q_.1.1; omega))
       have BI2 := am (blk_kept (blk_below BI.out HXd.out) hk (fun q_ => by have h1_ := GI.out; have h2_ := q_.2; omega))
       have HO2 := am ho
       have HX2 := am hb
       have LW12 := am (show w11.heap.size ≤ w12.heap.size from hk.1)
       have LK2 := am (show wq.heap.size ≤ w11.heap.size from by have h1_ := LGO.out; have h2_ := LSo.out; omega)
       clear ho hb hk hHeld BKo BKp BKr BI HO HX HOx HXx HXd HB3
       refine hK.out _ _ ⟨(blk_cell BKo2.out 0).trans rfl, (blk_cell BKo2.out 1).trans rfl, (blk_cell BKo2.out 2).trans rfl, (blk_cell BKo2.out 3).trans rfl, (blk_cell BKo2.out 4).trans rfl, (blk_cell BI2.out 0).trans rfl, (blk_cell BI2.out 1).trans rfl, (blk_cell BI2.out 2).trans rfl, (blk_cell BI2.out 3).trans rfl, (blk_cell BI2.out 4).trans rfl, (blk_cell BI2.out 5).trans rfl, (blk_cell BI2.out 6).trans rfl⟩ (fun hHeld => ?_)
       clear hK K hHeld
       refine nk_ 85 ?_
       refine last_ (i := 13) (N := none) #[true, true, true, true, true, true, true, true, true, true, true, true, true, true] rfl rfl (by kernel_rfl) (by decide) (fun K hK => ?_)
       obtain ⟨ho0, ho1, ho2, ho3, ho4⟩ := cl5 BKo2
       obtain ⟨fo0, fo1, fo2, fo3, fo4⟩ := fz5 BKo2
       refine skip_ (w1 := st5 w12 gbo (.slice T0 t0.length e0) (.slice T1 t1.length e1) (.slice (some ad) y2.length d2) (.int .i64 z3) (.int .i64 z4)) (by rfl) rfl ?_ ?_
       ·first | (go_simp; done) | (go_simp; rfl)
       refine hK.out _ _ ?_
       clear hK K ho0 ho1 ho2 ho3 ho4 fo0 fo1 fo2 fo3 fo4 BI2
       obtain ⟨w13, hw⟩ : ∃ w', w' = st5 w12 gbo (.slice T0 t0.length e0) (.slice T1 t1.length e1) (.slice (some ad) y2.length d2) (.int .i64 z3) (.int .i64 z4) := ⟨_, rfl⟩
       rw [← hw]
       have BKo3 := sS5 hw BKo2
       have BKp3 := kS5 hw BKp2 (by have h1_ := LPK.out; have h2_ := LGO.out; omega)
       have BKr3 := kS5 hw BKr2 (by have h1_ := LRK.out; have h2_ := LGO.out; omega)
       have HO3 := pS5 hw HO2 (fun k hk e_ => by have h2_ := LSo.out; rcases hk with hk | hk; exact hk.1.2 e_; omega)
       have HX3 := bS5 hw HX2 GEo.out
       have Z3 := am (zS5 hw)
       clear hw BKo2 BKp2 BKr2 HO2 HX2
       refine done_ (by kernel_rfl) ?_
       obtain ⟨P2, hP2, hr2, hback⟩ := HO3.out.forms
       have HBK := am hback
       have HP2 := am hP2
       have HR2 := am hr2
       clear hback hP2 hr2
       obtain ⟨go, co, eo, gb_, gl_, cl_, hgo⟩ := Kd.R_form HR2.out (by have := P1.out; have := Q1.out; omega)
       (first | cases eo | (injection eo with ea_ en_ ec_; (first | subst ea_ | (injection ea_ with ea_; subst ea_)); subst ec_; clear en_))
       have HMgo := am (show P2 go from HR2.out.1 _ rfl)
       have GOo := am gb_
       clear gb_ gl_ hgo
       obtain ⟨hxo, hfo⟩ := Kd.R_celln 0 HR2.out x P1.out Q1.out
       have HPG := am (Kd.R_putg HR2.out x (y0.length : Int))
       have NGO := am (show go ≠ gbo ∧ go ≠ gbp ∧ go ≠ gbr by have h1_ := HP2.out _ HMgo.out; have h2_ := LSo.out; have h3_ := LPK.out; have h4_ := LRK.out; have h5_ := LK2.out; rcases h1_ with h1_ | h1_; exact ⟨h1_.1.2, by have := h1_.1.1; omega, by have := h1_.1.1; omega⟩; exact ⟨by omega, by omega, by omega⟩)
       obtain ⟨ho0, ho1, ho2, ho3, ho4⟩ := cl5 BKo3
       go_wp2_with (first | ((with_reducible refine gate_store (t := 3) (p := 90) rfl ?_); refine store_event (t := 3) (p := 90) (v := ?vo9) (w1 := (w13.setCell ⟨go, x.toNat, none⟩ (.int .i64 (y0.length : Int)))) ?hg ?ho ?hn ?hr ?_; (case ho => rfl); (case hg => rfl); (case hn => rfl); (case hr => first | (go_simp; done) | (go_simp; rfl)); intro w14 hw; have HK9 := am (show Kept w13 w14 P2 by rw [hw]; exact Kept.setCell (p := ⟨go, x.toNat, none⟩) (Kept.refl _ _) (Or.inl HMgo.out) _); have HR9 : Kd.R (Kd.int .i64) 3 w14 w.heap.size (fun k => P2 k ∨ w13.heap.size ≤ k) (.slice (some ⟨go, 0, none⟩) y2.length d2) (y2.set x.toNat (y0.length : Int)) := (by rw [hw]; exact Kd.R_mono HPG.out.1 (fun k q => Or.inl q)); have hO9 := HBK.out _ _ _ HR9 HK9.out; have BKp9 := am (blk_kept BKp3.out HK9.out (fun q_ => absurd q_ (fun q_ => by have h1_ := HP2.out _ q_; have h3_ := LPK.out; have h5_ := LK2.out; rcases h1_ with h1_ | h1_; (have := h1_.1.1; omega); omega))); have BKr9 := am (blk_kept BKr3.out HK9.out (fun q_ => absurd q_ (fun q_ => by have h1_ := HP2.out _ q_; have h3_ := LRK.out; have h5_ := LK2.out; rcases h1_ with h1_ | h1_; (have := h1_.1.1; omega); omega))); have BKo9 := am (blk_kept BKo3.out HK9.out (fun q_ => absurd q_ (fun q_ => by have h1_ := HP2.out _ q_; have h3_ := LSo.out; rcases h1_ with h1_ | h1_; exact h1_.1.2 rfl; omega))); have HP9 : Aside0 (PgS w.heap.size w14 (fun k => wq.heap.size ≤ k ∧ k ≠ gbo) gbo t0 t1 (y2.set x.toNat (y0.length : Int)) z3 z4) := ⟨⟨_, _, _, BKo9.out, GEo.out, fun k hk => hk.2, hO9.mono (fun k q => by have h3_ := LSo.out; have h5_ := LK2.out; have h6_ := Z3.out; have h7_ := LW12.out; rcases q with (q | q) | q; exact q.1; exact ⟨by omega, by omega⟩; exact ⟨by omega, by omega⟩)⟩⟩; have HB9 := am (show Below w.heap.size w w14 by rw [hw]; exact below_set HX3.out GOo.out); clear hw HR9 hO9 HK9 HPG hxo hfo ho0 ho1 ho2 ho3 ho4))
       go_roundg k1
       case measure => have := HK.out; omega
       case rel => exact ⟨_, _, _, _, rfl, AH, ⟨by have := HK.out; omega⟩, HP9, BKp9, BKr9, HB9⟩
def laws_FnExactReopen.f (k : Nat) (l0 : List S67) (l1 l2 : List Int) (h b : Int) : Option Bool :=
 (laws_szPage.f k l0 l1 l2 h b 1048576).bind fun n => if n < 0 then some true else
 (laws_toPage.f k l0 l1 l2 h b).bind fun x =>
 (spec_Reopen.f k x.1 x.2.1 x.2.2.1 x.2.2.2.1 x.2.2.2.2).bind fun q =>
 (impl_Reopen.f k x.1 x.2.1 x.2.2.1 x.2.2.2.1 x.2.2.2.2).bind fun g =>
 (laws_eqPage.f k g.1 g.2.1 g.2.2.1 g.2.2.2.1 g.2.2.2.2 q.1 q.2.1 q.2.2.1 q.2.2.2.1 q.2.2.2.2).bind fun t1 => if t1 = true then
 (laws_eqPage.f k x.1 x.2.1 x.2.2.1 x.2.2.2.1 x.2.2.2.2 x.1 x.2.1 x.2.2.1 x.2.2.2.1 x.2.2.2.2).bind fun t2 => if t2 = true then
 (laws_markPage.f k x.1 x.2.1 x.2.2.1 1).bind fun u => if u.1 < 0 then none else
 (laws_markPage.f k g.1 g.2.1 g.2.2.1 1).bind fun z => (laws_heldPage.f k z.2.1 z.2.2.1 z.2.2.2 g.2.2.2.1 g.2.2.2.2 1).bind fun j => if j < 0 then none else if j = z.1 then some true else none
 else none else none
theorem laws_FnExactReopen.calls (k : Nat) (A0 : Option Addr) (c0 : Nat) (l0 : List S67) (A1 : Option Addr) (c1 : Nat) (l1 : List Int) (A2 : Option Addr) (c2 : Nat) (l2 : List Int) (h b : Int) (w : World) (hp0 : Kd.C k67 w A0 l0.length l0) (hd0 : l0.length ≤ c0) (hp1 : Kd.C (Kd.int .i64) w A1 l1.length l1) (hd1 : l1.length ≤ c1) (hp2 : Kd.C (Kd.int .i64) w A2 l2.length l2) (hd2 : l2.length ≤ c2) (M_ : Int) (hm_ : w.cell? ⟨0, 0, none⟩ = some (.int .i64 M_)) (H : laws_FnExactReopen.f k l0 l1 l2 h b = some true) :
  Calls Tryz.prog 4 #[.agg #[.slice A0 l0.length c0, .slice A1 l1.length c1, .slice A2 l2.length c2, .int .i64 h, .int .i64 b]] w fun e w' => e = .returned (.bool true) ∧ Below w.heap.size w w' := by
 unfold laws_FnExactReopen.f at H
 have hu25 := Tryz.underlying25
 have hu31 := Tryz.underlying31
 have Hhp0 := am hp0
 have Hhd0 := am hd0
 have Hhp1 := am hp1
 have Hhd1 := am hd1
 have Hhp2 := am hp2
 have Hhd2 := am hd2
 have Hhm_ := am hm_
 have HX := am (Below.refl w.heap.size w)
 clear hp0 hd0 hp1 hd1 hp2 hd2 hm_
 obtain ⟨n, hn, H⟩ := Option.bind_eq_some_iff.mp H
 have AN := am hn
 clear hn
 by_cases cn : n < 0
 ·have cnb : decide (n < 0) = true := decide_eq_true cn
  clear H cn
  go_enter Tryz.func4, Tryz.ntmps4
  go_wp2_with (first | ((with_reducible refine gd_ 1 ?_); refine bx_ 1 (cs := #[.slice A0 l0.length c0, .slice A1 l1.length c1, .slice A2 l2.length c2, .int .i64 h, .int .i64 b]) 25 ?_; intro gbp hg wp hbox hb; have GEp := gE HX hg; replace HX := xb HX hb; have BKp := am hbox; clear hb hbox hg; obtain ⟨h1p0, h1p1, h1p2, h1p3, h1p4⟩ := cl5 BKp) | (go_at_call 6; (with_reducible refine (laws_szPage.calls k A0 c0 l0 A1 c1 l1 A2 c2 l2 h b 1048576 n _ ?sa Hhd0.out ?sb Hhd1.out ?sc Hhd2.out AN.out).mono ?_); (case sa => exact Kd.C_below Hhp0.out HX.out); (case sb => exact Kd.C_below Hhp1.out HX.out); (case sc => exact Kd.C_below Hhp2.out HX.out); rintro e wq ⟨rfl, hb⟩; replace BKp := bb BKp hb; replace HX := xb HX hb; clear hb; (try clear h1p0 h1p1 h1p2 h1p3 h1p4); obtain ⟨h2p0, h2p1, h2p2, h2p3, h2p4⟩ := cl5 BKp))
  go_ret
  exact ⟨rfl, HX.out⟩
 rw [if_neg cn] at H
 have cnb : decide (n < 0) = false := decide_eq_false cn
 clear cn
 obtain ⟨⟨x0, x1, x2, x3, x4⟩, hx, H⟩ := Option.bind_eq_some_iff.mp H
 obtain ⟨⟨q0, q1, q2, q3, q4⟩, hq, H⟩ := Option.bind_eq_some_iff.mp H
 obtain ⟨⟨g0, g1, g2, g3, g4⟩, hg, H⟩ := Option.bind_eq_some_iff.mp H
 obtain ⟨t1, h1, H⟩ := Option.bind_eq_some_iff.mp H
 dsimp only at hx hq hg h1 H
 obtain rfl : t1 = true := by
  cases t1
  ·exact absurd H (by simp)
  ·rfl
 simp only [if_true] at H
 obtain ⟨t2, h2, H⟩ := Option.bind_eq_some_iff.mp H
 obtain rfl : t2 = true := by
  cases t2
  ·exact absurd H (by simp)
  ·rfl
 simp only [if_true] at H
 obtain ⟨⟨u, u0, u1, u2⟩, h4, H⟩ := Option.bind_eq_some_iff.mp H
 dsimp only at h4 H
 by_cases cv : u < 0
 ·rw [if_pos cv] at H; exact absurd H (by simp)
 rw [if_neg cv] at H
 have cvb : decide (u < 0) = false := decide_eq_false cv
 clear cv
 obtain ⟨⟨z, z0, z1, z2⟩, h6, H⟩ := Option.bind_eq_some_iff.mp H
 obtain ⟨j, h7, H⟩ := Option.bind_eq_some_iff.mp H
 dsimp only at h6 h7 H
 by_cases cj : j < 0
 ·rw [if_pos cj] at H; exact absurd H (by simp)
 rw [if_neg cj] at H
 have cjb : decide (j < 0) = false := decide_eq_false cj
 clear cj
 by_cases cz : j = z
 case neg => rw [if_neg cz] at H; exact absurd H (by simp)
 subst cz
 have cjz : (j == j) = true := beq_self_eq_true j
 have cjn : (j != j) = false := by simp
 have BAX := am hx
 have BAQ := am hq
 have BAG := am hg
 have BA1 := am h1
 have BA2_ := am h2
 have BA4 := am h4
 have BA6_ := am h6
 have BA7 := am h7
 clear hx hq hg h1 h2 h4 h6 h7 H
 have OR := am (Nat.le_refl w.heap.size)
 go_enter Tryz.func4, Tryz.ntmps4
 go_wp2_with (first | ((with_reducible refine gd_ 1 ?_); refine bx_ 1 (cs := #[.slice A0 l0.length c0, .slice A1 l1.length c1, .slice A2 l2.length c2, .int .i64 h, .int .i64 b]) 25 ?_; intro gbp hg wp hbox hb; have GEp := gE HX hg; replace HX := xb HX hb; have BKp := am hbox; clear hb hbox hg; obtain ⟨h1p0, h1p1, h1p2, h1p3, h1p4⟩ := cl5 BKp) | (go_at_call 6; (with_reducible refine (laws_szPage.calls k A0 c0 l0 A1 c1 l1 A2 c2 l2 h b 1048576 n _ ?sa Hhd0.out ?sb Hhd1.out ?sc Hhd2.out AN.out).mono ?_); (case sa => exact Kd.C_below Hhp0.out HX.out); (case sb => exact Kd.C_below Hhp1.out HX.out); (case sc => exact Kd.C_below Hhp2.out HX.out); rintro e wq ⟨rfl, hb⟩; replace BKp := bb BKp hb; replace HX := xb HX hb; clear hb; (try clear h1p0 h1p1 h1p2 h1p3 h1p4); obtain ⟨h2p0, h2p1, h2p2, h2p3, h2p4⟩ := cl5 BKp) | ((with_reducible refine gate_callee (f := 9) rfl ?_); refine goesL_ (some 17) rfl rfl Tryz.func9 (by kernel_rfl) rfl #[.agg #[.slice A0 l0.length c0, .slice A1 l1.length c1, .slice A2 l2.length c2, .int .i64 h, .int .i64 b]] rfl ab5 ?_; (with_reducible refine (laws_toPage.calls k _ _ l0 _ _ l1 _ _ l2 h b x0 x1 x2 x3 x4 _ (Kd.C_below Hhp0.out HX.out) Hhd0.out (Kd.C_below Hhp1.out HX.out) Hhd1.out (Kd.C_below Hhp2.out HX.out) Hhd2.out BAX.out).mono ?_); rintro e wa2 ⟨v0, v1, v2, rfl, ho0, ho1, ho2, hb⟩; refine ⟨_, rfl, ?_⟩; replace OR := oadd OR (blk_lt BKp.out); have HOt : Aside0 (OwnP wa2 w.heap.size (Bt wq.heap.size wa2.heap.size) v0 v1 v2 x0 x1 x2) := am ((OwnP.of_copy ho0 ho1 ho2).lower (below_size HX.out)); replace OR := oadd OR (show wq.heap.size ≤ wa2.heap.size from hb.size); replace BKp := bb BKp hb; replace HX := xb HX hb; obtain ⟨St0, st0, St1, st1, St2, st2, rfl, rfl, rfl, _, _, _⟩ := HOt.out.slices; clear ho0 ho1 ho2; clear hb; (try clear h2p0 h2p1 h2p2 h2p3 h2p4)) | ((with_reducible refine gate_callee (f := 17) rfl ?_); refine goesL_ (some 18) rfl rfl Tryz.func17 (by kernel_rfl) rfl #[.agg #[.slice St0 x0.length st0, .slice St1 x1.length st1, .slice St2 x2.length st2, .int .i64 x3, .int .i64 x4]] rfl ab5 ?_; (with_reducible refine (spec_Reopen.calls k _ _ x0 _ _ x1 _ _ x2 x3 x4 q0 q1 q2 q3 q4 _ HOt.out.reads.1.2.2 HOt.out.reads.1.2.1 HOt.out.reads.2.1.2.2 HOt.out.reads.2.1.2.1 HOt.out.reads.2.2.2.2 HOt.out.reads.2.2.2.1 BAQ.out).mono ?_); rintro e wa3 ⟨v0, v1, v2, rfl, ho0, ho1, ho2, hb⟩; refine ⟨_, rfl, ?_⟩; have HOa : Aside0 (OwnP wa3 w.heap.size (Bt wa2.heap.size wa3.heap.size) v0 v1 v2 q0 q1 q2) := am ((OwnP.of_copy ho0 ho1 ho2).lower (below_size HX.out)); replace OR := oadd OR (show wa2.heap.size ≤ wa3.heap.size from hb.size); replace BKp := bb BKp hb; replace HX := xb HX hb; replace HOt := ob HOt hb; obtain ⟨Sa0, sa0, Sa1, sa1, Sa2, sa2, rfl, rfl, rfl, _, _, _⟩ := HOa.out.slices; clear ho0 ho1 ho2; clear hb) | ((with_reducible refine gd_ 4 ?_); refine bx_ 4 (cs := #[.slice none 0 0, .slice none 0 0, .slice none 0 0, .int .i64 0, .int .i64 0]) 31 ?_; intro gba hg wa4 hbox hb; have GEa := gE HX hg; have NEp_a := nE BKp hg; replace OR := oadd OR (show gba = wa3.heap.size ∧ wa3.heap.size ≤ wa4.heap.size ∧ gba < wa4.heap.size from ⟨hg, hb.size, blk_lt hbox⟩); replace BKp := bb BKp hb; replace HX := xb HX hb; replace HOa := ob HOa hb; have BKa := am hbox; clear hb hbox hg; obtain ⟨h5a0, h5a1, h5a2, h5a3, h5a4⟩ := cl5 BKa; obtain ⟨f5a0, f5a1, f5a2, f5a3, f5a4⟩ := fz5 BKa) | ((with_reducible refine gate_store (t := 31) (p := 4) rfl ?_); refine store_event (t := 31) (p := 4) (v := ?voa1) (w1 := (st5 wa4 gba (.slice Sa0 q0.length sa0) (.slice Sa1 q1.length sa1) (.slice Sa2 q2.length sa2) (.int .i64 q3) (.int .i64 q4))) ?hg ?ho ?hn ?hr ?_; (case ho => rfl); (case hg => rfl); (case hn => rfl); (case hr => first | (go_simp; done) | (go_simp; rfl)); intro wa5 hw; replace BKp := kS5 hw BKp NEp_a.out; replace BKa := sS5 hw BKa; replace HX := bS5 hw HX GEa.out; replace HOa := pS5 hw HOa (fun k hk e_ => by have h1_ := hk.1; have h2_ := hk.2; have := OR.out; omega); replace OR := oadd OR (zS5 hw); clear hw; (try clear h5a0 h5a1 h5a2 h5a3 h5a4 f5a0 f5a1 f5a2 f5a3 f5a4); obtain ⟨h6p0, h6p1, h6p2, h6p3, h6p4⟩ := cl5 BKp) | ((with_reducible refine gate_callee (f := 9) rfl ?_); refine goesL_ (some 20) rfl rfl Tryz.func9 (by kernel_rfl) rfl #[.agg #[.slice A0 l0.length c0, .slice A1 l1.length c1, .slice A2 l2.length c2, .int .i64 h, .int .i64 b]] rfl ab5 ?_; (with_reducible refine (laws_toPage.calls k _ _ l0 _ _ l1 _ _ l2 h b x0 x1 x2 x3 x4 _ (Kd.C_below Hhp0.out HX.out) Hhd0.out (Kd.C_below Hhp1.out HX.out) Hhd1.out (Kd.C_below Hhp2.out HX.out) Hhd2.out BAX.out).mono ?_); rintro e wt1 ⟨v0, v1, v2, rfl, ho0, ho1, ho2, hb⟩; refine ⟨_, rfl, ?_⟩; have HOx : Aside0 (OwnP wt1 w.heap.size (Bt wa5.heap.size wt1.heap.size) v0 v1 v2 x0 x1 x2) := am ((OwnP.of_copy ho0 ho1 ho2).lower (below_size HX.out)); replace OR := oadd OR (show wa5.heap.size ≤ wt1.heap.size from hb.size); replace BKp := bb BKp hb; replace BKa := bb BKa hb; replace HX := xb HX hb; replace HOa := ob HOa hb; obtain ⟨Sx0, sx0, Sx1, sx1, Sx2, sx2, rfl, rfl, rfl, _, _, _⟩ := HOx.out.slices; clear ho0 ho1 ho2; clear hb; (try clear h6p0 h6p1 h6p2 h6p3 h6p4)) | ((with_reducible refine gd_ 5 ?_); refine bx_ 5 (cs := #[.slice none 0 0, .slice none 0 0, .slice none 0 0, .int .i64 0, .int .i64 0]) 31 ?_; intro gbx hg wt2 hbox hb; have GEx := gE HX hg; have NEp_x := nE BKp hg; have NEa_x := nE BKa hg; replace OR := oadd OR (show gbx = wt1.heap.size ∧ wt1.heap.size ≤ wt2.heap.size ∧ gbx < wt2.heap.size from ⟨hg, hb.size, blk_lt hbox⟩); replace BKp := bb BKp hb; replace BKa := bb BKa hb; replace HX := xb HX hb; replace HOa := ob HOa hb; replace HOx := ob HOx hb; have BKx := am hbox; clear hb hbox hg; obtain ⟨h8x0, h8x1, h8x2, h8x3, h8x4⟩ := cl5 BKx; obtain ⟨f8x0, f8x1, f8x2, f8x3, f8x4⟩ := fz5 BKx) | ((with_reducible refine gate_store (t := 31) (p := 5) rfl ?_); refine store_event (t := 31) (p := 5) (v := ?vox1) (w1 := (st5 wt2 gbx (.slice Sx0 x0.length sx0) (.slice Sx1 x1.length sx1) (.slice Sx2 x2.length sx2) (.int .i64 x3) (.int .i64 x4))) ?hg ?ho ?hn ?hr ?_; (case ho => rfl); (case hg => rfl); (case hn => rfl); (case hr => first | (go_simp; done) | (go_simp; rfl)); intro wt4 hw; replace BKp := kS5 hw BKp NEp_x.out; replace BKa := kS5 hw BKa NEa_x.out; replace BKx := sS5 hw BKx; replace HX := bS5 hw HX GEx.out; replace HOa := pS5 hw HOa (fun k hk e_ => by have h1_ := hk.1; have h2_ := hk.2; have := OR.out; omega); replace HOx := pS5 hw HOx (fun k hk e_ => by have h1_ := hk.1; have h2_ := hk.2; have := OR.out; omega); replace OR := oadd OR (zS5 hw); clear hw; (try clear h8x0 h8x1 h8x2 h8x3 h8x4 f8x0 f8x1 f8x2 f8x3 f8x4); obtain ⟨h9x0, h9x1, h9x2, h9x3, h9x4⟩ := cl5 BKx) | ((with_reducible refine gate_callee (f := 18) rfl ?_); refine goesL_ (some 22) rfl rfl Tryz.func18 (by kernel_rfl) rfl #[.agg #[.slice Sx0 x0.length sx0, .slice Sx1 x1.length sx1, .slice Sx2 x2.length sx2, .int .i64 x3, .int .i64 x4]] rfl ab5 ?_; (with_reducible refine (impl_Reopen.calls k _ _ x0 _ _ x1 _ _ x2 x3 x4 g0 g1 g2 g3 g4 _ HOx.out.reads.1.2.2 HOx.out.reads.1.2.1 HOx.out.reads.2.1.2.2 HOx.out.reads.2.1.2.1 HOx.out.reads.2.2.2.2 HOx.out.reads.2.2.2.1 M_ (pw_cell_below HX.out Hhm_.out) BAG.out).mono ?_); rintro e wt5 ⟨v0, v1, v2, rfl, ho0, ho1, ho2, hb⟩; refine ⟨_, rfl, ?_⟩; have HOg : Aside0 (OwnP wt5 w.heap.size (Bt wt4.heap.size wt5.heap.size) v0 v1 v2 g0 g1 g2) := am ((OwnP.of_copy ho0 ho1 ho2).lower (below_size HX.out)); replace OR := oadd OR (show wt4.heap.size ≤ wt5.heap.size from hb.size); replace BKp := bb BKp hb; replace BKa := bb BKa hb; replace BKx := bb BKx hb; replace HX := xb HX hb; replace HOa := ob HOa hb; replace HOx := ob HOx hb; obtain ⟨Sg0, sg0, Sg1, sg1, Sg2, sg2, rfl, rfl, rfl, _, _, _⟩ := HOg.out.slices; clear ho0 ho1 ho2; clear hb; (try clear h9x0 h9x1 h9x2 h9x3 h9x4)) | ((with_reducible refine gd_ 6 ?_); refine bx_ 6 (cs := #[.slice none 0 0, .slice none 0 0, .slice none 0 0, .int .i64 0, .int .i64 0]) 31 ?_; intro gbg hg wt6 hbox hb; have GEg := gE HX hg; have NEp_g := nE BKp hg; have NEa_g := nE BKa hg; have NEx_g := nE BKx hg; replace OR := oadd OR (show gbg = wt5.heap.size ∧ wt5.heap.size ≤ wt6.heap.size ∧ gbg < wt6.heap.size from ⟨hg, hb.size, blk_lt hbox⟩); replace BKp := bb BKp hb; replace BKa := bb BKa hb; replace BKx := bb BKx hb; replace HX := xb HX hb; replace HOa := ob HOa hb; replace HOx := ob HOx hb; replace HOg := ob HOg hb; have BKg := am hbox; clear hb hbox hg; obtain ⟨h11g0, h11g1, h11g2, h11g3, h11g4⟩ := cl5 BKg; obtain ⟨f11g0, f11g1, f11g2, f11g3, f11g4⟩ := fz5 BKg) | ((with_reducible refine gate_store (t := 31) (p := 6) rfl ?_); refine store_event (t := 31) (p := 6) (v := ?vog1) (w1 := (st5 wt6 gbg (.slice Sg0 g0.length sg0) (.slice Sg1 g1.length sg1) (.slice Sg2 g2.length sg2) (.int .i64 g3) (.int .i64 g4))) ?hg ?ho ?hn ?hr ?_; (case ho => rfl); (case hg => rfl); (case hn => rfl); (case hr => first | (go_simp; done) | (go_simp; rfl)); intro wt7 hw; replace BKp := kS5 hw BKp NEp_g.out; replace BKa := kS5 hw BKa NEa_g.out; replace BKx := kS5 hw BKx NEx_g.out; replace BKg := sS5 hw BKg; replace HX := bS5 hw HX GEg.out; replace HOa := pS5 hw HOa (fun k hk e_ => by have h1_ := hk.1; have h2_ := hk.2; have := OR.out; omega); replace HOx := pS5 hw HOx (fun k hk e_ => by have h1_ := hk.1; have h2_ := hk.2; have := OR.out; omega); replace HOg := pS5 hw HOg (fun k hk e_ => by have h1_ := hk.1; have h2_ := hk.2; have := OR.out; omega); replace OR := oadd OR (zS5 hw); clear hw; (try clear h11g0 h11g1 h11g2 h11g3 h11g4 f11g0 f11g1 f11g2 f11g3 f11g4); obtain ⟨h12a0, h12a1, h12a2, h12a3, h12a4⟩ := cl5 BKa; obtain ⟨h12g0, h12g1, h12g2, h12g3, h12g4⟩ := cl5 BKg) | ((with_reducible refine gate_callee (f := 12) rfl ?_); refine goesL_ (some 25) rfl rfl Tryz.func12 (by kernel_rfl) rfl #[.agg #[.slice Sg0 g0.length sg0, .slice Sg1 g1.length sg1, .slice Sg2 g2.length sg2, .int .i64 g3, .int .i64 g4], .agg #[.slice Sa0 q0.length sa0, .slice Sa1 q1.length sa1, .slice Sa2 q2.length sa2, .int .i64 q3, .int .i64 q4]] rfl ab5 ?_; (with_reducible refine (laws_eqPage.calls k _ _ g0 _ _ g1 _ _ g2 g3 g4 _ _ q0 _ _ q1 _ _ q2 q3 q4 true _ HOg.out.reads.1.2.2 HOg.out.reads.1.2.1 HOg.out.reads.2.1.2.2 HOg.out.reads.2.1.2.1 HOg.out.reads.2.2.2.2 HOg.out.reads.2.2.2.1 HOa.out.reads.1.2.2 HOa.out.reads.1.2.1 HOa.out.reads.2.1.2.2 HOa.out.reads.2.1.2.1 HOa.out.reads.2.2.2.2 HOa.out.reads.2.2.2.1 BA1.out).mono ?_); rintro e wt8 ⟨rfl, hb⟩; refine ⟨_, rfl, ?_⟩; replace BKp := bb BKp hb; replace BKa := bb BKa hb; replace BKx := bb BKx hb; replace BKg := bb BKg hb; replace HX := xb HX hb; replace HOa := ob HOa hb; replace HOx := ob HOx hb; replace HOg := ob HOg hb; replace OR := oadd OR (show wt7.heap.size ≤ wt8.heap.size from hb.size); clear hb; (try clear h12a0 h12a1 h12a2 h12a3 h12a4 h12g0 h12g1 h12g2 h12g3 h12g4)))
 have HXd := am (below_drew1 HX.out)
 replace BKp := am (blk_drew BKp.out)
 replace BKa := am (blk_drew BKa.out)
 replace BKx := am (blk_drew BKx.out)
 replace BKg := am (blk_drew BKg.out)
 replace HOa := am (HOa.out.below (below_drew1 (Below.refl _ _)))
 replace HOx := am (HOx.out.below (below_drew1 (Below.refl _ _)))
 replace HOg := am (HOg.out.below (below_drew1 (Below.refl _ _)))
 refine start_ (n := 5) (S := fun w' => w'.heap[gbx]? = some (.cells #[.slice Sx0 x0.length sx0, .slice Sx1 x1.length sx1, .slice Sx2 x2.length sx2, .int .i64 x3, .int .i64 x4] 31 (0, 0)) ∧ w'.heap[gbp]? = some (.cells #[.slice A0 l0.length c0, .slice A1 l1.length c1, .slice A2 l2.length c2, .int .i64 h, .int .i64 b] 25 (0, 0))) (ds := []) #[false, false, false, false, false] (by kernel_rfl) rfl rfl ⟨BKx.out, BKp.out⟩ (fun hHeld => ?_)
 clear HX
 have HX := HXd
 clear HXd
 replace OR := oadd OR (show wt8.heap.size ≤ (World.drew wt8).heap.size from Nat.le_refl _)
 generalize World.drew _ = wb0 at OR HX BKp BKa BKx BKg HOa HOx HOg  hHeld ⊢
 refine tk2_ 0 27 hHeld ?_
 refine tk2_ 1 28 hHeld ?_
 refine one_ (i := 2) (N := some 29) #[true, true, true, false, false] rfl rfl (by kernel_rfl) (by decide) (fun K hK => ?_)
 refine goes_ Tryz.func9 (by kernel_rfl) rfl #[.agg #[.slice A0 l0.length c0, .slice A1 l1.length c1, .slice A2 l2.length c2, .int .i64 h, .int .i64 b]] (by rfl) rfl rfl ab5 ?_
 refine (laws_toPage.calls k _ _ l0 _ _ l1 _ _ l2 h b x0 x1 x2 x3 x4 _ (Kd.C_below Hhp0.out HX.out) Hhd0.out (Kd.C_below Hhp1.out HX.out) Hhd1.out (Kd.C_below Hhp2.out HX.out) Hhd2.out BAX.out).mono ?_
 rintro e wb1 ⟨v0, v1, v2, rfl, ho0, ho1, ho2, hb⟩
 refine ⟨_, rfl, ?_⟩
 replace OR := oadd OR (show wb0.heap.size ≤ wb1.heap.size from hb.size)
 have HOt := am (OwnP.of_copy ho0 ho1 ho2)
 clear ho0 ho1 ho2
 obtain ⟨T0, t0, T1, t1, T2, t2, rfl, rfl, rfl, _, _, _⟩ := HOt.out.slices
 replace BKp := bb BKp hb
 replace BKa := bb BKa hb
 replace BKx := bb BKx hb
 replace BKg := bb BKg hb
 replace HOa := ob HOa hb
 replace HOx := ob HOx hb
 replace HOg := ob HOg hb
 replace HX := xb HX hb
 clear hb hHeld
 refine hK.out _ _ ⟨BKx.out, BKp.out⟩ (fun hHeld => ?_)
 clear hK K
 refine nk_ 29 ?_
 refine one_ (i := 3) (N := some 30) #[true, true, true, true, false] rfl rfl (by kernel_rfl) (by decide) (fun K hK => ?_)
 refine goes_ Tryz.func12 (by kernel_rfl) rfl #[.agg #[.slice Sx0 x0.length sx0, .slice Sx1 x1.length sx1, .slice Sx2 x2.length sx2, .int .i64 x3, .int .i64 x4], .agg #[.slice T0 x0.length t0, .slice T1 x1.length t1, .slice T2 x2.length t2, .int .i64 x3, .int .i64 x4]] (by rfl) rfl rfl ab5 ?_
 refine (laws_eqPage.calls k _ _ x0 _ _ x1 _ _ x2 x3 x4 _ _ x0 _ _ x1 _ _ x2 x3 x4 true _ HOx.out.reads.1.2.2 HOx.out.reads.1.2.1 HOx.out.reads.2.1.2.2 HOx.out.reads.2.1.2.1 HOx.out.reads.2.2.2.2 HOx.out.reads.2.2.2.1 HOt.out.reads.1.2.2 HOt.out.reads.1.2.1 HOt.out.reads.2.1.2.2 HOt.out.reads.2.1.2.1 HOt.out.reads.2.2.2.2 HOt.out.reads.2.2.2.1 BA2_.out).mono ?_
 rintro e wb2 ⟨rfl, hb⟩
 refine ⟨_, rfl, ?_⟩
 replace OR := oadd OR (show wb1.heap.size ≤ wb2.heap.size from hb.size)
 replace BKp := bb BKp hb
 replace BKa := bb BKa hb
 replace BKx := bb BKx hb
 replace BKg := bb BKg hb
 replace HOa := ob HOa hb
 replace HOx := ob HOx hb
 replace HOg := ob HOg hb
 replace HX := xb HX hb
 clear hb hHeld
 refine hK.out _ _ ⟨BKx.out, BKp.out⟩ (fun hHeld => ?_)
 clear hK K
 refine nk_ 30 ?_
 refine pk_ 4 31 ?_
 refine done_ (by kernel_rfl) ?_
 clear hHeld HOt
 obtain ⟨h14x0, h14x1, h14x2, h14x3, h14x4⟩ := cl5 BKx
 go_wp2_with (first | ((with_reducible refine gate_callee (f := 14) rfl ?_); refine goesL_ (some 34) rfl rfl Tryz.func14 (by kernel_rfl) rfl #[.agg #[.slice Sx0 x0.length sx0, .slice Sx1 x1.length sx1, .slice Sx2 x2.length sx2, .int .i64 x3, .int .i64 x4], .int .i64 1] rfl ab5 ?_; (refine (laws_markPage.calls k (Bt wa5.heap.size wt1.heap.size) _ _ _ x0 x1 x2 x3 x4 1 u u0 u1 u2 w _ HX.out HOx.out BA4.out).mono ?_); rintro e wm2 ⟨rfl, hop_, hb, hk⟩; refine ⟨_, rfl, ?_⟩; replace BKp := am (blk_kept BKp.out hk (fun q_ => by have q1_ := q_.1; have q2_ := q_.2; have := OR.out; omega)); replace BKa := am (blk_kept BKa.out hk (fun q_ => by have q1_ := q_.1; have q2_ := q_.2; have := OR.out; omega)); replace BKx := am (blk_kept BKx.out hk (fun q_ => by have q1_ := q_.1; have q2_ := q_.2; have := OR.out; omega)); replace BKg := am (blk_kept BKg.out hk (fun q_ => by have q1_ := q_.1; have q2_ := q_.2; have := OR.out; omega)); replace HOa := am (HOa.out.kept hk (fun k hk_ q_ => by have h1_ := hk_.1; have h2_ := hk_.2; have q1_ := q_.1; have q2_ := q_.2; have := OR.out; omega)); replace HOg := am (HOg.out.kept hk (fun k hk_ q_ => by have h1_ := hk_.1; have h2_ := hk_.2; have q1_ := q_.1; have q2_ := q_.2; have := OR.out; omega)); replace OR := oadd OR (show wb2.heap.size ≤ wm2.heap.size from hk.1); replace HX := am hb; clear hop_ HOx; clear hb hk; (try clear h14x0 h14x1 h14x2 h14x3 h14x4); obtain ⟨h15a0, h15a1, h15a2, h15a3, h15a4⟩ := cl5 BKa; obtain ⟨h15g0, h15g1, h15g2, h15g3, h15g4⟩ := cl5 BKg) | (go_at_call 12; (with_reducible refine (laws_eqPage.calls k _ _ g0 _ _ g1 _ _ g2 g3 g4 _ _ q0 _ _ q1 _ _ q2 q3 q4 true _ HOg.out.reads.1.2.2 HOg.out.reads.1.2.1 HOg.out.reads.2.1.2.2 HOg.out.reads.2.1.2.1 HOg.out.reads.2.2.2.2 HOg.out.reads.2.2.2.1 HOa.out.reads.1.2.2 HOa.out.reads.1.2.1 HOa.out.reads.2.1.2.2 HOa.out.reads.2.1.2.1 HOa.out.reads.2.2.2.2 HOa.out.reads.2.2.2.1 BA1.out).mono ?_); rintro e wm3 ⟨rfl, hb⟩; replace BKp := bb BKp hb; replace BKa := bb BKa hb; replace BKx := bb BKx hb; replace BKg := bb BKg hb; replace HX := xb HX hb; replace HOa := ob HOa hb; replace HOg := ob HOg hb; replace OR := oadd OR (show wm2.heap.size ≤ wm3.heap.size from hb.size); clear hb; (try clear h15a0 h15a1 h15a2 h15a3 h15a4 h15g0 h15g1 h15g2 h15g3 h15g4); obtain ⟨h16g0, h16g1, h16g2, h16g3, h16g4⟩ := cl5 BKg) | ((with_reducible refine gate_callee (f := 14) rfl ?_); refine goesL_ (some 45) rfl rfl Tryz.func14 (by kernel_rfl) rfl #[.agg #[.slice Sg0 g0.length sg0, .slice Sg1 g1.length sg1, .slice Sg2 g2.length sg2, .int .i64 g3, .int .i64 g4], .int .i64 1] rfl ab5 ?_; (refine (laws_markPage.calls k (Bt wt4.heap.size wt5.heap.size) _ _ _ g0 g1 g2 g3 g4 1 j z0 z1 z2 w _ HX.out HOg.out BA6_.out).mono ?_); rintro e wm4 ⟨rfl, hop_, hb, hk⟩; refine ⟨_, rfl, ?_⟩; replace BKp := am (blk_kept BKp.out hk (fun q_ => by have q1_ := q_.1; have q2_ := q_.2; have := OR.out; omega)); replace BKa := am (blk_kept BKa.out hk (fun q_ => by have q1_ := q_.1; have q2_ := q_.2; have := OR.out; omega)); replace BKx := am (blk_kept BKx.out hk (fun q_ => by have q1_ := q_.1; have q2_ := q_.2; have := OR.out; omega)); replace BKg := am (blk_kept BKg.out hk (fun q_ => by have q1_ := q_.1; have q2_ := q_.2; have := OR.out; omega)); replace HOa := am (HOa.out.kept hk (fun k hk_ q_ => by have h1_ := hk_.1; have h2_ := hk_.2; have q1_ := q_.1; have q2_ := q_.2; have := OR.out; omega)); replace OR := oadd OR (show wm3.heap.size ≤ wm4.heap.size from hk.1); replace HX := am hb; have HOg2 := hop_.bound; have E_ := hop_.reads; have e0_ := E_.1.1; have e1_ := E_.2.1.1; have e2_ := E_.2.2.1; rw [e0_, e1_, e2_] at BKg HOg2; clear HOg hop_ E_ e0_ e1_ e2_; have HOg := am (HOg2.mono (U' := Bt wt4.heap.size wm4.heap.size) (fun k hk_ => by have h1_ := hk_.1; have h2_ := hk_.2.2; refine ⟨?_, h2_⟩; rcases h1_ with h1_ | h1_; exact h1_.1; (have := OR.out; omega))); clear HOg2; clear hb hk; (try clear h16g0 h16g1 h16g2 h16g3 h16g4); obtain ⟨h18g0, h18g1, h18g2, h18g3, h18g4⟩ := cl5 BKg) | ((with_reducible refine gate_callee (f := 16) rfl ?_); refine goesL_ (some 48) rfl rfl Tryz.func16 (by kernel_rfl) rfl #[.agg #[.slice Sg0 z0.length sg0, .slice Sg1 z1.length sg1, .slice Sg2 z2.length sg2, .int .i64 g3, .int .i64 g4], .int .i64 1] rfl ab5 ?_; (with_reducible refine (laws_heldPage.calls k _ _ z0 _ _ z1 _ _ z2 g3 g4 1 j _ HOg.out.reads.1.2.2 HOg.out.reads.1.2.1 HOg.out.reads.2.1.2.2 HOg.out.reads.2.1.2.1 HOg.out.reads.2.2.2.2 HOg.out.reads.2.2.2.1 BA7.out).mono ?_); rintro e wm5 ⟨rfl, hb⟩; refine ⟨_, rfl, ?_⟩; replace BKp := bb BKp hb; replace BKa := bb BKa hb; replace BKx := bb BKx hb; replace BKg := bb BKg hb; replace HX := xb HX hb; replace HOa := ob HOa hb; replace HOg := ob HOg hb; replace OR := oadd OR (show wm4.heap.size ≤ wm5.heap.size from hb.size); clear hb; (try clear h18g0 h18g1 h18g2 h18g3 h18g4); obtain ⟨h19p0, h19p1, h19p2, h19p3, h19p4⟩ := cl5 BKp) | ((with_reducible refine gate_callee (f := 9) rfl ?_); refine goesL_ (some 55) rfl rfl Tryz.func9 (by kernel_rfl) rfl #[.agg #[.slice A0 l0.length c0, .slice A1 l1.length c1, .slice A2 l2.length c2, .int .i64 h, .int .i64 b]] rfl ab5 ?_; (with_reducible refine (laws_toPage.calls k _ _ l0 _ _ l1 _ _ l2 h b x0 x1 x2 x3 x4 _ (Kd.C_below Hhp0.out HX.out) Hhd0.out (Kd.C_below Hhp1.out HX.out) Hhd1.out (Kd.C_below Hhp2.out HX.out) Hhd2.out BAX.out).mono ?_); rintro e wn2 ⟨v0, v1, v2, rfl, ho0, ho1, ho2, hb⟩; refine ⟨_, rfl, ?_⟩; have HOt : Aside0 (OwnP wn2 w.heap.size (Bt wm5.heap.size wn2.heap.size) v0 v1 v2 x0 x1 x2) := am ((OwnP.of_copy ho0 ho1 ho2).lower (below_size HX.out)); replace OR := oadd OR (show wm5.heap.size ≤ wn2.heap.size from hb.size); replace BKp := bb BKp hb; replace BKa := bb BKa hb; replace BKx := bb BKx hb; replace BKg := bb BKg hb; replace HX := xb HX hb; replace HOa := ob HOa hb; replace HOg := ob HOg hb; obtain ⟨St0, st0, St1, st1, St2, st2, rfl, rfl, rfl, _, _, _⟩ := HOt.out.slices; clear ho0 ho1 ho2; clear hb; (try clear h19p0 h19p1 h19p2 h19p3 h19p4)) | ((with_reducible refine gate_callee (f := 18) rfl ?_); refine goesL_ (some 56) rfl rfl Tryz.func18 (by kernel_rfl) rfl #[.agg #[.slice St0 x0.length st0, .slice St1 x1.length st1, .slice St2 x2.length st2, .int .i64 x3, .int .i64 x4]] rfl ab5 ?_; (with_reducible refine (impl_Reopen.calls k _ _ x0 _ _ x1 _ _ x2 x3 x4 g0 g1 g2 g3 g4 _ HOt.out.reads.1.2.2 HOt.out.reads.1.2.1 HOt.out.reads.2.1.2.2 HOt.out.reads.2.1.2.1 HOt.out.reads.2.2.2.2 HOt.out.reads.2.2.2.1 M_ (pw_cell_below HX.out Hhm_.out) BAG.out).mono ?_); rintro e wn3 ⟨v0, v1, v2, rfl, ho0, ho1, ho2, hb⟩; refine ⟨_, rfl, ?_⟩; have HOe : Aside0 (OwnP wn3 w.heap.size (Bt wn2.heap.size wn3.heap.size) v0 v1 v2 g0 g1 g2) := am ((OwnP.of_copy ho0 ho1 ho2).lower (below_size HX.out)); replace OR := oadd OR (show wn2.heap.size ≤ wn3.heap.size from hb.size); replace BKp := bb BKp hb; replace BKa := bb BKa hb; replace BKx := bb BKx hb; replace BKg := bb BKg hb; replace HX := xb HX hb; replace HOa := ob HOa hb; replace HOg := ob HOg hb; replace HOt := ob HOt hb; obtain ⟨Se0, se0, Se1, se1, Se2, se2, rfl, rfl, rfl, _, _, _⟩ := HOe.out.slices; clear ho0 ho1 ho2; clear hb) | ((with_reducible refine gd_ 10 ?_); refine bx_ 10 (cs := #[.slice none 0 0, .slice none 0 0, .slice none 0 0, .int .i64 0, .int .i64 0]) 31 ?_; intro gbe hg wn4 hbox hb; have GEe := gE HX hg; have NEp_e := nE BKp hg; have NEa_e := nE BKa hg; have NEx_e := nE BKx hg; have NEg_e := nE BKg hg; replace OR := oadd OR (show gbe = wn3.heap.size ∧ wn3.heap.size ≤ wn4.heap.size ∧ gbe < wn4.heap.size from ⟨hg, hb.size, blk_lt hbox⟩); replace BKp := bb BKp hb; replace BKa := bb BKa hb; replace BKx := bb BKx hb; replace BKg := bb BKg hb; replace HX := xb HX hb; replace HOa := ob HOa hb; replace HOg := ob HOg hb; replace HOe := ob HOe hb; have BKe := am hbox; clear hb hbox hg; obtain ⟨h22e0, h22e1, h22e2, h22e3, h22e4⟩ := cl5 BKe; obtain ⟨f22e0, f22e1, f22e2, f22e3, f22e4⟩ := fz5 BKe) | ((with_reducible refine gate_store (t := 31) (p := 10) rfl ?_); refine store_event (t := 31) (p := 10) (v := ?voe1) (w1 := (st5 wn4 gbe (.slice Se0 g0.length se0) (.slice Se1 g1.length se1) (.slice Se2 g2.length se2) (.int .i64 g3) (.int .i64 g4))) ?hg ?ho ?hn ?hr ?_; (case ho => rfl); (case hg => rfl); (case hn => rfl); (case hr => first | (go_simp; done) | (go_simp; rfl)); intro wn5 hw; replace BKp := kS5 hw BKp NEp_e.out; replace BKa := kS5 hw BKa NEa_e.out; replace BKx := kS5 hw BKx NEx_e.out; replace BKg := kS5 hw BKg NEg_e.out; replace BKe := sS5 hw BKe; replace HX := bS5 hw HX GEe.out; replace HOa := pS5 hw HOa (fun k hk e_ => by have h1_ := hk.1; have h2_ := hk.2; have := OR.out; omega); replace HOg := pS5 hw HOg (fun k hk e_ => by have h1_ := hk.1; have h2_ := hk.2; have := OR.out; omega); replace HOe := pS5 hw HOe (fun k hk e_ => by have h1_ := hk.1; have h2_ := hk.2; have := OR.out; omega); replace OR := oadd OR (zS5 hw); clear hw; (try clear h22e0 h22e1 h22e2 h22e3 h22e4 f22e0 f22e1 f22e2 f22e3 f22e4); obtain ⟨h23a0, h23a1, h23a2, h23a3, h23a4⟩ := cl5 BKa; obtain ⟨h23e0, h23e1, h23e2, h23e3, h23e4⟩ := cl5 BKe) | ((with_reducible refine gate_callee (f := 12) rfl ?_); refine goesL_ (some 59) rfl rfl Tryz.func12 (by kernel_rfl) rfl #[.agg #[.slice Se0 g0.length se0, .slice Se1 g1.length se1, .slice Se2 g2.length se2, .int .i64 g3, .int .i64 g4], .agg #[.slice Sa0 q0.length sa0, .slice Sa1 q1.length sa1, .slice Sa2 q2.length sa2, .int .i64 q3, .int .i64 q4]] rfl ab5 ?_; (with_reducible refine (laws_eqPage.calls k _ _ g0 _ _ g1 _ _ g2 g3 g4 _ _ q0 _ _ q1 _ _ q2 q3 q4 true _ HOe.out.reads.1.2.2 HOe.out.reads.1.2.1 HOe.out.reads.2.1.2.2 HOe.out.reads.2.1.2.1 HOe.out.reads.2.2.2.2 HOe.out.reads.2.2.2.1 HOa.out.reads.1.2.2 HOa.out.reads.1.2.1 HOa.out.reads.2.1.2.2 HOa.out.reads.2.1.2.1 HOa.out.reads.2.2.2.2 HOa.out.reads.2.2.2.1 BA1.out).mono ?_); rintro e wn6 ⟨rfl, hb⟩; refine ⟨_, rfl, ?_⟩; replace BKp := bb BKp hb; replace BKa := bb BKa hb; replace BKx := bb BKx hb; replace BKg := bb BKg hb; replace BKe := bb BKe hb; replace HX := xb HX hb; replace HOa := ob HOa hb; replace HOg := ob HOg hb; replace HOe := ob HOe hb; replace OR := oadd OR (show wn5.heap.size ≤ wn6.heap.size from hb.size); clear hb; (try clear h23a0 h23a1 h23a2 h23a3 h23a4 h23e0 h23e1 h23e2 h23e3 h23e4); obtain ⟨h24g0, h24g1, h24g2, h24g3, h24g4⟩ := cl5 BKg) | ((with_reducible refine gate_callee (f := 16) rfl ?_); refine goesL_ (some 63) rfl rfl Tryz.func16 (by kernel_rfl) rfl #[.agg #[.slice Sg0 z0.length sg0, .slice Sg1 z1.length sg1, .slice Sg2 z2.length sg2, .int .i64 g3, .int .i64 g4], .int .i64 1] rfl ab5 ?_; (with_reducible refine (laws_heldPage.calls k _ _ z0 _ _ z1 _ _ z2 g3 g4 1 j _ HOg.out.reads.1.2.2 HOg.out.reads.1.2.1 HOg.out.reads.2.1.2.2 HOg.out.reads.2.1.2.1 HOg.out.reads.2.2.2.2 HOg.out.reads.2.2.2.1 BA7.out).mono ?_); rintro e wn7 ⟨rfl, hb⟩; refine ⟨_, rfl, ?_⟩; replace BKp := bb BKp hb; replace BKa := bb BKa hb; replace BKx := bb BKx hb; replace BKg := bb BKg hb; replace BKe := bb BKe hb; replace HX := xb HX hb; replace HOa := ob HOa hb; replace HOg := ob HOg hb; replace HOe := ob HOe hb; clear hb; (try clear h24g0 h24g1 h24g2 h24g3 h24g4)))
 go_ret
 exact ⟨rfl, HX.out⟩
structure S25 where
 f0 : (List S67)
 f1 : (List Int)
 f2 : (List Int)
 f3 : Int
 f4 : Int
def k25 : Kd S25 := Kd.iso (Kd.pair (Kd.slice 28 k67) (Kd.pair (Kd.slice 3 (Kd.int .i64)) (Kd.pair (Kd.slice 3 (Kd.int .i64)) (Kd.pair (Kd.int .i64) (Kd.int .i64))))) (fun x : S25 => (x.f0, x.f1, x.f2, x.f3, x.f4))
theorem k25_open {w : World} {x : S25} {cs : List Value} (h : k25.K w x cs) : ∃ A0 c0 A1 c1 A2 c2, cs = [.slice A0 x.f0.length c0, .slice A1 x.f1.length c1, .slice A2 x.f2.length c2, .int .i64 x.f3, .int .i64 x.f4] ∧ x.f0.length ≤ c0 ∧ k67.C w A0 x.f0.length x.f0 ∧ x.f1.length ≤ c1 ∧ (Kd.int .i64).C w A1 x.f1.length x.f1 ∧ x.f2.length ≤ c2 ∧ (Kd.int .i64).C w A2 x.f2.length x.f2 := by
 obtain ⟨_, _, rfl, ⟨A0, c0, rfl, l0, g0⟩, ⟨_, _, rfl, ⟨A1, c1, rfl, l1, g1⟩, ⟨_, _, rfl, ⟨A2, c2, rfl, l2, g2⟩, ⟨_, _, rfl, rfl, rfl⟩⟩⟩⟩ := h
 exact ⟨A0, c0, A1, c1, A2, c2, rfl, l0, g0, l1, g1, l2, g2⟩
theorem k25_mk (w : World) (x : S25) {A0 : Option Addr} {c0 : Nat} (l0 : x.f0.length ≤ c0) (g0 : k67.C w A0 x.f0.length x.f0) {A1 : Option Addr} {c1 : Nat} (l1 : x.f1.length ≤ c1) (g1 : (Kd.int .i64).C w A1 x.f1.length x.f1) {A2 : Option Addr} {c2 : Nat} (l2 : x.f2.length ≤ c2) (g2 : (Kd.int .i64).C w A2 x.f2.length x.f2) : k25.K w x [.slice A0 x.f0.length c0, .slice A1 x.f1.length c1, .slice A2 x.f2.length c2, .int .i64 x.f3, .int .i64 x.f4] := ⟨[.slice A0 x.f0.length c0], [.slice A1 x.f1.length c1, .slice A2 x.f2.length c2, .int .i64 x.f3, .int .i64 x.f4], rfl, ⟨A0, c0, rfl, l0, g0⟩, ⟨[.slice A1 x.f1.length c1], [.slice A2 x.f2.length c2, .int .i64 x.f3, .int .i64 x.f4], rfl, ⟨A1, c1, rfl, l1, g1⟩, ⟨[.slice A2 x.f2.length c2], [.int .i64 x.f3, .int .i64 x.f4], rfl, ⟨A2, c2, rfl, l2, g2⟩, ⟨[.int .i64 x.f3], [.int .i64 x.f4], rfl, rfl, rfl⟩⟩⟩⟩
def G25 (b n : Nat) (x : S25) : Prop := (x.f0.length ≤ b ∧ (∀ y_ ∈ x.f0, G67 b n y_)) ∧ (x.f1.length ≤ b ∧ (∀ y_ ∈ x.f1, (Lit.int .i64 y_).wf = true)) ∧ (x.f2.length ≤ b ∧ (∀ y_ ∈ x.f2, (Lit.int .i64 y_).wf = true)) ∧ ((Lit.int .i64 x.f3).wf = true) ∧ ((Lit.int .i64 x.f4).wf = true)
theorem G25_mono {b n m : Nat} {x : S25} (hle : n ≤ m) (hx : G25 b n x) : G25 b m x := by
 obtain ⟨h0, h1, h2, h3, h4⟩ := hx
 exact ⟨(fun h_ => ⟨h_.1, fun y_ hy_ => (G67_mono hle) (h_.2 y_ hy_)⟩) h0, (fun h_ => ⟨h_.1, fun y_ hy_ => id (h_.2 y_ hy_)⟩) h1, (fun h_ => ⟨h_.1, fun y_ hy_ => id (h_.2 y_ hy_)⟩) h2, id h3, id h4⟩
/-- THE ONE PURE STATEMENT of laws_FnExactReopen. -/
def laws_FnExactReopen.Pure : Prop := ∀ (n0 : Nat) (x0 : S25), G25 maxLen n0 x0 → ∃ k, laws_FnExactReopen.f k x0.f0 x0.f1 x0.f2 x0.f3 x0.f4 = some true
end Go.Proofs.YtekkalnafngfeaaGreat.P
