-- WRITTEN BY this session's own programs
import Derived.Test.YtekkalnafngfeaaGreatPt6
import Derived.Test.YtekkalnafngfeaaGreatPt27
namespace Go.Proofs.YtekkalnafngfeaaGreat.P
open Go Go.RowKit Go.Proofs.YtekkalnafngfeaaGreatW.PrintWords Go.Proofs.YtekkalnafngfeaaGreatW.PrintLast Go.Proofs.YtekkalnafngfeaaGreatW.PrintMore
set_option linter.unusedVariables false
set_option linter.unusedSimpArgs false
set_option maxHeartbeats 8000000
set_option maxRecDepth 100000
attribute [local go_sem] max2_int min2_int max_two min_two max_three min_three max_four min_four
def spec_l6Add.f (l0 : List S53) (a1 a2 : Int) (a3_0 a3_1 : Int) (a3_2 : ByteArray) (l3_3 : List S56) (a3_4 : ByteArray) (a3_5 : Int) (l3_6 : List Int) : Option (List S53 × Int) :=
 (spec_l6Item.f a3_0 a3_1 a3_2 l3_3 a3_4 a3_5 l3_6).bind fun bt => if l0.length < 1353245080339 ∧ 0 ≤ a1 ∧ a1 < ((l0 ++ [(⟨bt.1, bt.2.1, bt.2.2.1, bt.2.2.2.1, bt.2.2.2.2.1, a1, ([] : List Int)⟩ : S53)]).length : Int) ∧ (rd_T53 (l0 ++ [(⟨bt.1, bt.2.1, bt.2.2.1, bt.2.2.2.1, bt.2.2.2.2.1, a1, ([] : List Int)⟩ : S53)]) a1).f6.length < 17592186044415 then
  some ((l0 ++ [(⟨bt.1, bt.2.1, bt.2.2.1, bt.2.2.2.1, bt.2.2.2.2.1, a1, ([] : List Int)⟩ : S53)]).set a1.toNat ⟨(rd_T53 (l0 ++ [(⟨bt.1, bt.2.1, bt.2.2.1, bt.2.2.2.1, bt.2.2.2.2.1, a1, ([] : List Int)⟩ : S53)]) a1).f0, (rd_T53 (l0 ++ [(⟨bt.1, bt.2.1, bt.2.2.1, bt.2.2.2.1, bt.2.2.2.2.1, a1, ([] : List Int)⟩ : S53)]) a1).f1, (rd_T53 (l0 ++ [(⟨bt.1, bt.2.1, bt.2.2.1, bt.2.2.2.1, bt.2.2.2.2.1, a1, ([] : List Int)⟩ : S53)]) a1).f2, (rd_T53 (l0 ++ [(⟨bt.1, bt.2.1, bt.2.2.1, bt.2.2.2.1, bt.2.2.2.2.1, a1, ([] : List Int)⟩ : S53)]) a1).f3, (rd_T53 (l0 ++ [(⟨bt.1, bt.2.1, bt.2.2.1, bt.2.2.2.1, bt.2.2.2.2.1, a1, ([] : List Int)⟩ : S53)]) a1).f4, (rd_T53 (l0 ++ [(⟨bt.1, bt.2.1, bt.2.2.1, bt.2.2.2.1, bt.2.2.2.2.1, a1, ([] : List Int)⟩ : S53)]) a1).f5, (rd_T53 (l0 ++ [(⟨bt.1, bt.2.1, bt.2.2.1, bt.2.2.2.1, bt.2.2.2.2.1, a1, ([] : List Int)⟩ : S53)]) a1).f6.take (hang_at a2 (rd_T53 (l0 ++ [(⟨bt.1, bt.2.1, bt.2.2.1, bt.2.2.2.1, bt.2.2.2.2.1, a1, ([] : List Int)⟩ : S53)]) a1).f6.length) ++ (l0.length : Int) :: (rd_T53 (l0 ++ [(⟨bt.1, bt.2.1, bt.2.2.1, bt.2.2.2.1, bt.2.2.2.2.1, a1, ([] : List Int)⟩ : S53)]) a1).f6.drop (hang_at a2 (rd_T53 (l0 ++ [(⟨bt.1, bt.2.1, bt.2.2.1, bt.2.2.2.1, bt.2.2.2.2.1, a1, ([] : List Int)⟩ : S53)]) a1).f6.length)⟩, (l0.length : Int)) else none
theorem spec_l6Add.calls (P0_ : Nat → Prop) (v0 : Value) (l0 : List S53) (a1 a2 : Int) (a3_0 a3_1 : Int) (a3_2 : ByteArray) (A3_3 : Option Addr) (c3_3 : Nat) (l3_3 : List S56) (a3_4 : ByteArray) (a3_5 : Int) (A3_6 : Option Addr) (c3_6 : Nat) (l3_6 : List Int) (r1 : List S53) (r2 : Int) (w0 w : World) (hB : Below w0.heap.size w0 w) (ho : Kd.S k53 53 w w0.heap.size P0_ v0 l0) (hr3 : Kd.C k56 w A3_3 l3_3.length l3_3) (hc3 : l3_3.length ≤ c3_3) (hr6 : Kd.C (Kd.int .i64) w A3_6 l3_6.length l3_6) (hc6 : l3_6.length ≤ c3_6) (h : spec_l6Add.f l0 a1 a2 a3_0 a3_1 a3_2 l3_3 a3_4 a3_5 l3_6 = some (r1, r2)) :
  Calls Tryz.prog 57 #[v0, .int .i64 a1, .int .i64 a2, .agg #[.int .i64 a3_0, .int .i64 a3_1, .string a3_2, .slice A3_3 l3_3.length c3_3, .string a3_4, .int .i64 a3_5, .slice A3_6 l3_6.length c3_6]] w fun e w' => ∃ v1_ : Value, e = .returned (.tuple #[v1_, .int .i64 r2]) ∧ Kd.S k53 53 w' w0.heap.size (fun k => P0_ k ∨ w.heap.size ≤ k) v1_ r1 ∧ Below w0.heap.size w0 w' ∧ Kept w w' P0_ := by
 unfold spec_l6Add.f at h
 replace h := Option.bind_eq_some_iff.mp h
 obtain ⟨⟨t0, t1, t2, t3, t4, t5, t6⟩, A60, h⟩ := h
 dsimp only at h
 generalize hx : (⟨t0, t1, t2, t3, t4, a1, ([] : List Int)⟩ : S53) = x at h
 generalize hy : l0 ++ [x] = y at h
 split at h
 case isFalse => exact absurd h (by simp)
 case isTrue hc =>
 obtain ⟨cl, p1, q1, c6⟩ := hc
 have cle : (y.length : Int) = l0.length + 1 := by rw [← hy]; simp
 have CLE := am cle
 clear cle
 have A6 := am A60
 clear A60
 have CL := am cl
 have C6 := am c6
 clear cl c6
 have HX := am hx
 have HY := am hy
 clear hx hy
 obtain ⟨A0, c0, rfl⟩ := Kd.S_slice ho
 have HS : Aside0 (Kd.S k53 53 w w0.heap.size (fun k => P0_ k ∧ k < w.heap.size) (.slice A0 l0.length c0) l0) := ⟨Kd.S_mono (Kd.S_bound ho) (fun k hk => ⟨hk.1, hk.2.2.1⟩)⟩
 have HL := am (Kd.S_lt ho)
 have HB := am hB
 have HW0 := am hB.size
 have HK := am (Kept.refl w P0_)
 have HR3 := am hr3
 have HC3 := am hc3
 have HR6a := am hr6
 have HC6a := am hc6
 clear ho hB hr3 hc3 hr6 hc6
 have P1 := am p1
 have Q1 := am q1
 clear p1 q1
 by_cases c10 : a2 < 0
 have PAT := am (show (0 : Int) ≤ ((rd_T53 y a1).f6.length : Int) by omega)
 have QAT := am (show ((rd_T53 y a1).f6.length : Int) ≤ ((rd_T53 y a1).f6.length : Int) by omega)
 have hh_ : hang_at a2 (rd_T53 y a1).f6.length = (((rd_T53 y a1).f6.length : Int)).toNat := by unfold hang_at; split <;> omega
 rw [hh_] at h
 clear hh_
 have c10b0 := decide_eq_true c10
 clear c10
 have pat_ := eq_true PAT.out
 have qat_ := eq_true QAT.out
 simp only [Option.some.injEq, Prod.mk.injEq] at h
 obtain ⟨rfl, rfl⟩ := h
 obtain ⟨y7, hy7⟩ : ∃ r : List Int, r = (rd_T53 y a1).f6.take (((rd_T53 y a1).f6.length : Int)).toNat := ⟨_, rfl⟩
 obtain ⟨y12, hy12⟩ : ∃ r : List Int, r = (rd_T53 y a1).f6.drop (((rd_T53 y a1).f6.length : Int)).toNat := ⟨_, rfl⟩
 have KY7 := am (show y7.length = (((rd_T53 y a1).f6.length : Int)).toNat by rw [hy7, List.length_take]; have := QAT.out; omega)
 have KY12 := am (show y12.length = (rd_T53 y a1).f6.length - (((rd_T53 y a1).f6.length : Int)).toNat by rw [hy12, List.length_drop])
 rw [← hy7, ← hy12]
 have HY7 := am hy7
 have HY12 := am hy12
 clear hy7 hy12
 obtain ⟨r6, hr6_⟩ : ∃ r : List Int, r = y7 ++ (l0.length : Int) :: y12 := ⟨_, rfl⟩
 rw [← hr6_]
 have HRR := am (show r6 = y7 ++ [(l0.length : Int)] ++ y12 by rw [hr6_]; simp)
 clear hr6_
 rotate_left
 by_cases c11 : ((rd_T53 y a1).f6.length : Int) < a2
 have PAT := am (show (0 : Int) ≤ ((rd_T53 y a1).f6.length : Int) by omega)
 have QAT := am (show ((rd_T53 y a1).f6.length : Int) ≤ ((rd_T53 y a1).f6.length : Int) by omega)
 have hh_ : hang_at a2 (rd_T53 y a1).f6.length = (((rd_T53 y a1).f6.length : Int)).toNat := by unfold hang_at; split <;> omega
 rw [hh_] at h
 clear hh_
 have c10b0 := decide_eq_false c10
 have c11b0 := decide_eq_true c11
 clear c10 c11
 have pat_ := eq_true PAT.out
 have qat_ := eq_true QAT.out
 simp only [Option.some.injEq, Prod.mk.injEq] at h
 obtain ⟨rfl, rfl⟩ := h
 obtain ⟨y7, hy7⟩ : ∃ r : List Int, r = (rd_T53 y a1).f6.take (((rd_T53 y a1).f6.length : Int)).toNat := ⟨_, rfl⟩
 obtain ⟨y12, hy12⟩ : ∃ r : List Int, r = (rd_T53 y a1).f6.drop (((rd_T53 y a1).f6.length : Int)).toNat := ⟨_, rfl⟩
 have KY7 := am (show y7.length = (((rd_T53 y a1).f6.length : Int)).toNat by rw [hy7, List.length_take]; have := QAT.out; omega)
 have KY12 := am (show y12.length = (rd_T53 y a1).f6.length - (((rd_T53 y a1).f6.length : Int)).toNat by rw [hy12, List.length_drop])
 rw [← hy7, ← hy12]
 have HY7 := am hy7
 have HY12 := am hy12
 clear hy7 hy12
 obtain ⟨r6, hr6_⟩ : ∃ r : List Int, r = y7 ++ (l0.length : Int) :: y12 := ⟨_, rfl⟩
 rw [← hr6_]
 have HRR := am (show r6 = y7 ++ [(l0.length : Int)] ++ y12 by rw [hr6_]; simp)
 clear hr6_
 rotate_left
 have PAT := am (show (0 : Int) ≤ a2 by omega)
 have QAT := am (show a2 ≤ ((rd_T53 y a1).f6.length : Int) by omega)
 have hh_ : hang_at a2 (rd_T53 y a1).f6.length = (a2).toNat := by unfold hang_at; split <;> omega
 rw [hh_] at h
 clear hh_
 have c10b0 := decide_eq_false c10
 have c11b0 := decide_eq_false c11
 clear c10 c11
 have pat_ := eq_true PAT.out
 have qat_ := eq_true QAT.out
 simp only [Option.some.injEq, Prod.mk.injEq] at h
 obtain ⟨rfl, rfl⟩ := h
 obtain ⟨y7, hy7⟩ : ∃ r : List Int, r = (rd_T53 y a1).f6.take (a2).toNat := ⟨_, rfl⟩
 obtain ⟨y12, hy12⟩ : ∃ r : List Int, r = (rd_T53 y a1).f6.drop (a2).toNat := ⟨_, rfl⟩
 have KY7 := am (show y7.length = (a2).toNat by rw [hy7, List.length_take]; have := QAT.out; omega)
 have KY12 := am (show y12.length = (rd_T53 y a1).f6.length - (a2).toNat by rw [hy12, List.length_drop])
 rw [← hy7, ← hy12]
 have HY7 := am hy7
 have HY12 := am hy12
 clear hy7 hy12
 obtain ⟨r6, hr6_⟩ : ∃ r : List Int, r = y7 ++ (l0.length : Int) :: y12 := ⟨_, rfl⟩
 rw [← hr6_]
 have HRR := am (show r6 = y7 ++ [(l0.length : Int)] ++ y12 by rw [hr6_]; simp)
 clear hr6_
 rotate_left
 all_goals
  go_enter Tryz.func57, Tryz.ntmps57
  go_wp2_with (first | ((with_reducible refine gd_ 7 ?_); (try (refine gate_guard (by rfl) ?_; dsimp only)); refine bx_ 7 (cs := #[.int .i64 a3_0, .int .i64 a3_1, .string a3_2, .slice A3_3 l3_3.length c3_3, .string a3_4, .int .i64 a3_5, .slice A3_6 l3_6.length c3_6]) 53 ?_; intro ga hg w1 hbox hb; replace HS := am (Kd.S_below HS.out hb); replace HB := am (below_step HB.out hb); replace HK := am (Kept.below HK.out hb); replace HR3 := am (Kd.C_below HR3.out hb); replace HR6a := am (Kd.C_below HR6a.out hb); have BA := am hbox; clear hb hbox hg; obtain ⟨hczz_0, hczz_1, hczz_2, hczz_3, hczz_4, hczz_5, hczz_6⟩ := cl7 BA; obtain ⟨hfzz_0, hfzz_1, hfzz_2, hfzz_3, hfzz_4, hfzz_5, hfzz_6⟩ := fz7 BA) | ((with_reducible refine gate_callee (f := 82) rfl ?_); refine goesL_ (some 17) rfl rfl Tryz.func82 (by kernel_rfl) rfl #[.agg #[.int .i64 a3_0, .int .i64 a3_1, .string a3_2, .slice A3_3 l3_3.length c3_3, .string a3_4, .int .i64 a3_5, .slice A3_6 l3_6.length c3_6]] rfl ab5 ?_; (with_reducible refine (spec_l6Item.calls a3_0 a3_1 a3_2 _ _ l3_3 a3_4 a3_5 _ _ l3_6 t0 t1 t2 t3 t4 t5 t6 _ HR3.out HC3.out HR6a.out HC6a.out A6.out).mono ?_); rintro e w2 ⟨v3, v6_, rfl, ho0, ho1, hb⟩; refine ⟨_, rfl, ?_⟩; obtain ⟨Ao, co, eo⟩ := Kd.R_slice ho0; subst eo; obtain ⟨Ap, cp, eo⟩ := Kd.R_slice ho1; subst eo; have HA : Aside0 (Kd.R k56 56 w2 w0.heap.size (fun k => w.heap.size ≤ k ∧ k < w2.heap.size) (.slice Ao t3.length co) t3) := ⟨Kd.R_lower (Kd.R_mono (Kd.R_bound ho0) (fun k hk => ⟨Nat.le_trans HK.out.1 hk.2.1, hk.2.2.1⟩)) (below_size HB.out)⟩; replace HS := am (Kd.S_below HS.out hb); replace HB := am (below_step HB.out hb); replace HK := am (Kept.below HK.out hb); clear ho0 ho1 hb HR3 HR6a BA) | ((with_reducible refine gd_ 11 ?_); (try (refine gate_guard (by rfl) ?_; dsimp only)); refine bx_ 11 (cs := #[.int .i64 0, .int .i64 0, .string (⟨#[]⟩ : ByteArray), .slice none 0 0, .string (⟨#[]⟩ : ByteArray), .int .i64 0, .slice none 0 0]) 53 ?_; intro gb hg w3 hbox hb; have GE := am (show w.heap.size ≤ gb by rw [hg]; exact HK.out.1); have HNE := am (fun (k : Nat) (hk : P0_ k ∧ k < w.heap.size) => (by have := hk.2; have := GE.out; omega : k ≠ gb)); replace HA : Aside0 (Kd.R k56 56 w3 w0.heap.size (fun k => w.heap.size ≤ k ∧ k ≠ gb) (.slice Ao t3.length co) t3) := ⟨Kd.R_mono (Kd.R_below HA.out hb) (fun k hk => ⟨hk.1, by have := hk.2; omega⟩)⟩; replace HS := am (Kd.S_below HS.out hb); replace HB := am (below_step HB.out hb); replace HK := am (Kept.below HK.out hb); have BK := am hbox; clear hb hbox hg; obtain ⟨hczy_0, hczy_1, hczy_2, hczy_3, hczy_4, hczy_5, hczy_6⟩ := cl7 BK; obtain ⟨hfzy_0, hfzy_1, hfzy_2, hfzy_3, hfzy_4, hfzy_5, hfzy_6⟩ := fz7 BK) | ((with_reducible refine gate_store (t := 53) (p := 11) rfl ?_); refine store_event (t := 53) (p := 11) (v := ?vo11) (w1 := (((((((w3.setCell ⟨gb, 0, none⟩ (.int .i64 t0)).setCell ⟨gb, 1, none⟩ (.int .i64 t1)).setCell ⟨gb, 2, none⟩ (.string t2)).setCell ⟨gb, 3, none⟩ (.slice Ao t3.length co)).setCell ⟨gb, 4, none⟩ (.string t4)).setCell ⟨gb, 5, none⟩ (.int .i64 t5)).setCell ⟨gb, 6, none⟩ (.slice Ap t6.length cp))) ?hg ?ho ?hn ?hr ?_; (case ho => rfl); (case hg => rfl); (case hn => rfl); (case hr => first | (go_simp; done) | (go_simp; rfl)); intro w4 hw; replace HA : Aside0 (Kd.R k56 56 w4 w0.heap.size (fun k => w.heap.size ≤ k ∧ k ≠ gb) (.slice Ao t3.length co) t3) := ⟨by rw [hw]; exact (Kd.R_far (p := ⟨gb, 6, none⟩) (Kd.R_far (p := ⟨gb, 5, none⟩) (Kd.R_far (p := ⟨gb, 4, none⟩) (Kd.R_far (p := ⟨gb, 3, none⟩) (Kd.R_far (p := ⟨gb, 2, none⟩) (Kd.R_far (p := ⟨gb, 1, none⟩) (Kd.R_far (p := ⟨gb, 0, none⟩) HA.out (fun _ hk => hk.2) (.int .i64 t0)) (fun _ hk => hk.2) (.int .i64 t1)) (fun _ hk => hk.2) (.string t2)) (fun _ hk => hk.2) (.slice Ao t3.length co)) (fun _ hk => hk.2) (.string t4)) (fun _ hk => hk.2) (.int .i64 t5)) (fun _ hk => hk.2) (.slice Ap t6.length cp))⟩; replace HS : Aside0 (Kd.S k53 53 w4 w0.heap.size (fun k => P0_ k ∧ k < w.heap.size) (.slice A0 l0.length c0) l0) := ⟨by rw [hw]; exact (Kd.S_far (p := ⟨gb, 6, none⟩) (Kd.S_far (p := ⟨gb, 5, none⟩) (Kd.S_far (p := ⟨gb, 4, none⟩) (Kd.S_far (p := ⟨gb, 3, none⟩) (Kd.S_far (p := ⟨gb, 2, none⟩) (Kd.S_far (p := ⟨gb, 1, none⟩) (Kd.S_far (p := ⟨gb, 0, none⟩) HS.out (fun k hk => HNE.out k hk) (.int .i64 t0)) (fun k hk => HNE.out k hk) (.int .i64 t1)) (fun k hk => HNE.out k hk) (.string t2)) (fun k hk => HNE.out k hk) (.slice Ao t3.length co)) (fun k hk => HNE.out k hk) (.string t4)) (fun k hk => HNE.out k hk) (.int .i64 t5)) (fun k hk => HNE.out k hk) (.slice Ap t6.length cp))⟩; replace BK : Aside0 (w4.heap[gb]? = some (.cells #[.int .i64 t0, .int .i64 t1, .string t2, .slice Ao t3.length co, .string t4, .int .i64 t5, .slice Ap t6.length cp] 53 (0, 0))) := ⟨by rw [hw]; refine blk_put (cs := #[.int .i64 t0, .int .i64 t1, .string t2, .slice Ao t3.length co, .string t4, .int .i64 t5, .slice none 0 0]) ?_ 6 _ rfl; refine blk_put (cs := #[.int .i64 t0, .int .i64 t1, .string t2, .slice Ao t3.length co, .string t4, .int .i64 0, .slice none 0 0]) ?_ 5 _ rfl; refine blk_put (cs := #[.int .i64 t0, .int .i64 t1, .string t2, .slice Ao t3.length co, .string (⟨#[]⟩ : ByteArray), .int .i64 0, .slice none 0 0]) ?_ 4 _ rfl; refine blk_put (cs := #[.int .i64 t0, .int .i64 t1, .string t2, .slice none 0 0, .string (⟨#[]⟩ : ByteArray), .int .i64 0, .slice none 0 0]) ?_ 3 _ rfl; refine blk_put (cs := #[.int .i64 t0, .int .i64 t1, .string (⟨#[]⟩ : ByteArray), .slice none 0 0, .string (⟨#[]⟩ : ByteArray), .int .i64 0, .slice none 0 0]) ?_ 2 _ rfl; refine blk_put (cs := #[.int .i64 t0, .int .i64 0, .string (⟨#[]⟩ : ByteArray), .slice none 0 0, .string (⟨#[]⟩ : ByteArray), .int .i64 0, .slice none 0 0]) ?_ 1 _ rfl; refine blk_put (cs := #[.int .i64 0, .int .i64 0, .string (⟨#[]⟩ : ByteArray), .slice none 0 0, .string (⟨#[]⟩ : ByteArray), .int .i64 0, .slice none 0 0]) ?_ 0 _ rfl; exact BK.out⟩; replace HB : Aside0 (Below w0.heap.size w0 w4) := ⟨by rw [hw]; exact (below_set (below_set (below_set (below_set (below_set (below_set (below_set HB.out (Nat.le_trans HW0.out GE.out)) (Nat.le_trans HW0.out GE.out)) (Nat.le_trans HW0.out GE.out)) (Nat.le_trans HW0.out GE.out)) (Nat.le_trans HW0.out GE.out)) (Nat.le_trans HW0.out GE.out)) (Nat.le_trans HW0.out GE.out))⟩; replace HK : Aside0 (Kept w w4 P0_) := ⟨by rw [hw]; exact (Kept.setCell (p := ⟨gb, 6, none⟩) (Kept.setCell (p := ⟨gb, 5, none⟩) (Kept.setCell (p := ⟨gb, 4, none⟩) (Kept.setCell (p := ⟨gb, 3, none⟩) (Kept.setCell (p := ⟨gb, 2, none⟩) (Kept.setCell (p := ⟨gb, 1, none⟩) (Kept.setCell (p := ⟨gb, 0, none⟩) HK.out (Or.inr GE.out) (.int .i64 t0)) (Or.inr GE.out) (.int .i64 t1)) (Or.inr GE.out) (.string t2)) (Or.inr GE.out) (.slice Ao t3.length co)) (Or.inr GE.out) (.string t4)) (Or.inr GE.out) (.int .i64 t5)) (Or.inr GE.out) (.slice Ap t6.length cp))⟩; clear hw; obtain ⟨hczb0_0, hczb0_1, hczb0_2, hczb0_3, hczb0_4, hczb0_5, hczb0_6⟩ := cl7 BK; obtain ⟨hfzb0_0, hfzb0_1, hfzb0_2, hfzb0_3, hfzb0_4, hfzb0_5, hfzb0_6⟩ := fz7 BK) | ((with_reducible refine gate_store (t := 23) (p := 18) rfl ?_); refine store_event (t := 23) (p := 18) (v := ?vo18) (w1 := (w4.setCell ⟨gb, 6, none⟩ (.slice none 0 0))) ?hg ?ho ?hn ?hr ?_; (case ho => rfl); (case hg => rfl); (case hn => rfl); (case hr => first | (go_simp; done) | (go_simp; rfl)); intro w5 hw; replace HA : Aside0 (Kd.R k56 56 w5 w0.heap.size (fun k => w.heap.size ≤ k ∧ k ≠ gb) (.slice Ao t3.length co) t3) := ⟨by rw [hw]; exact (Kd.R_far (p := ⟨gb, 6, none⟩) HA.out (fun _ hk => hk.2) (.slice none 0 0))⟩; replace HS : Aside0 (Kd.S k53 53 w5 w0.heap.size (fun k => P0_ k ∧ k < w.heap.size) (.slice A0 l0.length c0) l0) := ⟨by rw [hw]; exact (Kd.S_far (p := ⟨gb, 6, none⟩) HS.out (fun k hk => HNE.out k hk) (.slice none 0 0))⟩; replace BK : Aside0 (w5.heap[gb]? = some (.cells #[.int .i64 t0, .int .i64 t1, .string t2, .slice Ao t3.length co, .string t4, .int .i64 t5, .slice none 0 0] 53 (0, 0))) := ⟨by rw [hw]; refine blk_put (cs := #[.int .i64 t0, .int .i64 t1, .string t2, .slice Ao t3.length co, .string t4, .int .i64 t5, .slice Ap t6.length cp]) ?_ 6 _ rfl; exact BK.out⟩; replace HB : Aside0 (Below w0.heap.size w0 w5) := ⟨by rw [hw]; exact (below_set HB.out (Nat.le_trans HW0.out GE.out))⟩; replace HK : Aside0 (Kept w w5 P0_) := ⟨by rw [hw]; exact (Kept.setCell (p := ⟨gb, 6, none⟩) HK.out (Or.inr GE.out) (.slice none 0 0))⟩; clear hw; obtain ⟨hczb1_0, hczb1_1, hczb1_2, hczb1_3, hczb1_4, hczb1_5, hczb1_6⟩ := cl7 BK; obtain ⟨hfzb1_0, hfzb1_1, hfzb1_2, hfzb1_3, hfzb1_4, hfzb1_5, hfzb1_6⟩ := fz7 BK) | ((with_reducible refine gate_store (t := 3) (p := 20) rfl ?_); refine store_event (t := 3) (p := 20) (v := ?vo20) (w1 := (w5.setCell ⟨gb, 5, none⟩ (.int .i64 a1))) ?hg ?ho ?hn ?hr ?_; (case ho => rfl); (case hg => rfl); (case hn => rfl); (case hr => first | (go_simp; done) | (go_simp; rfl)); intro w5b hw; replace HA : Aside0 (Kd.R k56 56 w5b w0.heap.size (fun k => w.heap.size ≤ k ∧ k ≠ gb) (.slice Ao t3.length co) t3) := ⟨by rw [hw]; exact (Kd.R_far (p := ⟨gb, 5, none⟩) HA.out (fun _ hk => hk.2) (.int .i64 a1))⟩; replace HS : Aside0 (Kd.S k53 53 w5b w0.heap.size (fun k => P0_ k ∧ k < w.heap.size) (.slice A0 l0.length c0) l0) := ⟨by rw [hw]; exact (Kd.S_far (p := ⟨gb, 5, none⟩) HS.out (fun k hk => HNE.out k hk) (.int .i64 a1))⟩; replace BK : Aside0 (w5b.heap[gb]? = some (.cells #[.int .i64 t0, .int .i64 t1, .string t2, .slice Ao t3.length co, .string t4, .int .i64 a1, .slice none 0 0] 53 (0, 0))) := ⟨by rw [hw]; refine blk_put (cs := #[.int .i64 t0, .int .i64 t1, .string t2, .slice Ao t3.length co, .string t4, .int .i64 t5, .slice none 0 0]) ?_ 5 _ rfl; exact BK.out⟩; replace HB : Aside0 (Below w0.heap.size w0 w5b) := ⟨by rw [hw]; exact (below_set HB.out (Nat.le_trans HW0.out GE.out))⟩; replace HK : Aside0 (Kept w w5b P0_) := ⟨by rw [hw]; exact (Kept.setCell (p := ⟨gb, 5, none⟩) HK.out (Or.inr GE.out) (.int .i64 a1))⟩; clear hw; obtain ⟨hczb2_0, hczb2_1, hczb2_2, hczb2_3, hczb2_4, hczb2_5, hczb2_6⟩ := cl7 BK; obtain ⟨hfzb2_0, hfzb2_1, hfzb2_2, hfzb2_3, hfzb2_4, hfzb2_5, hfzb2_6⟩ := fz7 BK) | ((with_reducible refine gate_builtin (b := .append) (xs := #[.tmp 21, .tmp 23]) rfl ?_); (try (refine gate_guard (by rfl) ?_; dsimp only)); at_builtin; refine Kd.S_append k53 (w0 := w0) w0.heap.size rfl (.tmp 21) (.tmp 23) 29 53 (.agg #[(.int .i64 0), (.int .i64 0), (.string ⟨#[]⟩), (.slice none 0 0), (.string ⟨#[]⟩), (.int .i64 0), (.slice none 0 0)]) 104 rfl Tryz.underlying29 info53 rfl (by decide) (by omega) (.slice A0 l0.length c0) l0 x [.int .i64 t0, .int .i64 t1, .string t2, .slice Ao t3.length co, .string t4, .int .i64 a1, .slice none 0 0] (fun k => P0_ k ∨ w.heap.size ≤ k) (fun k => some k = (.slice Ao t3.length co : Value).ownBlock) rfl rfl ?aP ?aK ?aF ?aO ?aB ?aS ?aL ?_; (case aP => rw [← HX.out]; exact k53_mkM _ _ _ (⟨t0, t1, t2, t3, t4, a1, ([] : List Int)⟩ : S53) (Kd.R_tight rfl HA.out) (Kd.R_nil _ _ _ _ _)); (case aK => exact fun k hk => ⟨Or.inr (HA.out.1 k hk.symm).1, fun e_ => by have h1_ := HL.out k e_.symm; have h2_ := (HA.out.1 k hk.symm).1; omega⟩); (case aB => exact HB.out); (case aF => exact fun k hk => Or.inr (Nat.le_trans HK.out.1 hk)); (case aO => exact Kd.S_mono HS.out (fun k hk => ⟨Or.inl hk.1, fun e_ => by have h1_ := hk.2; have h2_ := (HA.out.1 k e_.symm).1; omega⟩)); (case aS => exact below_size HB.out); (case aL => have := CL.out; omega); intro v6 w6 ho hb hg hat; rw [HY.out] at ho; replace HK := am (Kept.of_grown (S := P0_) hg HK.out (fun k e_ => Or.inl ((Kd.S_R HS.out).1 k e_).1)); replace HB := am hb; have HO := am ho; clear hg hb ho hat BK HA HS; obtain ⟨g, cap, eg, gb2, gl, cells, HG⟩ := Kd.S_form HO.out (by have := CLE.out; omega); subst eg; have HGP := am ((Kd.S_R HO.out).1 g rfl); have GB := am gb2; have GL := am gl; clear gb2 gl HG; obtain ⟨A6_, c6_, hx6, hf6, hl6, hr6, hback⟩ := S_kids_store HO.out a1 P1.out Q1.out (fun k hk => Or.inr (Nat.le_trans HK.out.1 hk)) GL.out; have HR6 := am hr6; have HBK := am hback; have HF6 := am (hf6 6); have HX6 := am hx6; have HL6 := am hl6; clear hr6 hback hf6 hl6; have p1_ := eq_true P1.out; have q1_ := eq_true Q1.out) | ((with_reducible refine gate_dst (N := 40) rfl ?_); (try (refine gate_guard (by rfl) ?_; dsimp only)); refine Kd.R_lit (Kd.int .i64) _ 3 ?hg (N := 40) ?hd (xs := ([] : List Int)) (inner := []) (ok := fun _ => True) (okp := fun _ => True) ?hr ?hp (fun _ hk => hk) trivial (Below.refl _ _) (Nat.le_refl _) (by simp) ?_; (case hd => rfl); (case hg => rfl); (case hr => first | (go_simp; done) | (go_simp; rfl)); (case hp => exact (Reps.none _ _)); intro v7 w7 ho7 hb hg_ hnew_; clear hg_ hnew_; have HQ := am (show Below w6.heap.size w6 w7 from hb); have HO7 := am (show Kd.R (Kd.int .i64) 3 w7 w6.heap.size (fun _ => True) v7 ([] : List Int) from ho7); clear hb ho7; obtain ⟨i07, hi07, _, hsz7, _⟩ := info_parts info3; have hcut7 := cut_to (P := Tryz.prog) 23 3 .i64 Tryz.underlying23 hi07 A6_ (rd_T53 y a1).f6.length c6_ a2 PAT.out QAT.out HL6.out; have hr7 := Kd.C_take (m := (a2).toNat) (Kd.R_reads' HR6.out).2.2 (by have := QAT.out; have := PAT.out; omega); rw [← HY7.out] at hr7; rw [← KY7.out] at hcut7; have HR7 := am (show Kd.C (Kd.int .i64) w6 A6_ y7.length y7 from hr7); clear hr7 hi07 hsz7) | ((with_reducible refine gate_dst (N := 40) rfl ?_); (try (refine gate_guard (by rfl) ?_; dsimp only)); refine Kd.R_lit (Kd.int .i64) _ 3 ?hg (N := 40) ?hd (xs := ([] : List Int)) (inner := []) (ok := fun _ => True) (okp := fun _ => True) ?hr ?hp (fun _ hk => hk) trivial (Below.refl _ _) (Nat.le_refl _) (by simp) ?_; (case hd => rfl); (case hg => rfl); (case hr => first | (go_simp; done) | (go_simp; rfl)); (case hp => exact (Reps.none _ _)); intro v7 w7 ho7 hb hg_ hnew_; clear hg_ hnew_; have HQ := am (show Below w6.heap.size w6 w7 from hb); have HO7 := am (show Kd.R (Kd.int .i64) 3 w7 w6.heap.size (fun _ => True) v7 ([] : List Int) from ho7); clear hb ho7; obtain ⟨i07, hi07, _, hsz7, _⟩ := info_parts info3; have hcut7 := cut_to (P := Tryz.prog) 23 3 .i64 Tryz.underlying23 hi07 A6_ (rd_T53 y a1).f6.length c6_ ((rd_T53 y a1).f6.length : Int) PAT.out QAT.out HL6.out; have hr7 := Kd.C_take (m := (((rd_T53 y a1).f6.length : Int)).toNat) (Kd.R_reads' HR6.out).2.2 (by have := QAT.out; have := PAT.out; omega); rw [← HY7.out] at hr7; rw [← KY7.out] at hcut7; have HR7 := am (show Kd.C (Kd.int .i64) w6 A6_ y7.length y7 from hr7); clear hr7 hi07 hsz7) | ((with_reducible refine gate_builtin (b := .append) (xs := #[.tmp 40, .tmp 43]) rfl ?_); (try (refine gate_guard (by rfl) ?_; dsimp only)); at_builtin; refine Kd.R_append_rows (Kd.int .i64) (w0 := w6) w6.heap.size rfl (.tmp 40) (.tmp 43) 23 3 (.int .i64 0) 8 rfl Tryz.underlying23 info3 rfl (by decide) (by omega) v7 ([] : List Int) y7 _ _ _ (fun _ => True) (fun _ => False) rfl rfl ?aO ?aR (fun _ _ h => h) (fun _ h => h.elim) ?aF ?aB ?aS ?aL ?_; (case aR => exact Kd.C_below HR7.out HQ.out); (case aB => exact HQ.out); (case aF => exact fun _ _ => trivial); (case aO => exact Kd.R_mono HO7.out (fun _ _ => by simp)); (case aS => exact below_size HQ.out); (case aL => have h1_ := C6.out; have h2_ := PAT.out; have h3_ := QAT.out; have h4_ := KY7.out; have h5_ := KY12.out; simp only [List.length_nil, List.length_append, List.length_cons]; omega); intro v8 w8 ho hb hg hat; replace HQ := am hb; have HO8 := am (show Kd.R (Kd.int .i64) 3 w8 w6.heap.size (fun _ => True) v8 y7 from ho); clear ho hb hg hat HO7) | ((with_reducible refine gate_builtin (b := .append) (xs := #[.tmp 45, .tmp 47]) rfl ?_); (try (refine gate_guard (by rfl) ?_; dsimp only)); at_builtin; refine Kd.R_append (Kd.int .i64) (w0 := w6) w6.heap.size rfl (.tmp 45) (.tmp 47) 23 3 (.int .i64 0) 8 rfl Tryz.underlying23 info3 rfl (by decide) (by omega) v8 y7 (l0.length : Int) [.int .i64 (l0.length : Int)] (fun _ => True) (fun _ => False) rfl rfl ?aP (fun _ hk => hk.elim) ?aF ?aO ?aB ?aS ?aL ?_; (case aP => exact rfl); (case aB => exact HQ.out); (case aF => exact fun _ _ => trivial); (case aO => exact Kd.R_mono HO8.out (fun _ _ => by simp)); (case aS => exact below_size HQ.out); (case aL => have h1_ := C6.out; have h2_ := PAT.out; have h3_ := QAT.out; have h4_ := KY7.out; omega); intro v9 w9 ho hb hg hat; replace HQ := am hb; have HO9 := am ho; clear ho hb hg hat HO8; obtain ⟨i012, hi012, _, hsz12, _⟩ := info_parts info3; have hcut12 := cut_from (P := Tryz.prog) 23 3 .i64 Tryz.underlying23 hi012 1 hsz12 A6_ (rd_T53 y a1).f6.length c6_ a2 PAT.out QAT.out; have hr12 := Kd.C_drop (m := (a2).toNat) (c := c6_) (Kd.R_reads' HR6.out).2.2 (by have h2_ := PAT.out; have h3_ := QAT.out; omega) HL6.out; obtain ⟨A12, hA12⟩ : ∃ A1, A1 = (if c6_ = (a2).toNat then A6_ else (A6_ : Option Addr).map (·.add ((a2).toNat * 1))) := ⟨_, rfl⟩; obtain ⟨c12, hc12⟩ : ∃ c1, c1 = c6_ - (a2).toNat := ⟨_, rfl⟩; rw [← HY12.out] at hr12; replace hr12 : Kd.C (Kd.int .i64) _ A12 y12.length y12 := (by rw [hA12]; exact hr12); rw [← KY12.out, ← hA12, ← hc12] at hcut12; have HR12 := am hr12; have KA12 := am hA12; have KC12 := am hc12; clear hr12 hi012 hsz12 hA12 hc12) | ((with_reducible refine gate_builtin (b := .append) (xs := #[.tmp 45, .tmp 47]) rfl ?_); (try (refine gate_guard (by rfl) ?_; dsimp only)); at_builtin; refine Kd.R_append (Kd.int .i64) (w0 := w6) w6.heap.size rfl (.tmp 45) (.tmp 47) 23 3 (.int .i64 0) 8 rfl Tryz.underlying23 info3 rfl (by decide) (by omega) v8 y7 (l0.length : Int) [.int .i64 (l0.length : Int)] (fun _ => True) (fun _ => False) rfl rfl ?aP (fun _ hk => hk.elim) ?aF ?aO ?aB ?aS ?aL ?_; (case aP => exact rfl); (case aB => exact HQ.out); (case aF => exact fun _ _ => trivial); (case aO => exact Kd.R_mono HO8.out (fun _ _ => by simp)); (case aS => exact below_size HQ.out); (case aL => have h1_ := C6.out; have h2_ := PAT.out; have h3_ := QAT.out; have h4_ := KY7.out; omega); intro v9 w9 ho hb hg hat; replace HQ := am hb; have HO9 := am ho; clear ho hb hg hat HO8; obtain ⟨i012, hi012, _, hsz12, _⟩ := info_parts info3; have hcut12 := cut_from (P := Tryz.prog) 23 3 .i64 Tryz.underlying23 hi012 1 hsz12 A6_ (rd_T53 y a1).f6.length c6_ ((rd_T53 y a1).f6.length : Int) PAT.out QAT.out; have hr12 := Kd.C_drop (m := (((rd_T53 y a1).f6.length : Int)).toNat) (c := c6_) (Kd.R_reads' HR6.out).2.2 (by have h2_ := PAT.out; have h3_ := QAT.out; omega) HL6.out; obtain ⟨A12, hA12⟩ : ∃ A1, A1 = (if c6_ = (((rd_T53 y a1).f6.length : Int)).toNat then A6_ else (A6_ : Option Addr).map (·.add ((((rd_T53 y a1).f6.length : Int)).toNat * 1))) := ⟨_, rfl⟩; obtain ⟨c12, hc12⟩ : ∃ c1, c1 = c6_ - (((rd_T53 y a1).f6.length : Int)).toNat := ⟨_, rfl⟩; rw [← HY12.out] at hr12; replace hr12 : Kd.C (Kd.int .i64) _ A12 y12.length y12 := (by rw [hA12]; exact hr12); rw [← KY12.out, ← hA12, ← hc12] at hcut12; have HR12 := am hr12; have KA12 := am hA12; have KC12 := am hc12; clear hr12 hi012 hsz12 hA12 hc12) | ((with_reducible refine gate_builtin (b := .append) (xs := #[.tmp 51, .tmp 54]) rfl ?_); (try (refine gate_guard (by rfl) ?_; dsimp only)); at_builtin; refine Kd.R_append_rows (Kd.int .i64) (w0 := w6) w6.heap.size rfl (.tmp 51) (.tmp 54) 23 3 (.int .i64 0) 8 rfl Tryz.underlying23 info3 rfl (by decide) (by omega) v9 (y7 ++ [(l0.length : Int)]) y12 _ _ _ (fun _ => True) (fun _ => False) rfl rfl ?aO ?aR (fun _ _ h => h) (fun _ h => h.elim) ?aF ?aB ?aS ?aL ?_; (case aR => exact Kd.C_below HR12.out HQ.out); (case aB => exact HQ.out); (case aF => exact fun _ _ => trivial); (case aO => exact Kd.R_mono HO9.out (fun _ _ => by simp)); (case aS => exact below_size HQ.out); (case aL => have h1_ := C6.out; have h2_ := PAT.out; have h3_ := QAT.out; have h4_ := KY7.out; have h5_ := KY12.out; simp only [List.length_nil, List.length_append, List.length_cons]; omega); intro v10 w10 ho hb hg hat; replace HQ := am hb; rw [← HRR.out] at ho; obtain ⟨Av, cv, ev⟩ := Kd.R_slice ho; subst ev; have HST := am (HBK.out w10 _ _ (Kd.R_lower (Kd.R_mono (Kd.R_bound ho) (fun k hk => Or.inr hk.2.1)) (below_size HB.out)) (Kept.of_below HQ.out _)); have hx8 : w10.cell? ⟨g, a1.toNat * 7 + 6, none⟩ = some (.slice A6_ (rd_T53 y a1).f6.length c6_) := cell_kept HX6.out (Kept.of_below HQ.out (fun _ => False)) (fun h_ => h_); have hf8 : w10.frozen? ⟨g, a1.toNat * 7 + 6, none⟩ = false := (by have := HF6.out; unfold World.frozen? at this ⊢; rw [HQ.out.block g GL.out]; exact this); replace HK := am (Kept.below HK.out HQ.out); replace HB := am (below_step HB.out HQ.out); clear ho hb hg hat HO9) | ((with_reducible refine gate_store (t := 23) (p := 57) rfl ?_); refine store_event (t := 23) (p := 57) (v := ?vo57) (w1 := (w10.setCell ⟨g, a1.toNat * 7 + 6, none⟩ (.slice Av r6.length cv))) ?hg ?ho ?hn ?hr ?_; (case ho => rfl); (case hg => rfl); (case hn => rfl); (case hr => first | (go_simp; done) | (go_simp; rfl)); intro w11 hw; have HZ : Aside0 (Below w0.heap.size w0 w11) := ⟨by rw [hw]; exact below_set HB.out GB.out⟩; have HKZ : Aside0 (Kept w w11 P0_) := ⟨by rw [hw]; exact Kept.setCell HK.out HGP.out _⟩; rw [← hw] at HST; clear hw))
  go_ret2
  exact ⟨_, by first | rfl | (simp [errW_none, errW_some] <;> rfl), HST.out.1, HZ.out, HKZ.out⟩
def spec_l9Tag.f (s0 : List S53) (s1 : List Int) (up at_ : Int) (a0 a1 : Int) (a2 : ByteArray) (l3 : List S56) (a4 : ByteArray) (a5 : Int) (l6 : List Int) (op : Bool) : Option (List S53 × List Int) :=
 (spec_l6Add.f s0 up at_ a0 a1 a2 l3 a4 a5 l6).bind fun z => if op = true ∧ (s1.length : Int) < 40 then some (z.1, s1 ++ [z.2]) else some (z.1, s1)
theorem spec_l9Tag.calls (U : Nat → Prop) (A0 : Option Addr) (c0 : Nat) (s0 : List S53) (A1 : Option Addr) (c1 : Nat) (s1 : List Int) (A2 : Option Addr) (c2 : Nat) (s2 : List Int) (h b up at_ : Int) (a0 a1 : Int) (a2 : ByteArray) (A3 : Option Addr) (c3 : Nat) (l3 : List S56) (a4 : ByteArray) (a5 : Int) (A6 : Option Addr) (c6 : Nat) (l6 : List Int) (op : Bool) (r1 : List S53) (r2 : List Int) (w0 w : World) (hO : OwnP w w0.heap.size U (.slice A0 s0.length c0) (.slice A1 s1.length c1) (.slice A2 s2.length c2) s0 s1 s2) (hB : Below w0.heap.size w0 w) (hr3 : Kd.C k56 w A3 l3.length l3) (hc3 : l3.length ≤ c3) (hr6 : Kd.C (Kd.int .i64) w A6 l6.length l6) (hc6 : l6.length ≤ c6) (H : spec_l9Tag.f s0 s1 up at_ a0 a1 a2 l3 a4 a5 l6 op = some (r1, r2)) :
  Calls Tryz.prog 28 #[.agg #[.slice A0 s0.length c0, .slice A1 s1.length c1, .slice A2 s2.length c2, .int .i64 h, .int .i64 b], .int .i64 up, .int .i64 at_, .agg #[.int .i64 a0, .int .i64 a1, .string a2, .slice A3 l3.length c3, .string a4, .int .i64 a5, .slice A6 l6.length c6], .bool op] w fun e w' => ∃ u0 u1 : Value, e = .returned (.agg #[u0, u1, .slice A2 s2.length c2, .int .i64 h, .int .i64 b]) ∧ OwnP w' w0.heap.size (fun k => U k ∨ w.heap.size ≤ k) u0 u1 (.slice A2 s2.length c2) r1 r2 s2 ∧ Below w0.heap.size w0 w' ∧ Kept w w' U := by
 unfold spec_l9Tag.f at H
 obtain ⟨⟨z1, z2⟩, hz, H⟩ := Option.bind_eq_some_iff.mp H
 dsimp only at H
 have hu31 := Tryz.underlying31
 have HO := am (hO.bound.mono (U' := fun k => U k ∧ k < w.heap.size) (fun k hk => ⟨hk.1, hk.2.2⟩))
 have HB := am hB
 have HX := am (Below.refl w.heap.size w)
 have HR3 := am hr3
 have HC3 := am hc3
 have HR6 := am hr6
 have HC6 := am hc6
 have AZ := am hz
 clear hO hB hr3 hc3 hr6 hc6 hz
 cases op
 rw [if_neg (by simp)] at H
 simp only [Option.some.injEq, Prod.mk.injEq] at H
 obtain ⟨rfl, rfl⟩ := H
 rotate_left
 by_cases c : (s1.length : Int) < 40
 have cb := decide_eq_true c
 have CL := am c
 rw [if_pos ⟨rfl, c⟩] at H
 simp only [Option.some.injEq, Prod.mk.injEq] at H
 obtain ⟨rfl, rfl⟩ := H
 clear c
 obtain ⟨y, hy⟩ : ∃ y : List Int, y = s1 ++ [z2] := ⟨_, rfl⟩
 rw [← hy]
 have HY := am hy
 clear hy
 have LXT : True := trivial
 rotate_left
 have cb := decide_eq_false c
 rw [if_neg (by simpa using c)] at H
 simp only [Option.some.injEq, Prod.mk.injEq] at H
 obtain ⟨rfl, rfl⟩ := H
 rotate_left
 all_goals
  go_enter Tryz.func28, Tryz.ntmps28
  go_wp2_with (first | ((with_reducible refine gd_ 5 ?_); refine bx_ 5 (cs := #[.slice A0 s0.length c0, .slice A1 s1.length c1, .slice A2 s2.length c2, .int .i64 h, .int .i64 b]) 31 ?_; intro gbp hg wp hbox hb; have GEp := gE HX hg; replace HX := xb HX hb; have BKp := am hbox; clear hb hbox hg) | ((with_reducible refine gd_ 8 ?_); refine bx_ 8 (cs := #[.int .i64 a0, .int .i64 a1, .string a2, .slice A3 l3.length c3, .string a4, .int .i64 a5, .slice A6 l6.length c6]) 53 ?_; intro gbi hg wi hbox hb; have GEi := gE HX hg; have NEp_i := nE BKp hg; replace BKp := bb BKp hb; replace HX := xb HX hb; have BKi := am hbox; clear hb hbox hg) | ((with_reducible refine gd_ 10 ?_); refine bx_ 10 (cs := #[.slice none 0 0, .slice none 0 0, .slice none 0 0, .int .i64 0, .int .i64 0]) 31 ?_; intro gbr hg wr hbox hb; have GEr := gE HX hg; have NEp_r := nE BKp hg; have NEi_r := nE BKi hg; replace BKp := bb BKp hb; replace BKi := bb BKi hb; replace HX := xb HX hb; have BKr := am hbox; clear hb hbox hg; obtain ⟨h3p0, h3p1, h3p2, h3p3, h3p4⟩ := cl5 BKp; obtain ⟨h3i0, h3i1, h3i2, h3i3, h3i4, h3i5, h3i6⟩ := cl7 BKi) | (go_at_call 57; obtain ⟨P0, hP0, hs0, hback⟩ := OwnP.items (HO.out.below HX.out); have HP0 := am hP0; have HBK := am hback; clear hP0 hback; (refine (spec_l6Add.calls P0 _ s0 up at_ a0 a1 a2 A3 c3 l3 a4 a5 A6 c6 l6 z1 z2 w0 _ (below_step HB.out HX.out) hs0 (Kd.C_below HR3.out HX.out) HC3.out (Kd.C_below HR6.out HX.out) HC6.out AZ.out).mono ?_); rintro e wm ⟨vm, rfl, hs, hb, hk⟩; obtain ⟨Y0, e0, rfl⟩ := Kd.S_slice hs; have HO2 := am (HBK.out _ _ _ hs hk); have LX := am (below_size HX.out); have GWp := GEp; have LSp := am (blk_lt BKp.out); replace BKp := am (blk_kept BKp.out hk (fun q_ => by have h1_ := (HP0.out _ q_).2; have h2_ := GEp.out; omega)); replace GEp := am (Nat.le_trans (below_size HB.out) GEp.out); have GWi := GEi; have LSi := am (blk_lt BKi.out); replace BKi := am (blk_kept BKi.out hk (fun q_ => by have h1_ := (HP0.out _ q_).2; have h2_ := GEi.out; omega)); replace GEi := am (Nat.le_trans (below_size HB.out) GEi.out); have GWr := GEr; have LSr := am (blk_lt BKr.out); replace BKr := am (blk_kept BKr.out hk (fun q_ => by have h1_ := (HP0.out _ q_).2; have h2_ := GEr.out; omega)); replace GEr := am (Nat.le_trans (below_size HB.out) GEr.out); have HK := am (Kept.then_ (Kept.of_below HX.out U) hk (fun k q => Or.inl (HP0.out k q).1)); replace HX := am hb; clear hs hb hk HBK hs0 HO; have HO := HO2; clear HO2; (try clear h3p0 h3p1 h3p2 h3p3 h3p4 h3i0 h3i1 h3i2 h3i3 h3i4 h3i5 h3i6); obtain ⟨h4p0, h4p1, h4p2, h4p3, h4p4⟩ := cl5 BKp; obtain ⟨f4p0, f4p1, f4p2, f4p3, f4p4⟩ := fz5 BKp) | ((with_reducible refine gate_store (t := 29) (p := 23) rfl ?_); refine store_event (t := 29) (p := 23) (v := ?vot1) (w1 := (wm.setCell ⟨gbp, 0, none⟩ (.slice Y0 z1.length e0))) ?hg ?ho ?hn ?hr ?_; (case ho => rfl); (case hg => rfl); (case hn => rfl); (case hr => first | (go_simp; done) | (go_simp; rfl)); intro wt hw; replace BKp : Aside0 (wt.heap[gbp]? = some (.cells #[.slice Y0 z1.length e0, .slice A1 s1.length c1, .slice A2 s2.length c2, .int .i64 h, .int .i64 b] 31 (0, 0))) := ⟨by rw [hw]; exact blk_put (cs := #[.slice A0 s0.length c0, .slice A1 s1.length c1, .slice A2 s2.length c2, .int .i64 h, .int .i64 b]) BKp.out 0 _ rfl⟩; replace BKi := kS1 hw BKi (Ne.symm NEp_i.out); replace BKr := kS1 hw BKr (Ne.symm NEp_r.out); replace HX := bS1 hw HX GEp.out; replace HK : Aside0 (Kept w wt U) := ⟨by rw [hw]; exact Kept.setCell HK.out (Or.inr GWp.out) _⟩; replace HO := pS1 hw HO (fun k hk e_ => by have h2_ := LSp.out; have h3_ : k = gbp := e_; have h4_ := GWp.out; rcases hk with hk | hk; (have := hk.2; omega); omega); clear hw; (try clear h4p0 h4p1 h4p2 h4p3 h4p4 f4p0 f4p1 f4p2 f4p3 f4p4); obtain ⟨h5p0, h5p1, h5p2, h5p3, h5p4⟩ := cl5 BKp; obtain ⟨f5p0, f5p1, f5p2, f5p3, f5p4⟩ := fz5 BKp; obtain ⟨h5r0, h5r1, h5r2, h5r3, h5r4⟩ := cl5 BKr; obtain ⟨f5r0, f5r1, f5r2, f5r3, f5r4⟩ := fz5 BKr) | ((with_reducible refine gate_store (t := 31) (p := 10) rfl ?_); refine store_event (t := 31) (p := 10) (v := ?vorwt) (w1 := (st5 wt gbr (.slice Y0 z1.length e0) (.slice A1 s1.length c1) (.slice A2 s2.length c2) (.int .i64 h) (.int .i64 b))) ?hg ?ho ?hn ?hr ?_; (case ho => rfl); (case hg => rfl); (case hn => rfl); (case hr => first | (go_simp; done) | (go_simp; rfl)); intro wf hw; replace BKp := kS5 hw BKp NEp_r.out; replace BKi := kS5 hw BKi NEi_r.out; replace BKr := sS5 hw BKr; replace HX := bS5 hw HX GEr.out; have HF := pS5 hw HO (fun k hk e_ => by have h1_ := LSr.out; have h2_ := GWr.out; rcases hk with hk | hk; (have := hk.2; omega); omega); replace HK : Aside0 (Kept w wf U) := ⟨by rw [hw]; exact Kept.then_ HK.out (set5_kept _ _ _ _ _ _ _) (fun k q => Or.inr (q ▸ GWr.out))⟩; clear hw; (try clear h5p0 h5p1 h5p2 h5p3 h5p4 f5p0 f5p1 f5p2 f5p3 f5p4 h5r0 h5r1 h5r2 h5r3 h5r4 f5r0 f5r1 f5r2 f5r3 f5r4)) | ((with_reducible refine gate_dst (N := 31) rfl ?_); obtain ⟨P1, hP1, hs1, hback1⟩ := OwnP.open_ HO.out; have HP1 := am hP1; have HBK1 := am hback1; have HS1 := am (OwnP.reads HO.out).2.1.2.2; clear hP1 hs1 hback1; refine Kd.R_lit (Kd.int .i64) _ 3 ?hg (N := 31) ?hd (w0 := wt) (xs := ([] : List Int)) (inner := []) (ok := fun k => wt.heap.size ≤ k) (okp := fun _ => False) ?hr ?hp (fun _ hk => hk.elim) (Nat.le_refl _) (Below.refl _ _) (Nat.le_refl _) (by simp) ?_; (case hd => rfl); (case hg => rfl); (case hr => first | (go_simp; done) | (go_simp; rfl)); (case hp => exact Reps.none _ _); intro vl w1 ho hb hg_ hnew_; have HV := am ho; have HT := am hb; (try clear h5p0 h5p1 h5p2 h5p3 h5p4 f5p0 f5p1 f5p2 f5p3 f5p4 h5r0 h5r1 h5r2 h5r3 h5r4 f5r0 f5r1 f5r2 f5r3 f5r4); obtain ⟨hla0, hla1, hla2, hla3, hla4⟩ := cl5 (bb BKp hb); obtain ⟨fla0, fla1, fla2, fla3, fla4⟩ := fz5 (bb BKp hb); clear hg_ hnew_ ho hb) | ((with_reducible refine gate_builtin (b := .append) (xs := #[.tmp 31, .tmp 33]) rfl ?_); at_builtin; refine Kd.R_append_rows (Kd.int .i64) (w0 := wt) wt.heap.size rfl (.tmp 31) (.tmp 33) 23 3 (.int .i64 0) 8 rfl Tryz.underlying23 info3 rfl (by decide) (by omega) vl ([] : List Int) s1 _ _ _ (fun k => wt.heap.size ≤ k) (fun _ => False) rfl rfl ?aO ?aR (fun _ _ h => h) (fun _ h => h.elim) ?aF ?aB ?aS ?aL ?_; (case aO => exact HV.out); (case aR => exact Kd.C_below HS1.out HT.out); (case aF => exact fun k hk => Nat.le_trans (below_size HT.out) hk); (case aB => exact HT.out); (case aS => exact below_size HT.out); (case aL => have := CL.out; simp only [List.length_nil]; omega); intro v9 w2 ho hb hg hat; rw [List.nil_append] at ho; replace HV := am ho; replace HT := am hb; (try clear hla0 fla0 hla1 fla1 hla2 fla2 hla3 fla3 hla4 fla4); obtain ⟨hlb0, hlb1, hlb2, hlb3, hlb4⟩ := cl5 (bb BKp hb); obtain ⟨flb0, flb1, flb2, flb3, flb4⟩ := fz5 (bb BKp hb); clear ho hb hg hat) | ((with_reducible refine gate_builtin (b := .append) (xs := #[.tmp 34, .tmp 36]) rfl ?_); at_builtin; refine Kd.R_append (Kd.int .i64) (w0 := wt) wt.heap.size rfl (.tmp 34) (.tmp 36) 23 3 (.int .i64 0) 8 rfl Tryz.underlying23 info3 rfl (by decide) (by omega) v9 s1 z2 [.int .i64 z2] (fun k => wt.heap.size ≤ k) (fun _ => False) rfl rfl ?aP (fun _ hk => hk.elim) ?aF ?aO ?aB ?aS ?aL ?_; (case aP => exact rfl); (case aB => exact HT.out); (case aF => exact fun k hk => Nat.le_trans (below_size HT.out) hk); (case aO => exact HV.out); (case aS => exact below_size HT.out); (case aL => have := CL.out; omega); intro v10 w3 ho hb hg hat; rw [← HY.out] at ho; obtain ⟨Ao, co, eo⟩ := Kd.R_slice ho; subst eo; replace HO := am (HBK1.out _ _ _ (Kd.R_mono (Kd.R_lower ho (below_size HX.out)) (fun k hk => Or.inr hk)) (Kept.of_below hb P1)); replace HK := am (Kept.then_ HK.out (Kept.of_below hb (fun _ => False)) (fun _ q => q.elim)); have HLT := am (show w.heap.size ≤ wt.heap.size by have h1_ := blk_lt BKp.out; have h2_ := GWp.out; omega); have LT := am (blk_lt BKp.out); have LTr := am (blk_lt BKr.out); clear ho hg hat HBK1; (try clear hlb0 flb0 hlb1 flb1 hlb2 flb2 hlb3 flb3 hlb4 flb4); replace BKp := bb BKp hb; replace BKi := bb BKi hb; replace BKr := bb BKr hb; replace HX := xb HX hb; clear hb; obtain ⟨h6p0, h6p1, h6p2, h6p3, h6p4⟩ := cl5 BKp; obtain ⟨f6p0, f6p1, f6p2, f6p3, f6p4⟩ := fz5 BKp; obtain ⟨h6r0, h6r1, h6r2, h6r3, h6r4⟩ := cl5 BKr; obtain ⟨f6r0, f6r1, f6r2, f6r3, f6r4⟩ := fz5 BKr) | ((with_reducible refine gate_store (t := 23) (p := 38) rfl ?_); refine store_event (t := 23) (p := 38) (v := ?vot2) (w1 := (w3.setCell ⟨gbp, 1, none⟩ (.slice Ao y.length co))) ?hg ?ho ?hn ?hr ?_; (case ho => rfl); (case hg => rfl); (case hn => rfl); (case hr => first | (go_simp; done) | (go_simp; rfl)); intro w4 hw; replace BKp : Aside0 (w4.heap[gbp]? = some (.cells #[.slice Y0 z1.length e0, .slice Ao y.length co, .slice A2 s2.length c2, .int .i64 h, .int .i64 b] 31 (0, 0))) := ⟨by rw [hw]; exact blk_put (cs := #[.slice Y0 z1.length e0, .slice A1 s1.length c1, .slice A2 s2.length c2, .int .i64 h, .int .i64 b]) BKp.out 1 _ rfl⟩; replace BKi := kS1 hw BKi (Ne.symm NEp_i.out); replace BKr := kS1 hw BKr (Ne.symm NEp_r.out); replace HX := bS1 hw HX GEp.out; replace HK : Aside0 (Kept w w4 U) := ⟨by rw [hw]; exact Kept.setCell HK.out (Or.inr GWp.out) _⟩; replace HO := pS1 hw HO (fun k hk e_ => by have h2_ := LSp.out; have h3_ : k = gbp := e_; have h4_ := GWp.out; have h5_ := LT.out; rcases hk with (hk | hk) | hk; (have := hk.2; omega); omega; omega); clear hw; (try clear h6p0 h6p1 h6p2 h6p3 h6p4 f6p0 f6p1 f6p2 f6p3 f6p4 h6r0 h6r1 h6r2 h6r3 h6r4 f6r0 f6r1 f6r2 f6r3 f6r4); obtain ⟨h7p0, h7p1, h7p2, h7p3, h7p4⟩ := cl5 BKp; obtain ⟨h7r0, h7r1, h7r2, h7r3, h7r4⟩ := cl5 BKr; obtain ⟨f7r0, f7r1, f7r2, f7r3, f7r4⟩ := fz5 BKr) | ((with_reducible refine gate_store (t := 31) (p := 10) rfl ?_); refine store_event (t := 31) (p := 10) (v := ?vorw4) (w1 := (st5 w4 gbr (.slice Y0 z1.length e0) (.slice Ao y.length co) (.slice A2 s2.length c2) (.int .i64 h) (.int .i64 b))) ?hg ?ho ?hn ?hr ?_; (case ho => rfl); (case hg => rfl); (case hn => rfl); (case hr => first | (go_simp; done) | (go_simp; rfl)); intro wf hw; replace BKp := kS5 hw BKp NEp_r.out; replace BKi := kS5 hw BKi NEi_r.out; replace BKr := sS5 hw BKr; replace HX := bS5 hw HX GEr.out; have HF := pS5 hw HO (fun k hk e_ => by have h1_ := LSr.out; have h2_ := GWr.out; have h5_ := LTr.out; rcases hk with (hk | hk) | hk; (have := hk.2; omega); omega; omega); replace HK : Aside0 (Kept w wf U) := ⟨by rw [hw]; exact Kept.then_ HK.out (set5_kept _ _ _ _ _ _ _) (fun k q => Or.inr (q ▸ GWr.out))⟩; clear hw; (try clear h7p0 h7p1 h7p2 h7p3 h7p4 h7r0 h7r1 h7r2 h7r3 h7r4 f7r0 f7r1 f7r2 f7r3 f7r4)))
  first | (refine bodyPost_ret (results_cell_row rfl _ _ gbr 31 #[.slice Y0 z1.length e0, .slice A1 s1.length c1, .slice A2 s2.length c2, .int .i64 h, .int .i64 b] (0, 0) _ rfl BKr.out Tryz.underlying31 rfl (by kernel_rfl)) rfl ?_; exact ⟨_, _, rfl, HF.out.mono (fun k q => q.elim (fun q => Or.inl q.1) (fun q => Or.inr (Nat.le_trans LX.out q))), HX.out, HK.out⟩) | (refine bodyPost_ret (results_cell_row rfl _ _ gbr 31 #[.slice Y0 z1.length e0, .slice Ao y.length co, .slice A2 s2.length c2, .int .i64 h, .int .i64 b] (0, 0) _ rfl BKr.out Tryz.underlying31 rfl (by kernel_rfl)) rfl ?_; exact ⟨_, _, rfl, HF.out.mono (fun k q => q.elim (fun q => q.elim (fun q => Or.inl q.1) (fun q => Or.inr (Nat.le_trans LX.out q))) (fun q => Or.inr (by have h1_ := LX.out; have h2_ := HLT.out; omega))), HX.out, HK.out⟩)
mutual
def spec_l6Plain.j0 : Nat → Bool → Bool → Int → Int → ByteArray → List (S56) → ByteArray → Int → List Int → Option (Bool)
 | 0, _, _, _, _, _, _, _, _, _ => none
 | k + 1, x3, x44, x117000, x117001, x117002, x117003, x117004, x117005, x117006 => if x44 = true then (some false) else (spec_l6Plain.l0 k x3 0 x117000 x117001 x117002 x117003 x117004 x117005 x117006)
def spec_l6Plain.l0 : Nat → Bool → Int → Int → Int → ByteArray → List (S56) → ByteArray → Int → List Int → Option (Bool)
 | 0, _, _, _, _, _, _, _, _, _ => none
 | k + 1, x3, x4, x117000, x117001, x117002, x117003, x117004, x117005, x117006 => if x4 < (x117003.length : Int) then (if 0 ≤ x4 then (if x4 ≤ (x117003.length : Int) then ((spec_l4Has.f k (x117003.take (x4 : Int).toNat) ((rd_T56 x117003 x4).f0)).bind fun t123 => (if t123 = true then (some false) else (spec_l6Plain.l0 k x3 (wrap64 (x4 + 1)) x117000 x117001 x117002 x117003 x117004 x117005 x117006))) else (none)) else (none)) else (if x117000 = 1 then (some (x117004.toList == ([] : List UInt8))) else (if x117000 = 3 then (some ((x117006.length : Int) == 0)) else (if x117000 = 4 then (some ((x117006.length : Int) == 0)) else (if x117000 = 5 then (some ((x117006.length : Int) == 0)) else (some x3)))))
end
def spec_l6Plain.f (k : Nat) (a0_0 : Int) (a0_1 : Int) (a0_2 : ByteArray) (l0_3 : List (S56)) (a0_4 : ByteArray) (a0_5 : Int) (l0_6 : List Int) : Option (Bool) := if a0_0 = 2 then (if a0_2.toList = ([] : List UInt8) then (spec_l6Plain.j0 k (a0_0 == 2) true a0_0 a0_1 a0_2 l0_3 a0_4 a0_5 l0_6) else (if a0_4.toList = ([] : List UInt8) then ((spec_l1In.f a0_1 0 2).bind fun t117 => (spec_l6Plain.j0 k (a0_0 == 2) (!t117) a0_0 a0_1 a0_2 l0_3 a0_4 a0_5 l0_6)) else (spec_l6Plain.j0 k (a0_0 == 2) true a0_0 a0_1 a0_2 l0_3 a0_4 a0_5 l0_6))) else (if a0_2.toList = ([] : List UInt8) then (if (l0_3.length : Int) > 0 then (spec_l6Plain.j0 k (a0_0 == 2) true a0_0 a0_1 a0_2 l0_3 a0_4 a0_5 l0_6) else (if a0_1 = 0 then (spec_l6Plain.j0 k (a0_0 == 2) false a0_0 a0_1 a0_2 l0_3 a0_4 a0_5 l0_6) else (spec_l6Plain.j0 k (a0_0 == 2) true a0_0 a0_1 a0_2 l0_3 a0_4 a0_5 l0_6))) else (spec_l6Plain.j0 k (a0_0 == 2) true a0_0 a0_1 a0_2 l0_3 a0_4 a0_5 l0_6))
theorem spec_l6Plain.calls (k : Nat) (a0_0 : Int) (a0_1 : Int) (a0_2 : ByteArray) (A0_3 : Option Addr) (c0_3 : Nat) (l0_3 : List (S56)) (a0_4 : ByteArray) (a0_5 : Int) (A0_6 : Option Addr) (c0_6 : Nat) (l0_6 : List Int) (r : Bool) (w : World) (hr0_3 : Kd.C k56 w A0_3 l0_3.length l0_3) (hc0_3 : l0_3.length ≤ c0_3) (hr0_6 : Kd.C (Kd.int .i64) w A0_6 l0_6.length l0_6) (hc0_6 : l0_6.length ≤ c0_6) (h : spec_l6Plain.f k a0_0 a0_1 a0_2 l0_3 a0_4 a0_5 l0_6 = some r) :
  Calls Tryz.prog 78 #[.agg #[.int .i64 a0_0, .int .i64 a0_1, .string a0_2, .slice A0_3 l0_3.length c0_3, .string a0_4, .int .i64 a0_5, .slice A0_6 l0_6.length c0_6]] w fun e w' => e = .returned (.bool r) ∧ Below w.heap.size w w' := by
 have hu53 := Tryz.underlying53
 have HR0_3 := am hr0_3
 have HC0_3 := am hc0_3
 clear hr0_3 hc0_3
 have HR0_6 := am hr0_6
 have HC0_6 := am hc0_6
 clear hr0_6 hc0_6
 have HB := am (Below.refl w.heap.size w)
 have H : (if a0_0 = 2 then (if a0_2.toList = ([] : List UInt8) then (spec_l6Plain.j0 k (a0_0 == 2) true a0_0 a0_1 a0_2 l0_3 a0_4 a0_5 l0_6) else (if a0_4.toList = ([] : List UInt8) then ((spec_l1In.f a0_1 0 2).bind fun t117 => (spec_l6Plain.j0 k (a0_0 == 2) (!t117) a0_0 a0_1 a0_2 l0_3 a0_4 a0_5 l0_6)) else (spec_l6Plain.j0 k (a0_0 == 2) true a0_0 a0_1 a0_2 l0_3 a0_4 a0_5 l0_6))) else (if a0_2.toList = ([] : List UInt8) then (if (l0_3.length : Int) > 0 then (spec_l6Plain.j0 k (a0_0 == 2) true a0_0 a0_1 a0_2 l0_3 a0_4 a0_5 l0_6) else (if a0_1 = 0 then (spec_l6Plain.j0 k (a0_0 == 2) false a0_0 a0_1 a0_2 l0_3 a0_4 a0_5 l0_6) else (spec_l6Plain.j0 k (a0_0 == 2) true a0_0 a0_1 a0_2 l0_3 a0_4 a0_5 l0_6))) else (spec_l6Plain.j0 k (a0_0 == 2) true a0_0 a0_1 a0_2 l0_3 a0_4 a0_5 l0_6))) = some r := h
 clear h
 have HC2 := am H
 clear H
 go_enter Tryz.func78, Tryz.ntmps78
 go_upto_region 2 with (first | ((with_reducible refine gd_ 1 ?_); (try (refine gate_guard (by rfl) ?_; dsimp only)); refine bx_ 1 (cs := #[.int .i64 a0_0, .int .i64 a0_1, .string a0_2, .slice A0_3 l0_3.length c0_3, .string a0_4, .int .i64 a0_5, .slice A0_6 l0_6.length c0_6]) 53 ?_; intro gb116 hg w3 hbox hb; have BK116 := am hbox; have GW116 := ge_ (w := w) hg; have GE116 := ge_ (w := w) hg; replace HB := am (below_step ab1 hb); clear hb hbox hg; obtain ⟨⟨_, _, _, _, _, _, _⟩, _, _, _, _, _, _, _⟩ := Op.cells7 BK116.out))
 repeat (go_quiet (first | ((with_reducible refine gd_ 1 ?_); (try (refine gate_guard (by rfl) ?_; dsimp only)); refine bx_ 1 (cs := #[.int .i64 a0_0, .int .i64 a0_1, .string a0_2, .slice A0_3 l0_3.length c0_3, .string a0_4, .int .i64 a0_5, .slice A0_6 l0_6.length c0_6]) 53 ?_; intro gb116 hg w3 hbox hb; have BK116 := am hbox; have GW116 := ge_ (w := w) hg; have GE116 := ge_ (w := w) hg; replace HB := am (below_step ab1 hb); clear hb hbox hg; obtain ⟨⟨_, _, _, _, _, _, _⟩, _, _, _, _, _, _, _⟩ := Op.cells7 BK116.out)); go_upto_region 2 with (first | ((with_reducible refine gd_ 1 ?_); (try (refine gate_guard (by rfl) ?_; dsimp only)); refine bx_ 1 (cs := #[.int .i64 a0_0, .int .i64 a0_1, .string a0_2, .slice A0_3 l0_3.length c0_3, .string a0_4, .int .i64 a0_5, .slice A0_6 l0_6.length c0_6]) 53 ?_; intro gb116 hg w3 hbox hb; have BK116 := am hbox; have GW116 := ge_ (w := w) hg; have GE116 := ge_ (w := w) hg; replace HB := am (below_step ab1 hb); clear hb hbox hg; obtain ⟨⟨_, _, _, _, _, _, _⟩, _, _, _, _, _, _, _⟩ := Op.cells7 BK116.out)))
 (try simp only [Act.put, List.setIfInBounds_toArray, List.set_cons_zero, List.set_cons_succ])
 go_cut [44] (fun v44 wc => ∃ (kq : Nat) (x44_1 : Bool), v44 = .bool x44_1 ∧ Aside0 (spec_l6Plain.j0 kq (a0_0 == 2) x44_1 a0_0 a0_1 a0_2 l0_3 a0_4 a0_5 l0_6 = some r) ∧ Aside0 (kq ≤ k) ∧ Aside0 (wc.heap[gb116]? = some (.cells #[.int .i64 a0_0, .int .i64 a0_1, .string a0_2, (.slice A0_3 l0_3.length c0_3), .string a0_4, .int .i64 a0_5, (.slice A0_6 l0_6.length c0_6)] 53 (0, 0))) ∧ Aside0 (Below w.heap.size w wc))
 case first =>
  have H := HC2.out
  clear HC2
  replace H := ie_ H; rcases H with ⟨c5b0, c5b1, H⟩ | ⟨c5, c5b0, c5b1, H⟩
  ·(first | rw [c5b0] | (simp only [i64_w, i32_w]; rw [c5b0]) | skip)
   (try (generalize hgzc5 : (a0_0 == 2) = bqc5 at *; subst c5b0; have c5b0 := hgzc5; clear hgzc5))
   replace H := ie_ H; rcases H with ⟨c6b0, c6b1, H⟩ | ⟨c6, c6b0, c6b1, H⟩
   ·have H' := am H
    clear H
    obtain ⟨⟨_, _, _, _, _, _, _⟩, _, _, _, _, _, _, _⟩ := Op.cells7 BK116.out
    go_wp2
    repeat (go_quiet (fail); try go_wp2)
    go_meet
    case rel => exact ⟨_, (true), ab6, (by first | exact H' | (have h_ := H'.out; rw [c5b0] at h_; exact ⟨h_⟩)), ⟨by first | omega | exact Nat.le_refl _⟩, ⟨ab3 BK116⟩, ⟨ab2 GE116⟩⟩
   ·replace H := ie_ H; rcases H with ⟨c8b0, c8b1, H⟩ | ⟨c8, c8b0, c8b1, H⟩
    ·replace H := bi_ H; obtain ⟨t117, A9, H⟩ := H
     replace H : (spec_l6Plain.j0 k (a0_0 == 2) (!t117) a0_0 a0_1 a0_2 l0_3 a0_4 a0_5 l0_6) = some r := by first | exact H | (rw [c5b0]; exact H)
     have H' := am H
     clear H
     obtain ⟨⟨_, _, _, _, _, _, _⟩, _, _, _, _, _, _, _⟩ := Op.cells7 BK116.out
     go_wp2_with (first | (go_at_call 77; (with_reducible refine (spec_l1In.calls a0_1 0 2 t117 _ A9.out).mono ?_); rintro e w' ⟨rfl, ⟨nd, rfl⟩⟩; (try first | exact ⟨rfl, _, World.drewN_drewN _ _ _⟩ | exact ⟨rfl, _, Eq.trans (World.drewN_drewN _ _ _) (congrArg (World.drewN _) (Nat.add_assoc _ _ _))⟩)))
     repeat (go_quiet (first | (go_at_call 77; (with_reducible refine (spec_l1In.calls a0_1 0 2 t117 _ A9.out).mono ?_); rintro e w' ⟨rfl, ⟨nd, rfl⟩⟩; (try first | exact ⟨rfl, _, World.drewN_drewN _ _ _⟩ | exact ⟨rfl, _, Eq.trans (World.drewN_drewN _ _ _) (congrArg (World.drewN _) (Nat.add_assoc _ _ _))⟩))); try go_wp2_with (first | (go_at_call 77; (with_reducible refine (spec_l1In.calls a0_1 0 2 t117 _ A9.out).mono ?_); rintro e w' ⟨rfl, ⟨nd, rfl⟩⟩; (try first | exact ⟨rfl, _, World.drewN_drewN _ _ _⟩ | exact ⟨rfl, _, Eq.trans (World.drewN_drewN _ _ _) (congrArg (World.drewN _) (Nat.add_assoc _ _ _))⟩))))
     go_meet
     case rel => exact ⟨_, (!t117), ab6, (by first | exact H' | (have h_ := H'.out; rw [c5b0] at h_; exact ⟨h_⟩)), ⟨by first | omega | exact Nat.le_refl _⟩, ⟨ab3 BK116⟩, ⟨ab2 GE116⟩⟩
    ·have H' := am H
     clear H
     obtain ⟨⟨_, _, _, _, _, _, _⟩, _, _, _, _, _, _, _⟩ := Op.cells7 BK116.out
     go_wp2
     repeat (go_quiet (fail); try go_wp2)
     go_meet
     case rel => exact ⟨_, (true), ab6, (by first | exact H' | (have h_ := H'.out; rw [c5b0] at h_; exact ⟨h_⟩)), ⟨by first | omega | exact Nat.le_refl _⟩, ⟨ab3 BK116⟩, ⟨ab2 GE116⟩⟩
  ·(first | rw [c5b0] | (simp only [i64_w, i32_w]; rw [c5b0]) | skip)
   (try (generalize hgzc5 : (a0_0 == 2) = bqc5 at *; subst c5b0; have c5b0 := hgzc5; clear hgzc5))
   replace H := ie_ H; rcases H with ⟨c12b0, c12b1, H⟩ | ⟨c12, c12b0, c12b1, H⟩
   ·by_cases c13 : (l0_3.length : Int) > 0
    ·rw [if_pos c13] at H
     have c13b0 : decide (0 < (l0_3.length : Int)) = true := decide_eq_true c13
     have c13b1 : decide (0 < l0_3.length) = true := decide_eq_true (by omega)
     clear c13
     have H' := am H
     clear H
     obtain ⟨⟨_, _, _, _, _, _, _⟩, _, _, _, _, _, _, _⟩ := Op.cells7 BK116.out
     go_wp2
     repeat (go_quiet (fail); try go_wp2)
     go_meet
     case rel => exact ⟨_, (true), ab6, (by first | exact H' | (have h_ := H'.out; rw [c5b0] at h_; exact ⟨h_⟩)), ⟨by first | omega | exact Nat.le_refl _⟩, ⟨ab3 BK116⟩, ⟨ab2 GE116⟩⟩
    ·rw [if_neg c13] at H
     have c13b0 : decide (0 < (l0_3.length : Int)) = false := decide_eq_false c13
     have c13b1 : decide (0 < l0_3.length) = false := decide_eq_false (by omega)
     clear c13
     replace H := ie_ H; rcases H with ⟨c15b0, c15b1, H⟩ | ⟨c15, c15b0, c15b1, H⟩
     ·have H' := am H
      clear H
      obtain ⟨⟨_, _, _, _, _, _, _⟩, _, _, _, _, _, _, _⟩ := Op.cells7 BK116.out
      go_wp2
      repeat (go_quiet (fail); try go_wp2)
      go_meet
      case rel => exact ⟨_, (false), ab6, (by first | exact H' | (have h_ := H'.out; rw [c5b0] at h_; exact ⟨h_⟩)), ⟨by first | omega | exact Nat.le_refl _⟩, ⟨ab3 BK116⟩, ⟨ab2 GE116⟩⟩
     ·have H' := am H
      clear H
      obtain ⟨⟨_, _, _, _, _, _, _⟩, _, _, _, _, _, _, _⟩ := Op.cells7 BK116.out
      go_wp2
      repeat (go_quiet (fail); try go_wp2)
      go_meet
      case rel => exact ⟨_, (true), ab6, (by first | exact H' | (have h_ := H'.out; rw [c5b0] at h_; exact ⟨h_⟩)), ⟨by first | omega | exact Nat.le_refl _⟩, ⟨ab3 BK116⟩, ⟨ab2 GE116⟩⟩
   ·have H' := am H
    clear H
    obtain ⟨⟨_, _, _, _, _, _, _⟩, _, _, _, _, _, _, _⟩ := Op.cells7 BK116.out
    go_wp2
    repeat (go_quiet (fail); try go_wp2)
    go_meet
    case rel => exact ⟨_, (true), ab6, (by first | exact H' | (have h_ := H'.out; rw [c5b0] at h_; exact ⟨h_⟩)), ⟨by first | omega | exact Nat.le_refl _⟩, ⟨ab3 BK116⟩, ⟨ab2 GE116⟩⟩
 case rest =>
  clear HC2
  (try clear c1); (try clear p2); (try clear c5); (try clear c5b0); (try clear c5b1); (try clear c6); (try clear c6b0); (try clear c6b1); (try clear c7); (try clear c8); (try clear c8b0); (try clear c8b1); (try clear c12); (try clear c12b0); (try clear c12b1); (try clear c13); (try clear c13b0); (try clear c13b1); (try clear c15); (try clear c15b0); (try clear c15b1); (try clear hcz10_0); (try clear hcz10_1); (try clear hcz10_2); (try clear hcz10_3); (try clear hcz10_4); (try clear hcz10_5); (try clear hcz10_6); (try clear hcz11_0); (try clear hcz11_1); (try clear hcz11_2); (try clear hcz11_3); (try clear hcz11_4); (try clear hcz11_5); (try clear hcz11_6); (try clear hcz14_0); (try clear hcz14_1); (try clear hcz14_2); (try clear hcz14_3); (try clear hcz14_4); (try clear hcz14_5); (try clear hcz14_6); (try clear hcz16_0); (try clear hcz16_1); (try clear hcz16_2); (try clear hcz16_3); (try clear hcz16_4); (try clear hcz16_5); (try clear hcz16_6); (try clear hcz17_0); (try clear hcz17_1); (try clear hcz17_2); (try clear hcz17_3); (try clear hcz17_4); (try clear hcz17_5); (try clear hcz17_6); (try clear hcz18_0); (try clear hcz18_1); (try clear hcz18_2); (try clear hcz18_3); (try clear hcz18_4); (try clear hcz18_5); (try clear hcz18_6); (try clear hcz4_0); (try clear hcz4_1); (try clear hcz4_2); (try clear hcz4_3); (try clear hcz4_4); (try clear hcz4_5); (try clear hcz4_6); (try clear hcz7_0); (try clear hcz7_1); (try clear hcz7_2); (try clear hcz7_3); (try clear hcz7_4); (try clear hcz7_5); (try clear hcz7_6); (try clear hfz10_0); (try clear hfz10_1); (try clear hfz10_2); (try clear hfz10_3); (try clear hfz10_4); (try clear hfz10_5); (try clear hfz10_6); (try clear hfz11_0); (try clear hfz11_1); (try clear hfz11_2); (try clear hfz11_3); (try clear hfz11_4); (try clear hfz11_5); (try clear hfz11_6); (try clear hfz14_0); (try clear hfz14_1); (try clear hfz14_2); (try clear hfz14_3); (try clear hfz14_4); (try clear hfz14_5); (try clear hfz14_6); (try clear hfz16_0); (try clear hfz16_1); (try clear hfz16_2); (try clear hfz16_3); (try clear hfz16_4); (try clear hfz16_5); (try clear hfz16_6); (try clear hfz17_0); (try clear hfz17_1); (try clear hfz17_2); (try clear hfz17_3); (try clear hfz17_4); (try clear hfz17_5); (try clear hfz17_6); (try clear hfz18_0); (try clear hfz18_1); (try clear hfz18_2); (try clear hfz18_3); (try clear hfz18_4); (try clear hfz18_5); (try clear hfz18_6); (try clear hfz4_0); (try clear hfz4_1); (try clear hfz4_2); (try clear hfz4_3); (try clear hfz4_4); (try clear hfz4_5); (try clear hfz4_6); (try clear hfz7_0); (try clear hfz7_1); (try clear hfz7_2); (try clear hfz7_3); (try clear hfz7_4); (try clear hfz7_5); (try clear hfz7_6)
  obtain ⟨kq, x44_1, rfl, HA, HJ1, BK116, HB⟩ := hcut
  cases kq with
  | zero => exact absurd HA.out (by simp [spec_l6Plain.j0])
  | succ kj1 =>
   have H := HA.out
   clear HA
   simp only [spec_l6Plain.j0] at H
   replace H := ib_ H; rcases H with ⟨rfl, H⟩ | ⟨rfl, H⟩
   ·obtain rfl := Option.some.inj H
    go_wp2
    repeat (go_quiet (fail); try go_wp2)
    go_ret
    exact ⟨ab7, ab2 GE116⟩
   ·have H' := am H
    clear H
    go_wp2
    repeat (go_quiet (fail); try go_wp2)
    go_loopg [4] kj1 (fun kq v4 w' => ∃ (x4_2 : Int), v4 = .int .i64 x4_2 ∧ Aside0 (spec_l6Plain.l0 kq (a0_0 == 2) x4_2 a0_0 a0_1 a0_2 l0_3 a0_4 a0_5 l0_6 = some r) ∧ Aside0 (kq ≤ kj1) ∧ Aside0 (w'.heap[gb116]? = some (.cells #[.int .i64 a0_0, .int .i64 a0_1, .string a0_2, (.slice A0_3 l0_3.length c0_3), .string a0_4, .int .i64 a0_5, (.slice A0_6 l0_6.length c0_6)] 53 (0, 0))) ∧ Aside0 (Below w.heap.size w w'))
    case atStart => exact ⟨(0), ab6, H', ⟨Nat.le_refl _⟩, ⟨ab3 BK116⟩, ⟨ab2 GE116⟩⟩
    case round =>
     clear H'
     (try clear c1); (try clear p2); (try clear c5); (try clear c5b0); (try clear c5b1); (try clear c6); (try clear c6b0); (try clear c6b1); (try clear c7); (try clear c8); (try clear c8b0); (try clear c8b1); (try clear c12); (try clear c12b0); (try clear c12b1); (try clear c13); (try clear c13b0); (try clear c13b1); (try clear c15); (try clear c15b0); (try clear c15b1); (try clear c19); (try clear hcz10_0); (try clear hcz10_1); (try clear hcz10_2); (try clear hcz10_3); (try clear hcz10_4); (try clear hcz10_5); (try clear hcz10_6); (try clear hcz11_0); (try clear hcz11_1); (try clear hcz11_2); (try clear hcz11_3); (try clear hcz11_4); (try clear hcz11_5); (try clear hcz11_6); (try clear hcz14_0); (try clear hcz14_1); (try clear hcz14_2); (try clear hcz14_3); (try clear hcz14_4); (try clear hcz14_5); (try clear hcz14_6); (try clear hcz16_0); (try clear hcz16_1); (try clear hcz16_2); (try clear hcz16_3); (try clear hcz16_4); (try clear hcz16_5); (try clear hcz16_6); (try clear hcz17_0); (try clear hcz17_1); (try clear hcz17_2); (try clear hcz17_3); (try clear hcz17_4); (try clear hcz17_5); (try clear hcz17_6); (try clear hcz18_0); (try clear hcz18_1); (try clear hcz18_2); (try clear hcz18_3); (try clear hcz18_4); (try clear hcz18_5); (try clear hcz18_6); (try clear hcz4_0); (try clear hcz4_1); (try clear hcz4_2); (try clear hcz4_3); (try clear hcz4_4); (try clear hcz4_5); (try clear hcz4_6); (try clear hcz7_0); (try clear hcz7_1); (try clear hcz7_2); (try clear hcz7_3); (try clear hcz7_4); (try clear hcz7_5); (try clear hcz7_6); (try clear hfz10_0); (try clear hfz10_1); (try clear hfz10_2); (try clear hfz10_3); (try clear hfz10_4); (try clear hfz10_5); (try clear hfz10_6); (try clear hfz11_0); (try clear hfz11_1); (try clear hfz11_2); (try clear hfz11_3); (try clear hfz11_4); (try clear hfz11_5); (try clear hfz11_6); (try clear hfz14_0); (try clear hfz14_1); (try clear hfz14_2); (try clear hfz14_3); (try clear hfz14_4); (try clear hfz14_5); (try clear hfz14_6); (try clear hfz16_0); (try clear hfz16_1); (try clear hfz16_2); (try clear hfz16_3); (try clear hfz16_4); (try clear hfz16_5); (try clear hfz16_6); (try clear hfz17_0); (try clear hfz17_1); (try clear hfz17_2); (try clear hfz17_3); (try clear hfz17_4); (try clear hfz17_5); (try clear hfz17_6); (try clear hfz18_0); (try clear hfz18_1); (try clear hfz18_2); (try clear hfz18_3); (try clear hfz18_4); (try clear hfz18_5); (try clear hfz18_6); (try clear hfz4_0); (try clear hfz4_1); (try clear hfz4_2); (try clear hfz4_3); (try clear hfz4_4); (try clear hfz4_5); (try clear hfz4_6); (try clear hfz7_0); (try clear hfz7_1); (try clear hfz7_2); (try clear hfz7_3); (try clear hfz7_4); (try clear hfz7_5); (try clear hfz7_6); (try clear p2)
     obtain ⟨x4_2, rfl, HA, HK2, BK116, HB⟩ := hrel
     cases gk with
     | zero => exact absurd HA.out (by simp [spec_l6Plain.l0])
     | succ k2 =>
      have H := HA.out
      clear HA
      simp only [spec_l6Plain.l0] at H
      replace H := ir_ H; rcases H with ⟨c20b0, H⟩ | ⟨c20b0, H⟩
      ·by_cases c21 : 0 ≤ x4_2
       case neg => rw [if_neg c21] at H; exact absurd H (by simp)
       rw [if_pos c21] at H
       have c21b0 := eq_true c21
       have c21b1 := decide_eq_true c21
       clear c21
       by_cases c22 : x4_2 ≤ (l0_3.length : Int)
       case neg => rw [if_neg c22] at H; exact absurd H (by simp)
       rw [if_pos c22] at H
       have c22b0 := eq_true c22
       have c22b1 := decide_eq_true c22
       clear c22
       obtain ⟨y118, hy118⟩ : ∃ y_ : List (S56), y_ = (l0_3.take (x4_2 : Int).toNat) := ⟨_, rfl⟩
       replace H : ((spec_l4Has.f k2 y118 ((rd_T56 l0_3 x4_2).f0)).bind fun t123 => (if t123 = true then (some false) else (spec_l6Plain.l0 k2 (a0_0 == 2) (wrap64 (x4_2 + 1)) a0_0 a0_1 a0_2 l0_3 a0_4 a0_5 l0_6))) = some r := by first | (rw [hy118]; with_reducible exact H) | (have H2_ := (Option.bind_some _ _).symm.trans H; rw [hy118]; with_reducible exact H2_) | (have H2_ := (Option.bind_some _ _).symm.trans H; with_reducible exact H2_) | with_reducible exact H | (rw [hy118]; exact H) | exact H
       have Ny118 := am hy118
       clear hy118
       replace H := bi_ H; obtain ⟨t123, A23, H⟩ := H
       replace H := ib_ H; rcases H with ⟨rfl, H⟩ | ⟨rfl, H⟩
       ·obtain rfl := Option.some.inj H
        obtain ⟨⟨_, _, _, _, _, _, _⟩, _, _, _, _, _, _, _⟩ := Op.cells7 BK116.out
        have q26 : (x4_2 : Int) ≤ ((l0_3.length : Int) : Int) := of_decide_eq_true ab4
        obtain ⟨i026, hi026, _, hsz26, _⟩ := info_parts info56
        have hroom26 : l0_3.length ≤ c0_3 := HC0_3.out
        have hC26 : Kd.C k56 _ A0_3 l0_3.length l0_3 := HR0_3.out
        have hcut26 := cut_to (P := Tryz.prog) 34 56 .i64 Tryz.underlying34 hi026 A0_3 l0_3.length c0_3 x4_2 (of_decide_eq_true ab4) q26 hroom26
        have hr26 := Kd.C_take (m := (x4_2 : Int).toNat) hC26 (by omega)
        have hy26 : y118.length = (x4_2 : Int).toNat := (by rw [Ny118.out, List.length_take]; omega)
        rw [← Ny118.out] at hr26
        rw [← hy26] at hcut26
        have HR121 := am hr26
        have HC121 := am (show y118.length ≤ c0_3 from by omega)
        clear hr26 hC26 hroom26 hi026 hsz26
        have KY26 := am hy26
        clear hy26
        replace q26 := eq_true q26
        obtain ⟨p122, q122, ad122, rfl, hx122_0, hx122_1, -⟩ := otT56 HB HR0_3.out x4_2 (of_decide_eq_true ab4) (of_decide_eq_true ab4)
        go_wp2_with (first | (go_at_call 103; (with_reducible refine (spec_l4Has.calls k2 _ _ y118 ((rd_T56 l0_3 x4_2).f0) true _ (sc_ HR121) HC121.out A23.out).mono ?_); rintro e w' ⟨rfl, ⟨nd, rfl⟩⟩; (try first | exact ⟨rfl, _, World.drewN_drewN _ _ _⟩ | exact ⟨rfl, _, Eq.trans (World.drewN_drewN _ _ _) (congrArg (World.drewN _) (Nat.add_assoc _ _ _))⟩)))
        repeat (go_quiet (first | (go_at_call 103; (with_reducible refine (spec_l4Has.calls k2 _ _ y118 ((rd_T56 l0_3 x4_2).f0) true _ (sc_ HR121) HC121.out A23.out).mono ?_); rintro e w' ⟨rfl, ⟨nd, rfl⟩⟩; (try first | exact ⟨rfl, _, World.drewN_drewN _ _ _⟩ | exact ⟨rfl, _, Eq.trans (World.drewN_drewN _ _ _) (congrArg (World.drewN _) (Nat.add_assoc _ _ _))⟩))); try go_wp2_with (first | (go_at_call 103; (with_reducible refine (spec_l4Has.calls k2 _ _ y118 ((rd_T56 l0_3 x4_2).f0) true _ (sc_ HR121) HC121.out A23.out).mono ?_); rintro e w' ⟨rfl, ⟨nd, rfl⟩⟩; (try first | exact ⟨rfl, _, World.drewN_drewN _ _ _⟩ | exact ⟨rfl, _, Eq.trans (World.drewN_drewN _ _ _) (congrArg (World.drewN _) (Nat.add_assoc _ _ _))⟩))))
        go_ret
        exact ⟨ab7, ab2 GE116⟩
       ·have H' := am H
        clear H
        obtain ⟨⟨_, _, _, _, _, _, _⟩, _, _, _, _, _, _, _⟩ := Op.cells7 BK116.out
        have q28 : (x4_2 : Int) ≤ ((l0_3.length : Int) : Int) := of_decide_eq_true ab4
        obtain ⟨i028, hi028, _, hsz28, _⟩ := info_parts info56
        have hroom28 : l0_3.length ≤ c0_3 := HC0_3.out
        have hC28 : Kd.C k56 _ A0_3 l0_3.length l0_3 := HR0_3.out
        have hcut28 := cut_to (P := Tryz.prog) 34 56 .i64 Tryz.underlying34 hi028 A0_3 l0_3.length c0_3 x4_2 (of_decide_eq_true ab4) q28 hroom28
        have hr28 := Kd.C_take (m := (x4_2 : Int).toNat) hC28 (by omega)
        have hy28 : y118.length = (x4_2 : Int).toNat := (by rw [Ny118.out, List.length_take]; omega)
        rw [← Ny118.out] at hr28
        rw [← hy28] at hcut28
        have HR121 := am hr28
        have HC121 := am (show y118.length ≤ c0_3 from by omega)
        clear hr28 hC28 hroom28 hi028 hsz28
        have KY28 := am hy28
        clear hy28
        replace q28 := eq_true q28
        obtain ⟨p122, q122, ad122, rfl, hx122_0, hx122_1, -⟩ := otT56 HB HR0_3.out x4_2 (of_decide_eq_true ab4) (of_decide_eq_true ab4)
        go_wp2_with (first | (go_at_call 103; (with_reducible refine (spec_l4Has.calls k2 _ _ y118 ((rd_T56 l0_3 x4_2).f0) false _ (sc_ HR121) HC121.out A23.out).mono ?_); rintro e w' ⟨rfl, ⟨nd, rfl⟩⟩; (try first | exact ⟨rfl, _, World.drewN_drewN _ _ _⟩ | exact ⟨rfl, _, Eq.trans (World.drewN_drewN _ _ _) (congrArg (World.drewN _) (Nat.add_assoc _ _ _))⟩)))
        repeat (go_quiet (first | (go_at_call 103; (with_reducible refine (spec_l4Has.calls k2 _ _ y118 ((rd_T56 l0_3 x4_2).f0) false _ (sc_ HR121) HC121.out A23.out).mono ?_); rintro e w' ⟨rfl, ⟨nd, rfl⟩⟩; (try first | exact ⟨rfl, _, World.drewN_drewN _ _ _⟩ | exact ⟨rfl, _, Eq.trans (World.drewN_drewN _ _ _) (congrArg (World.drewN _) (Nat.add_assoc _ _ _))⟩))); try go_wp2_with (first | (go_at_call 103; (with_reducible refine (spec_l4Has.calls k2 _ _ y118 ((rd_T56 l0_3 x4_2).f0) false _ (sc_ HR121) HC121.out A23.out).mono ?_); rintro e w' ⟨rfl, ⟨nd, rfl⟩⟩; (try first | exact ⟨rfl, _, World.drewN_drewN _ _ _⟩ | exact ⟨rfl, _, Eq.trans (World.drewN_drewN _ _ _) (congrArg (World.drewN _) (Nat.add_assoc _ _ _))⟩))))
        go_roundg k2
        case measure => have := HJ1.out; have := HK2.out; omega
        case rel => exact ⟨(wrap64 (x4_2 + 1)), ab6, H', ⟨by have := HJ1.out; have := HK2.out; omega⟩, ⟨ab3 BK116⟩, ⟨ab2 GE116⟩⟩
      ·replace H := ie_ H; rcases H with ⟨c29b0, c29b1, H⟩ | ⟨c29, c29b0, c29b1, H⟩
       ·obtain rfl := Option.some.inj H
        obtain ⟨⟨_, _, _, _, _, _, _⟩, _, _, _, _, _, _, _⟩ := Op.cells7 BK116.out
        go_wp2
        repeat (go_quiet (fail); try go_wp2)
        go_ret
        exact ⟨ab7, ab2 GE116⟩
       ·replace H := ie_ H; rcases H with ⟨c31b0, c31b1, H⟩ | ⟨c31, c31b0, c31b1, H⟩
        ·obtain rfl := Option.some.inj H
         obtain ⟨⟨_, _, _, _, _, _, _⟩, _, _, _, _, _, _, _⟩ := Op.cells7 BK116.out
         go_wp2
         repeat (go_quiet (fail); try go_wp2)
         go_ret
         exact ⟨ab7, ab2 GE116⟩
        ·replace H := ie_ H; rcases H with ⟨c33b0, c33b1, H⟩ | ⟨c33, c33b0, c33b1, H⟩
         ·obtain rfl := Option.some.inj H
          obtain ⟨⟨_, _, _, _, _, _, _⟩, _, _, _, _, _, _, _⟩ := Op.cells7 BK116.out
          go_wp2
          repeat (go_quiet (fail); try go_wp2)
          go_ret
          exact ⟨ab7, ab2 GE116⟩
         ·replace H := ie_ H; rcases H with ⟨c35b0, c35b1, H⟩ | ⟨c35, c35b0, c35b1, H⟩
          ·obtain rfl := Option.some.inj H
           obtain ⟨⟨_, _, _, _, _, _, _⟩, _, _, _, _, _, _, _⟩ := Op.cells7 BK116.out
           go_wp2
           repeat (go_quiet (fail); try go_wp2)
           go_ret
           exact ⟨ab7, ab2 GE116⟩
          ·obtain rfl := Option.some.inj H
           obtain ⟨⟨_, _, _, _, _, _, _⟩, _, _, _, _, _, _, _⟩ := Op.cells7 BK116.out
           go_wp2
           repeat (go_quiet (fail); try go_wp2)
           go_ret
           exact ⟨ab7, ab2 GE116⟩
theorem z3_0 {p : Prop} (h : p := by repeat (first | (with_reducible first | exact HK.out | apply Kept.alloc | apply Kept.drewN | apply Kept.drew) | exact HK.out)) : p := h
mutual
def spec_l6Links.l0 : Nat → List (S53) → Int → Option (Bool)
 | 0, _, _ => none
 | k + 1, x0, x3 => if x3 < (x0.length : Int) then (if 0 ≤ x3 then (if x3 = 0 then (if ((rd_T53 x0 x3).f5) = (-1) then (if x3 > 0 then ((spec_l1In.f ((rd_T53 x0 x3).f5) 0 (wrap64 ((x0.length : Int) - 1))).bind fun t125 => (if t125 = true then (if 0 ≤ ((rd_T53 x0 x3).f5) then (if ((rd_T53 x0 x3).f5) < (x0.length : Int) then ((spec_l6Count.f k ((rd_T53 x0 ((rd_T53 x0 x3).f5)).f6) x3).bind fun t127 => (spec_l6Links.j1 k x0 x3 (t127 != 1))) else (none)) else (none)) else (spec_l6Links.j1 k x0 x3 true))) else (spec_l6Links.j1 k x0 x3 false)) else (spec_l6Links.j1 k x0 x3 true)) else (if x3 > 0 then ((spec_l1In.f ((rd_T53 x0 x3).f5) 0 (wrap64 ((x0.length : Int) - 1))).bind fun t128 => (if t128 = true then (if 0 ≤ ((rd_T53 x0 x3).f5) then (if ((rd_T53 x0 x3).f5) < (x0.length : Int) then ((spec_l6Count.f k ((rd_T53 x0 ((rd_T53 x0 x3).f5)).f6) x3).bind fun t130 => (spec_l6Links.j1 k x0 x3 (t130 != 1))) else (none)) else (none)) else (spec_l6Links.j1 k x0 x3 true))) else (spec_l6Links.j1 k x0 x3 false))) else (none)) else (some true)
def spec_l6Links.j1 : Nat → List (S53) → Int → Bool → Option (Bool)
 | 0, _, _, _ => none
 | k + 1, x0, x3, x45 => if x45 = true then (some false) else (spec_l6Links.l1 k x0 x3 0)
def spec_l6Links.l1 : Nat → List (S53) → Int → Int → Option (Bool)
 | 0, _, _, _ => none
 | k + 1, x0, x3, x5 => if 0 ≤ x3 then (if x3 < (x0.length : Int) then (if x5 < (((rd_T53 x0 x3).f6).length : Int) then (if 0 ≤ x5 then ((spec_l1In.f (rd ((rd_T53 x0 x3).f6) x5) 1 (wrap64 ((x0.length : Int) - 1))).bind fun t134 => (if t134 = true then (if 0 ≤ (rd ((rd_T53 x0 x3).f6) x5) then (if (rd ((rd_T53 x0 x3).f6) x5) < (x0.length : Int) then (if ((rd_T53 x0 (rd ((rd_T53 x0 x3).f6) x5)).f5) = x3 then (spec_l6Links.l1 k x0 x3 (wrap64 (x5 + 1))) else (some false)) else (none)) else (none)) else (some false))) else (none)) else (spec_l6Links.l0 k x0 (wrap64 (x3 + 1)))) else (none)) else (none)
end
def spec_l6Links.f (k : Nat) (l0 : List (S53)) : Option (Bool) := spec_l6Links.l0 k l0 0
theorem spec_l6Links.calls (k : Nat) (A0 : Option Addr) (c0 : Nat) (l0 : List (S53)) (r : Bool) (w : World) (hr0 : Kd.C k53 w A0 l0.length l0) (hc0 : l0.length ≤ c0) (h : spec_l6Links.f k l0 = some r) :
  Calls Tryz.prog 79 #[.slice A0 l0.length c0] w fun e w' => e = .returned (.bool r) ∧ Drawn0 w w' := by
 have HR0 := am hr0
 have HC0 := am hc0
 clear hr0 hc0
 have H : (spec_l6Links.l0 k l0 0) = some r := h
 clear h
 have H' := am H
 clear H
 go_enter Tryz.func79, Tryz.ntmps79
 go_wp2
 go_loopg [3] k (fun kq v3 w' => ∃ (x3_1 : Int), v3 = .int .i64 x3_1 ∧ Aside0 (spec_l6Links.l0 kq l0 x3_1 = some r) ∧ Aside0 (kq ≤ k) ∧ Drawn0 w w')
 case atStart => exact ⟨(0), ab6, H', ⟨Nat.le_refl _⟩, by repeat (first | exact Drawn0.refl _ | apply Drawn0.step)⟩
 case round =>
  clear H'
  obtain ⟨x3_1, rfl, HA, HK1, ⟨m1, rfl⟩⟩ := hrel
  cases gk with
  | zero => exact absurd HA.out (by simp [spec_l6Links.l0])
  | succ k1 =>
   have H := HA.out
   clear HA
   simp only [spec_l6Links.l0] at H
   replace H := ir_ H; rcases H with ⟨c2b0, H⟩ | ⟨c2b0, H⟩
   ·replace H := iq_ H; obtain ⟨c3b0, H⟩ := H
    have HC4 := am H
    clear H
    obtain ⟨p124, q124, ad124, A124_3, c124_3, A124_6, c124_6, rfl, hx124_0, hx124_1, hx124_2, hx124_3, hx124_4, hx124_5, hx124_6, HC124_3, HR124_3, HC124_6, HR124_6⟩ := otT53 b0_ HR0.out x3_1 (of_decide_eq_true ab4) (of_decide_eq_true ab4)
    go_upto_region 5 with (fail)
    go_cut [45] (fun v45 wc => ∃ (kq : Nat) (x45_3 : Bool), v45 = .bool x45_3 ∧ Aside0 (spec_l6Links.j1 kq l0 x3_1 x45_3 = some r) ∧ Aside0 (kq ≤ k1) ∧ Drawn0 w wc)
    case first =>
     have H := HC4.out
     clear HC4
     replace H := ie_ H; rcases H with ⟨c5b0, c5b1, H⟩ | ⟨c5, c5b0, c5b1, H⟩
     ·(first | rw [c5b0] | (simp only [i64_w, i32_w]; rw [c5b0]) | skip)
      (try (generalize hgzc5 : (x3_1 == 0) = bqc5 at *; subst c5b0; have c5b0 := hgzc5; clear hgzc5))
      replace H := ie_ H; rcases H with ⟨c6b0, c6b1, H⟩ | ⟨c6, c6b0, c6b1, H⟩
      ·by_cases c7 : x3_1 > 0
       ·rw [if_pos c7] at H
        have c7b0 : decide (0 < x3_1) = true := decide_eq_true c7
        clear c7
        replace H := bi_ H; obtain ⟨t125, A8, H⟩ := H
        replace H : (if t125 = true then (if 0 ≤ ((rd_T53 l0 x3_1).f5) then (if ((rd_T53 l0 x3_1).f5) < (l0.length : Int) then ((spec_l6Count.f k1 ((rd_T53 l0 ((rd_T53 l0 x3_1).f5)).f6) x3_1).bind fun t127 => (spec_l6Links.j1 k1 l0 x3_1 (t127 != 1))) else (none)) else (none)) else (spec_l6Links.j1 k1 l0 x3_1 true)) = some r := by first | exact H | (rw [c5b0]; exact H)
        replace H := ib_ H; rcases H with ⟨rfl, H⟩ | ⟨rfl, H⟩
        ·replace H := iq_ H; obtain ⟨c10b0, H⟩ := H
         replace H := iq_ H; obtain ⟨c11b0, H⟩ := H
         replace H := bi_ H; obtain ⟨t127, A12, H⟩ := H
         replace H : (spec_l6Links.j1 k1 l0 x3_1 (t127 != 1)) = some r := by first | exact H | (rw [c5b0]; exact H)
         have H' := am H
         clear H
         go_wp2_with (first | (go_at_call 77; (with_reducible refine (spec_l1In.calls ((rd_T53 l0 x3_1).f5) 0 (wrap64 ((l0.length : Int) - 1)) true _ A8.out).mono ?_); rintro e w' ⟨rfl, ⟨nd, rfl⟩⟩; have p126 : 0 ≤ (((rd_T53 l0 x3_1).f5) : Int) := of_decide_eq_true ab4; have q126 : ((rd_T53 l0 x3_1).f5) < (l0.length : Int) := of_decide_eq_true ab4; obtain ⟨ad126, A126_3, c126_3, A126_6, c126_6, e126, hx126_0, hx126_1, hx126_2, hx126_3, hx126_4, hx126_5, hx126_6, hl126_3, hi126_3, hl126_6, hi126_6⟩ := at_T53 HR0.out ((rd_T53 l0 x3_1).f5) p126 q126; obtain rfl : ad124 = ad126 := (by injection e126); have HR126_3 := am hi126_3; have HC126_3 := am hl126_3; clear hi126_3 hl126_3; have HR126_6 := am hi126_6; have HC126_6 := am hl126_6; clear hi126_6 hl126_6; replace p126 := eq_true p126; replace q126 := eq_true q126) | (go_at_call 43; (with_reducible refine (spec_l6Count.calls k1 _ _ ((rd_T53 l0 ((rd_T53 l0 x3_1).f5)).f6) x3_1 t127 _ ?side1 ?side2 A12.out).mono ?_); (case side1 => repeat (first | exact HR126_6.out | (with_reducible refine Kd.C_alloc ?_ _) | (with_reducible refine Kd.C_drewN ?_ _) | (with_reducible refine Kd.C_drew ?_))); (case side2 => exact HC126_6.out); rintro e w' ⟨rfl, ⟨nd, rfl⟩⟩))
         go_meet
         case rel => exact ⟨_, ((t127 != 1)), ab6, (by first | exact H' | (have h_ := H'.out; rw [c5b0] at h_; exact ⟨h_⟩)), ⟨by have := HK1.out; first | omega | exact Nat.le_refl _⟩, by repeat (first | exact Drawn0.refl _ | apply Drawn0.step)⟩
        ·have H' := am H
         clear H
         go_wp2_with (first | (go_at_call 77; (with_reducible refine (spec_l1In.calls ((rd_T53 l0 x3_1).f5) 0 (wrap64 ((l0.length : Int) - 1)) false _ A8.out).mono ?_); rintro e w' ⟨rfl, ⟨nd, rfl⟩⟩))
         go_meet
         case rel => exact ⟨_, (true), ab6, (by first | exact H' | (have h_ := H'.out; rw [c5b0] at h_; exact ⟨h_⟩)), ⟨by have := HK1.out; first | omega | exact Nat.le_refl _⟩, by repeat (first | exact Drawn0.refl _ | apply Drawn0.step)⟩
       ·rw [if_neg c7] at H
        have c7b0 : decide (0 < x3_1) = false := decide_eq_false c7
        clear c7
        have H' := am H
        clear H
        go_wp2
        go_meet
        case rel => exact ⟨_, (false), ab6, (by first | exact H' | (have h_ := H'.out; rw [c5b0] at h_; exact ⟨h_⟩)), ⟨by have := HK1.out; first | omega | exact Nat.le_refl _⟩, by repeat (first | exact Drawn0.refl _ | apply Drawn0.step)⟩
      ·have H' := am H
       clear H
       go_wp2
       go_meet
       case rel => exact ⟨_, (true), ab6, (by first | exact H' | (have h_ := H'.out; rw [c5b0] at h_; exact ⟨h_⟩)), ⟨by have := HK1.out; first | omega | exact Nat.le_refl _⟩, by repeat (first | exact Drawn0.refl _ | apply Drawn0.step)⟩
     ·(first | rw [c5b0] | (simp only [i64_w, i32_w]; rw [c5b0]) | skip)
      (try (generalize hgzc5 : (x3_1 == 0) = bqc5 at *; subst c5b0; have c5b0 := hgzc5; clear hgzc5))
      by_cases c13 : x3_1 > 0
      ·rw [if_pos c13] at H
       have c13b0 : decide (0 < x3_1) = true := decide_eq_true c13
       clear c13
       replace H := bi_ H; obtain ⟨t128, A14, H⟩ := H
       replace H : (if t128 = true then (if 0 ≤ ((rd_T53 l0 x3_1).f5) then (if ((rd_T53 l0 x3_1).f5) < (l0.length : Int) then ((spec_l6Count.f k1 ((rd_T53 l0 ((rd_T53 l0 x3_1).f5)).f6) x3_1).bind fun t130 => (spec_l6Links.j1 k1 l0 x3_1 (t130 != 1))) else (none)) else (none)) else (spec_l6Links.j1 k1 l0 x3_1 true)) = some r := by first | exact H | (rw [c5b0]; exact H)
       replace H := ib_ H; rcases H with ⟨rfl, H⟩ | ⟨rfl, H⟩
       ·replace H := iq_ H; obtain ⟨c16b0, H⟩ := H
        replace H := iq_ H; obtain ⟨c17b0, H⟩ := H
        replace H := bi_ H; obtain ⟨t130, A18, H⟩ := H
        replace H : (spec_l6Links.j1 k1 l0 x3_1 (t130 != 1)) = some r := by first | exact H | (rw [c5b0]; exact H)
        have H' := am H
        clear H
        go_wp2_with (first | (go_at_call 77; (with_reducible refine (spec_l1In.calls ((rd_T53 l0 x3_1).f5) 0 (wrap64 ((l0.length : Int) - 1)) true _ A14.out).mono ?_); rintro e w' ⟨rfl, ⟨nd, rfl⟩⟩; have p129 : 0 ≤ (((rd_T53 l0 x3_1).f5) : Int) := of_decide_eq_true ab4; have q129 : ((rd_T53 l0 x3_1).f5) < (l0.length : Int) := of_decide_eq_true ab4; obtain ⟨ad129, A129_3, c129_3, A129_6, c129_6, e129, hx129_0, hx129_1, hx129_2, hx129_3, hx129_4, hx129_5, hx129_6, hl129_3, hi129_3, hl129_6, hi129_6⟩ := at_T53 HR0.out ((rd_T53 l0 x3_1).f5) p129 q129; obtain rfl : ad124 = ad129 := (by injection e129); have HR129_3 := am hi129_3; have HC129_3 := am hl129_3; clear hi129_3 hl129_3; have HR129_6 := am hi129_6; have HC129_6 := am hl129_6; clear hi129_6 hl129_6; replace p129 := eq_true p129; replace q129 := eq_true q129) | (go_at_call 43; (with_reducible refine (spec_l6Count.calls k1 _ _ ((rd_T53 l0 ((rd_T53 l0 x3_1).f5)).f6) x3_1 t130 _ ?side1 ?side2 A18.out).mono ?_); (case side1 => repeat (first | exact HR129_6.out | (with_reducible refine Kd.C_alloc ?_ _) | (with_reducible refine Kd.C_drewN ?_ _) | (with_reducible refine Kd.C_drew ?_))); (case side2 => exact HC129_6.out); rintro e w' ⟨rfl, ⟨nd, rfl⟩⟩))
        go_meet
        case rel => exact ⟨_, ((t130 != 1)), ab6, (by first | exact H' | (have h_ := H'.out; rw [c5b0] at h_; exact ⟨h_⟩)), ⟨by have := HK1.out; first | omega | exact Nat.le_refl _⟩, by repeat (first | exact Drawn0.refl _ | apply Drawn0.step)⟩
       ·have H' := am H
        clear H
        go_wp2_with (first | (go_at_call 77; (with_reducible refine (spec_l1In.calls ((rd_T53 l0 x3_1).f5) 0 (wrap64 ((l0.length : Int) - 1)) false _ A14.out).mono ?_); rintro e w' ⟨rfl, ⟨nd, rfl⟩⟩))
        go_meet
        case rel => exact ⟨_, (true), ab6, (by first | exact H' | (have h_ := H'.out; rw [c5b0] at h_; exact ⟨h_⟩)), ⟨by have := HK1.out; first | omega | exact Nat.le_refl _⟩, by repeat (first | exact Drawn0.refl _ | apply Drawn0.step)⟩
      ·rw [if_neg c13] at H
       have c13b0 : decide (0 < x3_1) = false := decide_eq_false c13
       clear c13
       have H' := am H
       clear H
       go_wp2
       go_meet
       case rel => exact ⟨_, (false), ab6, (by first | exact H' | (have h_ := H'.out; rw [c5b0] at h_; exact ⟨h_⟩)), ⟨by have := HK1.out; first | omega | exact Nat.le_refl _⟩, by repeat (first | exact Drawn0.refl _ | apply Drawn0.step)⟩
    case rest =>
     clear HC4
     (try clear c1); (try clear p1); (try clear q1); (try clear hx1); (try clear c2); (try clear c2b0); (try clear p2); (try clear c3); (try clear c3b0); (try clear c5); (try clear c5b0); (try clear c5b1); (try clear c6); (try clear c6b0); (try clear c6b1); (try clear p6); (try clear c7); (try clear c7b0); (try clear c9); (try clear c10); (try clear c10b0); (try clear c11); (try clear c11b0); (try clear c12); (try clear p12); (try clear q12); (try clear hx12); (try clear c13); (try clear c13b0); (try clear c15); (try clear c16); (try clear c16b0); (try clear c17); (try clear c17b0); (try clear hx124_0); (try clear hx124_1); (try clear hx124_2); (try clear hx124_3); (try clear hx124_4); (try clear hx124_5); (try clear hx124_6); (try clear hx126_0); (try clear hx126_1); (try clear hx126_2); (try clear hx126_3); (try clear hx126_4); (try clear hx126_5); (try clear hx126_6); (try clear hx129_0); (try clear hx129_1); (try clear hx129_2); (try clear hx129_3); (try clear hx129_4); (try clear hx129_5); (try clear hx129_6); (try clear p124); (try clear p126); (try clear p129); (try clear q124); (try clear q126); (try clear q129)
     obtain ⟨kq, x45_3, rfl, HA, HJ3, ⟨mc3, rfl⟩⟩ := hcut
     cases kq with
     | zero => exact absurd HA.out (by simp [spec_l6Links.j1])
     | succ kj3 =>
      have H := HA.out
      clear HA
      simp only [spec_l6Links.j1] at H
      replace H := ib_ H; rcases H with ⟨rfl, H⟩ | ⟨rfl, H⟩
      ·obtain rfl := Option.some.inj H
       go_wp2
       go_ret
       exact ⟨ab6, by repeat (first | exact Drawn0.refl _ | apply Drawn0.step)⟩
      ·have H' := am H
       clear H
       go_wp2
       go_loopg [5] kj3 (fun kq v5 w' => ∃ (x5_3 : Int), v5 = .int .i64 x5_3 ∧ Aside0 (spec_l6Links.l1 kq l0 x3_1 x5_3 = some r) ∧ Aside0 (kq ≤ kj3) ∧ Drawn0 w w')
       case atStart => exact ⟨(0), ab6, H', ⟨Nat.le_refl _⟩, by repeat (first | exact Drawn0.refl _ | apply Drawn0.step)⟩
       case round =>
        clear H'
        (try clear c1); (try clear p1); (try clear q1); (try clear hx1); (try clear c2); (try clear c2b0); (try clear p2); (try clear c3); (try clear c3b0); (try clear c5); (try clear c5b0); (try clear c5b1); (try clear c6); (try clear c6b0); (try clear c6b1); (try clear p6); (try clear c7); (try clear c7b0); (try clear c9); (try clear c10); (try clear c10b0); (try clear c11); (try clear c11b0); (try clear c12); (try clear p12); (try clear q12); (try clear hx12); (try clear c13); (try clear c13b0); (try clear c15); (try clear c16); (try clear c16b0); (try clear c17); (try clear c17b0); (try clear c19); (try clear hx124_0); (try clear hx124_1); (try clear hx124_2); (try clear hx124_3); (try clear hx124_4); (try clear hx124_5); (try clear hx124_6); (try clear hx126_0); (try clear hx126_1); (try clear hx126_2); (try clear hx126_3); (try clear hx126_4); (try clear hx126_5); (try clear hx126_6); (try clear hx129_0); (try clear hx129_1); (try clear hx129_2); (try clear hx129_3); (try clear hx129_4); (try clear hx129_5); (try clear hx129_6); (try clear p1); (try clear p12); (try clear p124); (try clear p126); (try clear p129); (try clear p2); (try clear p6); (try clear q1); (try clear q12); (try clear q124); (try clear q126); (try clear q129)
        obtain ⟨x5_3, rfl, HA, HK3, ⟨m3, rfl⟩⟩ := hrel
        cases gk with
        | zero => exact absurd HA.out (by simp [spec_l6Links.l1])
        | succ k3 =>
         have H := HA.out
         clear HA
         simp only [spec_l6Links.l1] at H
         replace H := iq_ H; obtain ⟨c20b0, H⟩ := H
         replace H := iq_ H; obtain ⟨c21b0, H⟩ := H
         replace H := ir_ H; rcases H with ⟨c22b0, H⟩ | ⟨c22b0, H⟩
         ·replace H := iq_ H; obtain ⟨c23b0, H⟩ := H
          replace H := bi_ H; obtain ⟨t134, A24, H⟩ := H
          replace H := ib_ H; rcases H with ⟨rfl, H⟩ | ⟨rfl, H⟩
          ·replace H := iq_ H; obtain ⟨c26b0, H⟩ := H
           replace H := iq_ H; obtain ⟨c27b0, H⟩ := H
           replace H := ie_ H; rcases H with ⟨c28b0, c28b1, H⟩ | ⟨c28, c28b0, c28b1, H⟩
           ·have H' := am H
            clear H
            obtain ⟨p131, q131, A131_3, c131_3, A131_6, c131_6, hx131_0, hx131_1, hx131_2, hx131_3, hx131_4, hx131_5, hx131_6, HC131_3, HR131_3, HC131_6, HR131_6⟩ := agT53 b0_ HR0.out x3_1 (of_decide_eq_true ab4) (of_decide_eq_true ab4)
            obtain ⟨p132, q132, A132_3, c132_3, A132_6, c132_6, hx132_0, hx132_1, hx132_2, hx132_3, hx132_4, hx132_5, hx132_6, HC132_3, HR132_3, HC132_6, HR132_6⟩ := agT53 b0_ HR0.out x3_1 (of_decide_eq_true ab4) (of_decide_eq_true ab4)
            obtain ⟨rfl, rfl⟩ := sl_ hx131_3 hx132_3
            obtain ⟨rfl, rfl⟩ := sl_ hx131_6 hx132_6
            have p133 : 0 ≤ (x5_3 : Int) := of_decide_eq_true ab4
            have q133 : x5_3 < (((rd_T53 l0 x3_1).f6).length : Int) := of_decide_eq_true ab4
            obtain ⟨ad133, e133, hx133_0⟩ := Kd.at_int HR132_6.out x5_3 p133 q133
            cases e133
            replace p133 := eq_true p133
            replace q133 := eq_true q133
            go_wp2_with (first | ((with_reducible refine gf_ 77 ?_); refine gc_ Tryz.func77 (spec_l1In.calls (rd ((rd_T53 l0 x3_1).f6) x5_3) 1 (wrap64 ((l0.length : Int) - 1)) true _ A24.out) ?_; rintro w' ⟨nd, rfl⟩; have p135 : 0 ≤ ((rd ((rd_T53 l0 x3_1).f6) x5_3) : Int) := of_decide_eq_true ab4; have q135 : (rd ((rd_T53 l0 x3_1).f6) x5_3) < (l0.length : Int) := of_decide_eq_true ab4; obtain ⟨ad135, A135_3, c135_3, A135_6, c135_6, e135, hx135_0, hx135_1, hx135_2, hx135_3, hx135_4, hx135_5, hx135_6, hl135_3, hi135_3, hl135_6, hi135_6⟩ := at_T53 HR0.out (rd ((rd_T53 l0 x3_1).f6) x5_3) p135 q135; obtain rfl : ad124 = ad135 := (by injection e135); have HR135_3 := am hi135_3; have HC135_3 := am hl135_3; clear hi135_3 hl135_3; have HR135_6 := am hi135_6; have HC135_6 := am hl135_6; clear hi135_6 hl135_6; replace p135 := eq_true p135; replace q135 := eq_true q135))
            go_roundg k3
            case measure => have := HK1.out; have := HJ3.out; have := HK3.out; omega
            case rel => exact ⟨(wrap64 (x5_3 + 1)), ab6, H', ⟨by have := HK1.out; have := HJ3.out; have := HK3.out; omega⟩, by repeat (first | exact Drawn0.refl _ | apply Drawn0.step)⟩
           ·obtain rfl := Option.some.inj H
            obtain ⟨p131, q131, A131_3, c131_3, A131_6, c131_6, hx131_0, hx131_1, hx131_2, hx131_3, hx131_4, hx131_5, hx131_6, HC131_3, HR131_3, HC131_6, HR131_6⟩ := agT53 b0_ HR0.out x3_1 (of_decide_eq_true ab4) (of_decide_eq_true ab4)
            obtain ⟨p132, q132, A132_3, c132_3, A132_6, c132_6, hx132_0, hx132_1, hx132_2, hx132_3, hx132_4, hx132_5, hx132_6, HC132_3, HR132_3, HC132_6, HR132_6⟩ := agT53 b0_ HR0.out x3_1 (of_decide_eq_true ab4) (of_decide_eq_true ab4)
            obtain ⟨rfl, rfl⟩ := sl_ hx131_3 hx132_3
            obtain ⟨rfl, rfl⟩ := sl_ hx131_6 hx132_6
            have p133 : 0 ≤ (x5_3 : Int) := of_decide_eq_true ab4
            have q133 : x5_3 < (((rd_T53 l0 x3_1).f6).length : Int) := of_decide_eq_true ab4
            obtain ⟨ad133, e133, hx133_0⟩ := Kd.at_int HR132_6.out x5_3 p133 q133
            cases e133
            replace p133 := eq_true p133
            replace q133 := eq_true q133
            go_wp2_with (first | ((with_reducible refine gf_ 77 ?_); refine gc_ Tryz.func77 (spec_l1In.calls (rd ((rd_T53 l0 x3_1).f6) x5_3) 1 (wrap64 ((l0.length : Int) - 1)) true _ A24.out) ?_; rintro w' ⟨nd, rfl⟩; have p135 : 0 ≤ ((rd ((rd_T53 l0 x3_1).f6) x5_3) : Int) := of_decide_eq_true ab4; have q135 : (rd ((rd_T53 l0 x3_1).f6) x5_3) < (l0.length : Int) := of_decide_eq_true ab4; obtain ⟨ad135, A135_3, c135_3, A135_6, c135_6, e135, hx135_0, hx135_1, hx135_2, hx135_3, hx135_4, hx135_5, hx135_6, hl135_3, hi135_3, hl135_6, hi135_6⟩ := at_T53 HR0.out (rd ((rd_T53 l0 x3_1).f6) x5_3) p135 q135; obtain rfl : ad124 = ad135 := (by injection e135); have HR135_3 := am hi135_3; have HC135_3 := am hl135_3; clear hi135_3 hl135_3; have HR135_6 := am hi135_6; have HC135_6 := am hl135_6; clear hi135_6 hl135_6; replace p135 := eq_true p135; replace q135 := eq_true q135))
            go_ret
            exact ⟨ab6, by repeat (first | exact Drawn0.refl _ | apply Drawn0.step)⟩
          ·obtain rfl := Option.some.inj H
           obtain ⟨p131, q131, A131_3, c131_3, A131_6, c131_6, hx131_0, hx131_1, hx131_2, hx131_3, hx131_4, hx131_5, hx131_6, HC131_3, HR131_3, HC131_6, HR131_6⟩ := agT53 b0_ HR0.out x3_1 (of_decide_eq_true ab4) (of_decide_eq_true ab4)
           obtain ⟨p132, q132, A132_3, c132_3, A132_6, c132_6, hx132_0, hx132_1, hx132_2, hx132_3, hx132_4, hx132_5, hx132_6, HC132_3, HR132_3, HC132_6, HR132_6⟩ := agT53 b0_ HR0.out x3_1 (of_decide_eq_true ab4) (of_decide_eq_true ab4)
           obtain ⟨rfl, rfl⟩ := sl_ hx131_3 hx132_3
           obtain ⟨rfl, rfl⟩ := sl_ hx131_6 hx132_6
           have p133 : 0 ≤ (x5_3 : Int) := of_decide_eq_true ab4
           have q133 : x5_3 < (((rd_T53 l0 x3_1).f6).length : Int) := of_decide_eq_true ab4
           obtain ⟨ad133, e133, hx133_0⟩ := Kd.at_int HR132_6.out x5_3 p133 q133
           cases e133
           replace p133 := eq_true p133
           replace q133 := eq_true q133
           go_wp2_with (first | ((with_reducible refine gf_ 77 ?_); refine gc_ Tryz.func77 (spec_l1In.calls (rd ((rd_T53 l0 x3_1).f6) x5_3) 1 (wrap64 ((l0.length : Int) - 1)) false _ A24.out) ?_; rintro w' ⟨nd, rfl⟩))
           go_ret
           exact ⟨ab6, by repeat (first | exact Drawn0.refl _ | apply Drawn0.step)⟩
         ·have H' := am H
          clear H
          obtain ⟨p131, q131, A131_3, c131_3, A131_6, c131_6, hx131_0, hx131_1, hx131_2, hx131_3, hx131_4, hx131_5, hx131_6, HC131_3, HR131_3, HC131_6, HR131_6⟩ := agT53 b0_ HR0.out x3_1 (of_decide_eq_true ab4) (of_decide_eq_true ab4)
          go_wp2
          go_roundg k3
          case measure => have := HK1.out; have := HJ3.out; have := HK3.out; omega
          case rel => exact ⟨(wrap64 (x3_1 + 1)), ab6, H', ⟨by have := HK1.out; have := HJ3.out; have := HK3.out; omega⟩, by repeat (first | exact Drawn0.refl _ | apply Drawn0.step)⟩
   ·obtain rfl := Option.some.inj H
    go_wp2
    go_ret
    exact ⟨ab6, by repeat (first | exact Drawn0.refl _ | apply Drawn0.step)⟩
mutual
def spec_l6Order.l0 : Nat → List (S53) → Int → List Int → Int → Option (List Int)
 | 0, _, _, _, _ => none
 | k + 1, x0, x1, x2, x7 => if 0 ≤ x1 then (if x1 < (x0.length : Int) then (if x7 < (((rd_T53 x0 x1).f6).length : Int) then (if 0 ≤ x7 then ((spec_l6Order.f k x0 (rd ((rd_T53 x0 x1).f6) x7) x2).bind fun t142 => (spec_l6Order.l0 k x0 x1 t142 (wrap64 (x7 + 1)))) else (none)) else (some x2)) else (none)) else (none)
def spec_l6Order.f : Nat → List (S53) → Int → List Int → Option (List Int)
 | 0, _, _, _ => none
 | k + 1, l0, a1, l2 => if (l2.length : Int) ≥ (l0.length : Int) then (some l2) else (if l2.length < 17592186044416 then (spec_l6Order.l0 k l0 a1 (l2 ++ [a1]) 0) else (none))
end
theorem spec_l6Order.calls (k : Nat) : ∀ (A0 : Option Addr) (c0 : Nat) (l0 : List (S53)) (a1 : Int) (P2_ : Nat → Prop) (u9000_ : Value) (l2 : List Int) (r : List Int) (w0 w : World) (hB : Below w0.heap.size w0 w) (hr0 : ∀ W_, Kept w W_ (fun k_ => P2_ k_) → Kd.C k53 W_ A0 l0.length l0) (hc0 : l0.length ≤ c0) (ho2 : Kd.R (Kd.int .i64) 3 w w0.heap.size P2_ u9000_ l2) (h : spec_l6Order.f k l0 a1 l2 = some r),
  Calls Tryz.prog 80 #[.slice A0 l0.length c0, .int .i64 a1, u9000_] w fun e w' => ∃ v0_ : Value, e = .returned (v0_) ∧ Kd.R (Kd.int .i64) 3 w' w0.heap.size (fun k_ => (P2_ k_ ∨ w.heap.size ≤ k_)) v0_ r ∧ Below w0.heap.size w0 w' ∧ Kept w w' (fun k_ => P2_ k_) := by
 induction k using Nat.strongRecOn with
 | _ k ih =>
 intro A0 c0 l0 a1 P2_ u9000_ l2 r w0 w hB hr0 hc0 ho2 h
 cases k with
 | zero => exact absurd h (by simp [spec_l6Order.f])
 | succ k =>
 simp only [spec_l6Order.f] at h
 have HR0 := am hr0
 have HC0 := am hc0
 clear hr0 hc0
 have HO2 := am (show Kd.R (Kd.int .i64) 3 w w0.heap.size (fun k_ => (P2_ k_ ∨ w.heap.size ≤ k_)) u9000_ l2 from Kd.R_mono ho2 (fun k_ hk => (.inl hk)))
 have HK := am (Kept.refl w (fun k_ => P2_ k_))
 have HW0 := am hB.size
 have HB := am hB
 clear hB
 have H : (if (l2.length : Int) ≥ (l0.length : Int) then (some l2) else (if l2.length < 17592186044416 then (spec_l6Order.l0 k l0 a1 (l2 ++ [a1]) 0) else (none))) = some r := h
 clear h
 by_cases c4 : (l2.length : Int) ≥ (l0.length : Int)
 ·rw [if_pos c4] at H
  have c4b0 : decide ((l0.length : Int) ≤ (l2.length : Int)) = true := decide_eq_true c4
  have c4b1 : decide (l0.length ≤ l2.length) = true := decide_eq_true (Int.ofNat_le.mp c4)
  clear c4
  obtain rfl := Option.some.inj H
  obtain ⟨Ao5, co5, eo5⟩ := Kd.R_slice HO2.out
  subst eo5
  go_enter Tryz.func80, Tryz.ntmps80
  go_wp2
  go_ret
  exact ⟨_, ab7, ab8 HO2, ab1, z3_0⟩
 ·rw [if_neg c4] at H
  have c4b0 : decide ((l0.length : Int) ≤ (l2.length : Int)) = false := decide_eq_false c4
  have c4b1 : decide (l0.length ≤ l2.length) = false := decide_eq_false (fun h => c4 (Int.ofNat_le.mpr h))
  clear c4
  by_cases c6 : l2.length < 17592186044416
  case neg => rw [if_neg c6] at H; exact absurd H (by simp)
  rw [if_pos c6] at H
  have LMc6 := am c6
  clear c6
  obtain ⟨y136, hy136⟩ : ∃ y_ : List Int, y_ = (l2 ++ [a1]) := ⟨_, rfl⟩
  replace H : (spec_l6Order.l0 k l0 a1 y136 0) = some r := by first | (rw [hy136]; with_reducible exact H) | (have H2_ := (Option.bind_some _ _).symm.trans H; rw [hy136]; with_reducible exact H2_) | (have H2_ := (Option.bind_some _ _).symm.trans H; with_reducible exact H2_) | with_reducible exact H | (rw [hy136]; exact H) | exact H
  have Ny136 := am hy136
  clear hy136
  have H' := am H
  clear H
  obtain ⟨Ao7, co7, eo7⟩ := Kd.R_slice HO2.out
  subst eo7
  go_enter Tryz.func80, Tryz.ntmps80
  go_wp2_with (first | ((with_reducible refine gate_builtin (b := .append) (xs := #[.tmp 14, .tmp 16]) rfl ?_); at_builtin; refine Kd.R_append (Kd.int .i64) (w0 := w0) w0.heap.size rfl (.tmp 14) (.tmp 16) 23 3 (.int .i64 0) 8 rfl Tryz.underlying23 info3 rfl (by decide) (by omega) (.slice Ao7 l2.length co7) l2 a1 [.int .i64 a1] (fun k_ => (P2_ k_ ∨ w.heap.size ≤ k_)) (fun _ => False) rfl rfl ?aP (fun _ hk => hk.elim) ?aF ?aO ?aB ?aS ?aL ?_; (case aP => exact rfl); (case aB => exact ab1); (case aF => exact (fun k_ hk => (.inr (Nat.le_trans (by first | exact HK.out.1 | exact (show Kept w _ (fun k_ => P2_ k_) from z3_0).1) hk)))); (case aO => exact (ab8 HO2)); (case aS => exact (below_size ab1)); (case aL => have := LMc6.out; omega); intro v137 w8 ho hb hg hat; rw [← Ny136.out] at ho; replace HB := am hb; replace HK := am (Kept.of_grown (S := (fun k_ => P2_ k_)) hg (z3_0) (fun k_ e_ => (HO2.out.1 k_ e_))); have HO138 := am ho; clear HO2; clear ho hb hg hat))
  go_loopg [2, 7] k (fun kq v2 v7 w' => ∃ (x2_1 : List Int) (x7_1 : Int), v7 = .int .i64 x7_1 ∧ Aside0 (spec_l6Order.l0 kq l0 a1 x2_1 x7_1 = some r) ∧ Aside0 (kq ≤ k) ∧ Aside0 (Kd.R (Kd.int .i64) 3 w' w0.heap.size (fun k_ => (P2_ k_ ∨ w.heap.size ≤ k_)) v2 x2_1) ∧ Aside0 (Kept w w' (fun k_ => P2_ k_)) ∧ Aside0 (Below w0.heap.size w0 w'))
  case atStart => exact ⟨(y136), (0), ab6, H', ⟨Nat.le_refl _⟩, ⟨ab8 HO138⟩, ⟨z3_0⟩, ⟨ab1⟩⟩
  case round =>
   clear H'
   (try clear p2); (try clear c4); (try clear c4b0); (try clear c4b1); (try clear c6); (try clear c8)
   obtain ⟨x2_1, x7_1, rfl, HA, HK1, HO_2, HK, HB⟩ := hrel
   cases gk with
   | zero => exact absurd HA.out (by simp [spec_l6Order.l0])
   | succ k1 =>
    have H := HA.out
    clear HA
    simp only [spec_l6Order.l0] at H
    replace H := iq_ H; obtain ⟨c9b0, H⟩ := H
    replace H := iq_ H; obtain ⟨c10b0, H⟩ := H
    replace H := ir_ H; rcases H with ⟨c11b0, H⟩ | ⟨c11b0, H⟩
    ·replace H := iq_ H; obtain ⟨c12b0, H⟩ := H
     replace H := bi_ H; obtain ⟨t142, A13, H⟩ := H
     have H' := am H
     clear H
     obtain ⟨p139, q139, ad139, A139_3, c139_3, A139_6, c139_6, rfl, hx139_0, hx139_1, hx139_2, hx139_3, hx139_4, hx139_5, hx139_6, HC139_3, HR139_3, HC139_6, HR139_6⟩ := otT53 b0_ (Kd.C_kept_now HR0.out HK.out) a1 (of_decide_eq_true ab4) (of_decide_eq_true ab4)
     obtain ⟨p140, q140, A140_3, c140_3, A140_6, c140_6, hx140_0, hx140_1, hx140_2, hx140_3, hx140_4, hx140_5, hx140_6, HC140_3, HR140_3, HC140_6, HR140_6⟩ := agT53 b0_ (Kd.C_kept_now HR0.out HK.out) a1 (of_decide_eq_true ab4) (of_decide_eq_true ab4)
     obtain ⟨rfl, rfl⟩ := sl_ hx139_3 hx140_3
     obtain ⟨rfl, rfl⟩ := sl_ hx139_6 hx140_6
     have p141 : 0 ≤ (x7_1 : Int) := of_decide_eq_true ab4
     have q141 : x7_1 < (((rd_T53 l0 a1).f6).length : Int) := of_decide_eq_true ab4
     obtain ⟨ad141, e141, hx141_0⟩ := Kd.at_int (by repeat (first | (with_reducible exact HR140_6.out) | (with_reducible refine Kd.C_alloc ?_ _) | (with_reducible refine Kd.C_drewN ?_ _) | (with_reducible refine Kd.C_drew ?_) | exact HR140_6.out)) x7_1 p141 q141
     cases e141
     replace p141 := eq_true p141
     replace q141 := eq_true q141
     obtain ⟨Ao14, co14, eo14⟩ := Kd.R_slice HO_2.out
     subst eo14
     go_wp2_with (first | ((with_reducible refine gate_callee (f := 80) rfl ?_); refine goesL_ (some 38) rfl rfl Tryz.func80 (by kernel_rfl) rfl #[.slice (some ad139) l0.length c0, .int .i64 (rd ((rd_T53 l0 a1).f6) x7_1), .slice Ao14 x2_1.length co14] rfl ab5 ?_; (with_reducible refine (ih k1 (by have := HK1.out; omega) _ _ l0 (rd ((rd_T53 l0 a1).f6) x7_1) (fun k_ => some k_ = (.slice Ao14 x2_1.length co14 : Value).ownBlock) (.slice Ao14 x2_1.length co14) x2_1 t142 w0 _ ?side1 ?side2 ?side3 ?side4 A13.out).mono ?_); (case side1 => repeat (first | (with_reducible first | exact HB.out | apply below_alloc | apply pw_below_drewN | apply below_drew1) | exact HB.out)); (case side2 => exact Kd.C_kept_call HR0.out (z3_0) (fun k_ hs_ => (fun e_ => (HO_2.out.1 k_ e_.symm)) hs_)); (case side3 => exact HC0.out); (case side4 => exact Kd.R_tight rfl HO_2.out); rintro e w15 ⟨v143, rfl, ho0, hb, hkp⟩; refine ⟨_, rfl, ?_⟩; have HO144 := am (Kd.R_mono (ok' := fun k_ => (P2_ k_ ∨ w.heap.size ≤ k_)) ho0 (fun k_ hk_ => Or.elim hk_ (fun hs_ => (HO_2.out.1 k_ (hs_).symm)) (fun hn_ => (.inr (Nat.le_trans (by first | exact HK.out.1 | exact (show Kept w _ (fun k_ => P2_ k_) from z3_0).1) hn_))))); replace HK := am (Kept.then_ (S := (fun k_ => P2_ k_)) (z3_0) hkp (fun k_ hs_ => (fun e_ => (HO_2.out.1 k_ e_.symm)) hs_)); replace HB := am hb; clear HO_2; (try clear hb); (try clear hkp); (try clear ho0)))
     go_roundg k1
     case measure => have := HK1.out; omega
     case rel => exact ⟨(t142), (wrap64 (x7_1 + 1)), ab6, H', ⟨by have := HK1.out; omega⟩, ⟨ab8 HO144⟩, ⟨z3_0⟩, ⟨ab1⟩⟩
    ·obtain rfl := Option.some.inj H
     obtain ⟨p139, q139, ad139, A139_3, c139_3, A139_6, c139_6, rfl, hx139_0, hx139_1, hx139_2, hx139_3, hx139_4, hx139_5, hx139_6, HC139_3, HR139_3, HC139_6, HR139_6⟩ := otT53 b0_ (Kd.C_kept_now HR0.out HK.out) a1 (of_decide_eq_true ab4) (of_decide_eq_true ab4)
     go_wp2
     go_ret
     exact ⟨_, ab7, ab8 HO_2, ab1, z3_0⟩
end Go.Proofs.YtekkalnafngfeaaGreat.P
