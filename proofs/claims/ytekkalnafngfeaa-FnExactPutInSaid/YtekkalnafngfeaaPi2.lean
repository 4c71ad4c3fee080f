-- WRITTEN BY this session's own programs
import Derived.Test.YtekkalnafngfeaaPi24
import Derived.Test.YtekkalnafngfeaaPi16
namespace Go.Proofs.Ytekkalnafngfeaa.P
open Go.RowKit Go.Proofs.YtekkalnafngfeaaW.PrintWords Go.Proofs.YtekkalnafngfeaaW.PrintLast Go.Proofs.YtekkalnafngfeaaW.PrintMore Go
set_option linter.unusedVariables false
set_option linter.unusedSimpArgs false
set_option maxHeartbeats 8000000
set_option maxRecDepth 100000
attribute [local go_sem] max2_int min2_int max_two min_two max_three min_three max_four min_four
def spec_l9Room.f (l0_0 : List (S38)) (l0_1 : List Int) (l0_2 : List Int) (a0_3 : Int) (a0_4 : Int) : Option (Bool) := some (decide ((l0_0.length : Int) < 3000))
theorem spec_l9Room.calls (A0_0 : Option Addr) (c0_0 : Nat) (l0_0 : List (S38)) (A0_1 : Option Addr) (c0_1 : Nat) (l0_1 : List Int) (A0_2 : Option Addr) (c0_2 : Nat) (l0_2 : List Int) (a0_3 : Int) (a0_4 : Int) (r : Bool) (w : World) (hr0_0 : Kd.C k38 w A0_0 l0_0.length l0_0) (hc0_0 : l0_0.length ≤ c0_0) (hr0_1 : Kd.C (Kd.int .i64) w A0_1 l0_1.length l0_1) (hc0_1 : l0_1.length ≤ c0_1) (hr0_2 : Kd.C (Kd.int .i64) w A0_2 l0_2.length l0_2) (hc0_2 : l0_2.length ≤ c0_2) (h : spec_l9Room.f l0_0 l0_1 l0_2 a0_3 a0_4 = some r) :
  Calls Try.prog 19 #[.agg #[.slice A0_0 l0_0.length c0_0, .slice A0_1 l0_1.length c0_1, .slice A0_2 l0_2.length c0_2, .int .i64 a0_3, .int .i64 a0_4]] w fun e w' => e = .returned (.bool r) ∧ Below w.heap.size w w' := by
 have hu33 := Try.underlying33
 have HR0_0 := am hr0_0
 have HC0_0 := am hc0_0
 clear hr0_0 hc0_0
 have HR0_1 := am hr0_1
 have HC0_1 := am hc0_1
 clear hr0_1 hc0_1
 have HR0_2 := am hr0_2
 have HC0_2 := am hc0_2
 clear hr0_2 hc0_2
 have HB := am (Below.refl w.heap.size w)
 have H : (some (decide ((l0_0.length : Int) < 3000))) = some r := h
 clear h
 obtain rfl := Option.some.inj H
 go_enter Try.func19, Try.ntmps19
 go_wp2_with (first | ((with_reducible refine gd_ 1 ?_); refine bx_ 1 (cs := #[.slice A0_0 l0_0.length c0_0, .slice A0_1 l0_1.length c0_1, .slice A0_2 l0_2.length c0_2, .int .i64 a0_3, .int .i64 a0_4]) 33 ?_; intro gb180 hg w2 hbox hb; have BK180 := am hbox; have GW180 := ge_ (w := w) hg; have GE180 := ge_ (w := w) hg; replace HB := am (below_step ab1 hb); clear hb hbox hg; obtain ⟨⟨_, _, _, _, _⟩, _, _, _, _, _⟩ := Op.cells5 BK180.out))
 go_ret
 exact ⟨ab7, ab2 GE180⟩
def spec_l6Item.f (a0_0 : Int) (a0_1 : Int) (a0_2 : ByteArray) (l0_3 : List (S69)) (a0_4 : ByteArray) (a0_5 : Int) (l0_6 : List Int) : Option (Int × Int × ByteArray × (List (S69)) × ByteArray × Int × List Int) := (some (([] : List (S69)) : List (S69))).bind fun y183 => (if y183.length + l0_3.length < 4398046511104 then ((some (([] : List Int) : List Int)).bind fun y189 => (if y189.length + l0_6.length < 17592186044416 then (some (a0_0, a0_1, a0_2, (y183 ++ l0_3), a0_4, a0_5, (y189 ++ l0_6))) else (none))) else (none))
theorem spec_l6Item.calls (a0_0 : Int) (a0_1 : Int) (a0_2 : ByteArray) (A0_3 : Option Addr) (c0_3 : Nat) (l0_3 : List (S69)) (a0_4 : ByteArray) (a0_5 : Int) (A0_6 : Option Addr) (c0_6 : Nat) (l0_6 : List Int) (r1 : Int) (r2 : Int) (r3 : ByteArray) (r4 : List (S69)) (r5 : ByteArray) (r6 : Int) (r7 : List Int) (w : World) (hr0_3 : Kd.C k69 w A0_3 l0_3.length l0_3) (hc0_3 : l0_3.length ≤ c0_3) (hr0_6 : Kd.C (Kd.int .i64) w A0_6 l0_6.length l0_6) (hc0_6 : l0_6.length ≤ c0_6) (h : spec_l6Item.f a0_0 a0_1 a0_2 l0_3 a0_4 a0_5 l0_6 = some (r1, r2, r3, r4, r5, r6, r7)) :
  Calls Try.prog 42 #[.agg #[.int .i64 a0_0, .int .i64 a0_1, .string a0_2, .slice A0_3 l0_3.length c0_3, .string a0_4, .int .i64 a0_5, .slice A0_6 l0_6.length c0_6]] w fun e w' => ∃ v3_ v6_ : Value, e = .returned (.agg #[.int .i64 r1, .int .i64 r2, .string r3, v3_, .string r5, .int .i64 r6, v6_]) ∧ Kd.R k69 69 w' w.heap.size (fun _ => True) v3_ r4 ∧ Kd.R (Kd.int .i64) 3 w' w.heap.size (fun _ => True) v6_ r7 ∧ Below w.heap.size w w' := by
 have hu38 := Try.underlying38
 have HR0_3 := am hr0_3
 have HC0_3 := am hc0_3
 clear hr0_3 hc0_3
 have HR0_6 := am hr0_6
 have HC0_6 := am hc0_6
 clear hr0_6 hc0_6
 have HB := am (Below.refl w.heap.size w)
 have H : ((some (([] : List (S69)) : List (S69))).bind fun y183 => (if y183.length + l0_3.length < 4398046511104 then ((some (([] : List Int) : List Int)).bind fun y189 => (if y189.length + l0_6.length < 17592186044416 then (some (a0_0, a0_1, a0_2, (y183 ++ l0_3), a0_4, a0_5, (y189 ++ l0_6))) else (none))) else (none))) = some (r1, r2, r3, r4, r5, r6, r7) := h
 clear h
 obtain ⟨y183, hy183⟩ : ∃ y_ : List (S69), y_ = (([] : List (S69))) := ⟨_, rfl⟩
 replace H : (if y183.length + l0_3.length < 4398046511104 then ((some (([] : List Int) : List Int)).bind fun y189 => (if y189.length + l0_6.length < 17592186044416 then (some (a0_0, a0_1, a0_2, (y183 ++ l0_3), a0_4, a0_5, (y189 ++ l0_6))) else (none))) else (none)) = some (r1, r2, r3, r4, r5, r6, r7) := by first | (rw [hy183]; with_reducible exact H) | (have H2_ := (Option.bind_some _ _).symm.trans H; rw [hy183]; with_reducible exact H2_) | (have H2_ := (Option.bind_some _ _).symm.trans H; with_reducible exact H2_) | with_reducible exact H | (rw [hy183]; exact H) | exact H
 have Ny183 := am hy183
 clear hy183
 by_cases c2 : y183.length + l0_3.length < 4398046511104
 case neg => rw [if_neg c2] at H; exact absurd H (by simp)
 rw [if_pos c2] at H
 have LMc2 := am c2
 clear c2
 obtain ⟨y186, hy186⟩ : ∃ y_ : List (S69), y_ = (y183 ++ l0_3) := ⟨_, rfl⟩
 replace H : ((some (([] : List Int) : List Int)).bind fun y189 => (if y189.length + l0_6.length < 17592186044416 then (some (a0_0, a0_1, a0_2, y186, a0_4, a0_5, (y189 ++ l0_6))) else (none))) = some (r1, r2, r3, r4, r5, r6, r7) := by first | (rw [hy186]; with_reducible exact H) | (have H2_ := (Option.bind_some _ _).symm.trans H; rw [hy186]; with_reducible exact H2_) | (have H2_ := (Option.bind_some _ _).symm.trans H; with_reducible exact H2_) | with_reducible exact H | (rw [hy186]; exact H) | exact H
 have Ny186 := am hy186
 clear hy186
 obtain ⟨y189, hy189⟩ : ∃ y_ : List Int, y_ = (([] : List Int)) := ⟨_, rfl⟩
 replace H : (if y189.length + l0_6.length < 17592186044416 then (some (a0_0, a0_1, a0_2, y186, a0_4, a0_5, (y189 ++ l0_6))) else (none)) = some (r1, r2, r3, r4, r5, r6, r7) := by first | (rw [hy189]; with_reducible exact H) | (have H2_ := (Option.bind_some _ _).symm.trans H; rw [hy189]; with_reducible exact H2_) | (have H2_ := (Option.bind_some _ _).symm.trans H; with_reducible exact H2_) | with_reducible exact H | (rw [hy189]; exact H) | exact H
 have Ny189 := am hy189
 clear hy189
 by_cases c3 : y189.length + l0_6.length < 17592186044416
 case neg => rw [if_neg c3] at H; exact absurd H (by simp)
 rw [if_pos c3] at H
 have LMc3 := am c3
 clear c3
 obtain ⟨y192, hy192⟩ : ∃ y_ : List Int, y_ = (y189 ++ l0_6) := ⟨_, rfl⟩
 replace H : (some (a0_0, a0_1, a0_2, y186, a0_4, a0_5, y192)) = some (r1, r2, r3, r4, r5, r6, r7) := by first | (rw [hy192]; with_reducible exact H) | (have H2_ := (Option.bind_some _ _).symm.trans H; rw [hy192]; with_reducible exact H2_) | (have H2_ := (Option.bind_some _ _).symm.trans H; with_reducible exact H2_) | with_reducible exact H | (rw [hy192]; exact H) | exact H
 have Ny192 := am hy192
 clear hy192
 simp only [Option.some.injEq, Prod.mk.injEq] at H
 obtain ⟨rfl, rfl, rfl, rfl, rfl, rfl, rfl⟩ := H
 go_enter Try.func42, Try.ntmps42
 go_wp2_with (first | ((with_reducible refine gd_ 1 ?_); refine bx_ 1 (cs := #[.int .i64 a0_0, .int .i64 a0_1, .string a0_2, .slice A0_3 l0_3.length c0_3, .string a0_4, .int .i64 a0_5, .slice A0_6 l0_6.length c0_6]) 38 ?_; intro gb181 hg w4 hbox hb; have BK181 := am hbox; have GW181 := ge_ (w := w) hg; have GE181 := ge_ (w := w) hg; replace HB := am (below_step ab1 hb); clear hb hbox hg) | ((with_reducible refine gd_ 2 ?_); refine bx_ 2 (cs := #[.int .i64 0, .int .i64 0, .string (⟨#[]⟩ : ByteArray), .slice none 0 0, .string (⟨#[]⟩ : ByteArray), .int .i64 0, .slice none 0 0]) 38 ?_; intro gb182 hg w5 hbox hb; have BK182 := am hbox; have GW182 := gE_ (w := w) GE181 hg; have GE182 := gE_ (w := w) GE181 hg; replace HB := am (below_step (ab2 GE181) hb); have NB181_182 := nl_ BK181 hg; have NB182_181 := ng_ BK181 hg; replace BK181 := bl_ BK181 hb; clear hb hbox hg) | ((with_reducible refine gate_dst (N := 3) rfl ?_); refine Kd.R_lit k69 _ 69 ?hg (N := 3) ?hd (xs := ([] : List (S69))) (inner := []) (ok := fun _ => True) (okp := fun _ => True) ?hr ?hp (fun _ hk => hk) trivial (Below.refl _ _) (Nat.le_refl _) (by simp) ?_; (case hd => rfl); (case hg => rfl); (case hr => first | (go_simp; done) | (go_simp; rfl)); (case hp => exact (Reps.none _ _)); intro v184 w6 ho7 hb hg_ hnew_; clear hg_ hnew_; (first | rw [← Ny183.out] at ho7 | (simp only [Int.reduceToNat] at ho7; rw [← Ny183.out] at ho7)); have HO185 := am (Kd.R_lower ho7 (below_size ba_)); replace BK181 := bl_ BK181 hb; replace BK182 := bl_ BK182 hb; replace HB := am (below_step ba_ hb); clear hb ho7; have hnb8 := NB181_182.out; have hnc8 := NB182_181.out; obtain ⟨⟨_, _, _, _, _, _, _⟩, _, _, _, _, _, _, _⟩ := Op.cells7 BK181.out) | ((with_reducible refine gate_builtin (b := .append) (xs := #[.tmp 3, .tmp 5]) rfl ?_); at_builtin; refine Kd.R_append_rows k69 (w0 := w) w.heap.size rfl (.tmp 3) (.tmp 5) 36 69 (.agg #[(.string ⟨#[]⟩), (.string ⟨#[]⟩)]) 32 rfl Try.underlying36 info69 rfl (by decide) (by omega) v184 y183 l0_3 _ _ _ (fun _ => True) (fun _ => False) rfl rfl ?aO ?aR (fun _ _ h => h) (fun _ h => h.elim) ?aF ?aB ?aS ?aL ?_; (case aR => repeat (first | exact (Kd.C_below HR0_3.out HB.out) | (with_reducible refine Kd.C_alloc ?_ _) | (with_reducible refine Kd.C_drewN ?_ _) | (with_reducible refine Kd.C_drew ?_))); (case aB => exact ba_); (case aF => exact (fun _ _ => trivial)); (case aO => exact (ab8 HO185)); (case aS => exact (below_size ba_)); (case aL => have := LMc2.out; omega); intro v187 w10 ho hb hg hat; rw [← Ny186.out] at ho; replace BK181 := bg_ BK181 hg (Kd.R_ne HO185.out BK181.out (by decide)); replace BK182 := bg_ BK182 hg (Kd.R_ne HO185.out BK182.out (by decide)); replace HB := am hb; have HO188 := am ho; clear HO185; clear ho hb hg hat; obtain ⟨Ao11, co11, eo11⟩ := Kd.R_slice HO188.out; subst eo11; obtain ⟨⟨_, _, _, _, _, _, _⟩, _, _, _, _, _, _, _⟩ := Op.cells7 BK181.out) | ((with_reducible refine gate_dst (N := 8) rfl ?_); refine Kd.R_lit (Kd.int .i64) _ 3 ?hg (N := 8) ?hd (xs := ([] : List Int)) (inner := []) (ok := fun _ => True) (okp := fun _ => True) ?hr ?hp (fun _ hk => hk) trivial (Below.refl _ _) (Nat.le_refl _) (by simp) ?_; (case hd => rfl); (case hg => rfl); (case hr => first | (go_simp; done) | (go_simp; rfl)); (case hp => exact (Reps.none _ _)); intro v190 w13 ho14 hb hg_ hnew_; clear hg_ hnew_; (first | rw [← Ny189.out] at ho14 | (simp only [Int.reduceToNat] at ho14; rw [← Ny189.out] at ho14)); replace HO188 := am (Kd.R_below (by (with_reducible repeat (first | apply Kd.R_alloc | apply Kd.R_drewN | apply Kd.R_drew)); exact (Kd.R_mono (Kd.R_far (p := ⟨gb181, 3, none⟩) (Kd.R_types HO188.out BK181.out (by decide)) (fun _ hk => hk.2) (.slice Ao11 y186.length co11)) (fun _ h_ => h_.1))) hb); have HO191 := am (Kd.R_lower ho14 (below_size ba_)); replace BK181 := bp_ BK181 hb; replace BK182 := bp_ BK182 hb; replace HB := am (below_step ba_ hb); clear hb ho14; obtain ⟨⟨_, _, _, _, _, _, _⟩, _, _, _, _, _, _, _⟩ := Op.cells7 BK181.out) | ((with_reducible refine gate_builtin (b := .append) (xs := #[.tmp 8, .tmp 10]) rfl ?_); at_builtin; refine Kd.R_append_rows (Kd.int .i64) (w0 := w) w.heap.size rfl (.tmp 8) (.tmp 10) 23 3 (.int .i64 0) 8 rfl Try.underlying23 info3 rfl (by decide) (by omega) v190 y189 l0_6 _ _ _ (fun _ => True) (fun _ => False) rfl rfl ?aO ?aR (fun _ _ h => h) (fun _ h => h.elim) ?aF ?aB ?aS ?aL ?_; (case aR => repeat (first | exact (Kd.C_below HR0_6.out HB.out) | (with_reducible refine Kd.C_alloc ?_ _) | (with_reducible refine Kd.C_drewN ?_ _) | (with_reducible refine Kd.C_drew ?_))); (case aB => exact ba_); (case aF => exact (fun _ _ => trivial)); (case aO => exact (ab8 HO191)); (case aS => exact (below_size ba_)); (case aL => have := LMc3.out; omega); intro v193 w16 ho hb hg hat; rw [← Ny192.out] at ho; replace BK181 := bg_ BK181 hg (Kd.R_ne HO191.out BK181.out (by decide)); replace BK182 := bg_ BK182 hg (Kd.R_ne HO191.out BK182.out (by decide)); replace HO188 := am (Kd.R_over' (ab8 HO188) (Kd.R_typed (ab8 HO191)) (by decide) hg); replace HB := am hb; have HO194 := am ho; clear HO191; clear ho hb hg hat; obtain ⟨Ao17, co17, eo17⟩ := Kd.R_slice HO194.out; subst eo17; obtain ⟨⟨_, _, _, _, _, _, _⟩, _, _, _, _, _, _, _⟩ := Op.cells7 BK181.out; obtain ⟨⟨_, _, _, _, _, _, _⟩, _, _, _, _, _, _, _⟩ := Op.cells7 BK182.out))
 refine bodyPost_ret (results_cell_row rfl _ _ gb182 38 #[.int .i64 a0_0, .int .i64 a0_1, .string a0_2, .slice Ao11 y186.length co11, .string a0_4, .int .i64 a0_5, .slice Ao17 y192.length co17] (0, 0) _ rfl (bq_ BK182) Try.underlying38 rfl (by kernel_rfl)) rfl ?_
 exact ⟨_, _, ab7, by (with_reducible repeat (first | apply Kd.R_alloc | apply Kd.R_drewN | apply Kd.R_drew)); exact Kd.R_mono (Kd.R_far (p := ⟨gb182, 6, none⟩) (Kd.R_far (p := ⟨gb182, 5, none⟩) (Kd.R_far (p := ⟨gb182, 4, none⟩) (Kd.R_far (p := ⟨gb182, 3, none⟩) (Kd.R_far (p := ⟨gb182, 2, none⟩) (Kd.R_far (p := ⟨gb182, 1, none⟩) (Kd.R_far (p := ⟨gb182, 0, none⟩) (Kd.R_far (p := ⟨gb181, 6, none⟩) (Kd.R_types (Kd.R_types HO188.out BK181.out (by decide)) BK182.out (by decide)) (fun _ hk => hk.1.2) (.slice Ao17 y192.length co17)) (fun _ hk => hk.2) (.int .i64 a0_0)) (fun _ hk => hk.2) (.int .i64 a0_1)) (fun _ hk => hk.2) (.string a0_2)) (fun _ hk => hk.2) (.slice Ao11 y186.length co11)) (fun _ hk => hk.2) (.string a0_4)) (fun _ hk => hk.2) (.int .i64 a0_5)) (fun _ hk => hk.2) (.slice Ao17 y192.length co17)) (fun _ hk => trivial), by (with_reducible repeat (first | apply Kd.R_alloc | apply Kd.R_drewN | apply Kd.R_drew)); exact Kd.R_mono (Kd.R_far (p := ⟨gb182, 6, none⟩) (Kd.R_far (p := ⟨gb182, 5, none⟩) (Kd.R_far (p := ⟨gb182, 4, none⟩) (Kd.R_far (p := ⟨gb182, 3, none⟩) (Kd.R_far (p := ⟨gb182, 2, none⟩) (Kd.R_far (p := ⟨gb182, 1, none⟩) (Kd.R_far (p := ⟨gb182, 0, none⟩) (Kd.R_far (p := ⟨gb181, 6, none⟩) (Kd.R_types (Kd.R_types HO194.out BK181.out (by decide)) BK182.out (by decide)) (fun _ hk => hk.1.2) (.slice Ao17 y192.length co17)) (fun _ hk => hk.2) (.int .i64 a0_0)) (fun _ hk => hk.2) (.int .i64 a0_1)) (fun _ hk => hk.2) (.string a0_2)) (fun _ hk => hk.2) (.slice Ao11 y186.length co11)) (fun _ hk => hk.2) (.string a0_4)) (fun _ hk => hk.2) (.int .i64 a0_5)) (fun _ hk => hk.2) (.slice Ao17 y192.length co17)) (fun _ hk => trivial), ba_⟩
def spec_l6Copy.l0 : Nat → List (S38) → List (S38) → Int → Option ((List (S38)))
 | 0, _, _, _ => none
 | k + 1, x0, x3, x4 => if x4 < (x0.length : Int) then (if 0 ≤ x4 then ((spec_l6Item.f ((rd_T38 x0 x4).f0) ((rd_T38 x0 x4).f1) ((rd_T38 x0 x4).f2) ((rd_T38 x0 x4).f3) ((rd_T38 x0 x4).f4) ((rd_T38 x0 x4).f5) ((rd_T38 x0 x4).f6)).bind fun bt199 => (if x3.length < 1353245080339 then (spec_l6Copy.l0 k x0 (x3 ++ [(⟨bt199.1, bt199.2.1, bt199.2.2.1, bt199.2.2.2.1, bt199.2.2.2.2.1, bt199.2.2.2.2.2.1, bt199.2.2.2.2.2.2⟩ : S38)]) (wrap64 (x4 + 1))) else (none))) else (none)) else (some x3)
def spec_l6Copy.f (k : Nat) (l0 : List (S38)) : Option ((List (S38))) := spec_l6Copy.l0 k l0 (([] : List (S38))) 0
theorem spec_l6Copy.calls (k : Nat) (A0 : Option Addr) (c0 : Nat) (l0 : List (S38)) (r : List (S38)) (w : World) (hr0 : Kd.C k38 w A0 l0.length l0) (hc0 : l0.length ≤ c0) (h : spec_l6Copy.f k l0 = some r) :
  Calls Try.prog 41 #[.slice A0 l0.length c0] w fun e w' => ∃ v0_ : Value, e = .returned (v0_) ∧ Kd.S k38 38 w' w.heap.size (fun _ => True) v0_ r ∧ Below w.heap.size w w' := by
 have hu38 := Try.underlying38
 have HR0 := am hr0
 have HC0 := am hc0
 clear hr0 hc0
 have HB := am (Below.refl w.heap.size w)
 have H : (spec_l6Copy.l0 k l0 (([] : List (S38))) 0) = some r := h
 clear h
 obtain ⟨y195, hy195⟩ : ∃ y_ : List (S38), y_ = (([] : List (S38))) := ⟨_, rfl⟩
 replace H : (spec_l6Copy.l0 k l0 y195 0) = some r := by first | (rw [hy195]; with_reducible exact H) | (have H2_ := (Option.bind_some _ _).symm.trans H; rw [hy195]; with_reducible exact H2_) | (have H2_ := (Option.bind_some _ _).symm.trans H; with_reducible exact H2_) | with_reducible exact H | (rw [hy195]; exact H) | exact H
 have Ny195 := am hy195
 clear hy195
 have H' := am H
 clear H
 go_enter Try.func41, Try.ntmps41
 go_wp2_with (first | ((with_reducible refine gate_dst (N := 5) rfl ?_); refine Kd.S_lit k38 _ 38 ?hg (N := 5) ?hd (xs := ([] : List (S38))) (inner := []) (ok := fun _ => True) (okp := fun _ => True) ?hr ?hp (fun _ hk => hk) trivial (Below.refl _ _) (Nat.le_refl _) (by simp) ?_; (case hd => rfl); (case hg => rfl); (case hr => first | (go_simp; done) | (go_simp; rfl)); (case hp => exact (Reps.none _ _)); intro v196 w2 ho3 hb hg_ hnew_; clear hg_ hnew_; (first | rw [← Ny195.out] at ho3 | (simp only [Int.reduceToNat] at ho3; rw [← Ny195.out] at ho3)); have HO197 := am (Kd.S_lower ho3 (below_size ab1)); replace HB := am (below_step ab1 hb); clear hb ho3))
 go_loopg [3, 4] k (fun kq v3 v4 w' => ∃ (x3_1 : List (S38)) (x4_1 : Int), v4 = .int .i64 x4_1 ∧ Aside0 (spec_l6Copy.l0 kq l0 x3_1 x4_1 = some r) ∧ Aside0 (kq ≤ k) ∧ Aside0 (Kd.S k38 38 w' w.heap.size (fun _ => True) v3 x3_1) ∧ Aside0 (Below w.heap.size w w'))
 case atStart => exact ⟨(y195), (0), ab6, H', ⟨Nat.le_refl _⟩, ⟨by (with_reducible repeat (first | apply Kd.S_alloc | apply Kd.S_drewN | apply Kd.S_drew)); exact HO197.out⟩, ⟨ab1⟩⟩
 case round =>
  clear H'
  try clear p2
  obtain ⟨x3_1, x4_1, rfl, HA, HK1, HO_3, HB⟩ := hrel
  cases gk with
  | zero => exact absurd HA.out (by simp [spec_l6Copy.l0])
  | succ k1 =>
   have H := HA.out
   clear HA
   simp only [spec_l6Copy.l0] at H
   replace H := ir_ H; rcases H with ⟨c4b0, H⟩ | ⟨c4b0, H⟩
   ·replace H := iq_ H; obtain ⟨c5b0, H⟩ := H
    replace H := Option.bind_eq_some_iff.mp H
    obtain ⟨⟨t199, t200, t201, t202, t205, t206, t207⟩, A60, H⟩ := H
    try dsimp only at H
    have A6 := am A60
    clear A60
    by_cases c7 : x3_1.length < 1353245080339
    case neg => rw [if_neg c7] at H; exact absurd H (by simp)
    rw [if_pos c7] at H
    have LMc7 := am c7
    clear c7
    obtain ⟨y210, hy210⟩ : ∃ y_ : List (S38), y_ = (x3_1 ++ [(⟨t199, t200, t201, t202, t205, t206, t207⟩ : S38)]) := ⟨_, rfl⟩
    replace H : (spec_l6Copy.l0 k1 l0 y210 (wrap64 (x4_1 + 1))) = some r := by first | (rw [hy210]; with_reducible exact H) | (have H2_ := (Option.bind_some _ _).symm.trans H; rw [hy210]; with_reducible exact H2_) | (have H2_ := (Option.bind_some _ _).symm.trans H; with_reducible exact H2_) | with_reducible exact H | (rw [hy210]; exact H) | exact H
    have Ny210 := am hy210
    clear hy210
    have H' := am H
    clear H
    have p198 : 0 ≤ (x4_1 : Int) := of_decide_eq_true ab4
    have q198 : x4_1 < (l0.length : Int) := of_decide_eq_true ab4
    obtain ⟨ad198, A198_3, c198_3, A198_6, c198_6, e198, hx198_0, hx198_1, hx198_2, hx198_3, hx198_4, hx198_5, hx198_6, hl198_3, hi198_3, hl198_6, hi198_6⟩ := at_T38 HR0.out x4_1 p198 q198
    cases e198
    replace hx198_0 := pc_ HB hx198_0
    replace hx198_1 := pc_ HB hx198_1
    replace hx198_2 := pc_ HB hx198_2
    replace hx198_3 := pc_ HB hx198_3
    replace hx198_4 := pc_ HB hx198_4
    replace hx198_5 := pc_ HB hx198_5
    replace hx198_6 := pc_ HB hx198_6
    have HR198_3 := am hi198_3
    have HC198_3 := am hl198_3
    clear hi198_3 hl198_3
    have HR198_6 := am hi198_6
    have HC198_6 := am hl198_6
    clear hi198_6 hl198_6
    replace p198 := eq_true p198
    replace q198 := eq_true q198
    go_wp2_with (first | ((with_reducible refine gate_callee (f := 42) rfl ?_); refine goesL_ (some 17) rfl rfl Try.func42 (by kernel_rfl) rfl #[.agg #[.int .i64 ((rd_T38 l0 x4_1).f0), .int .i64 ((rd_T38 l0 x4_1).f1), .string ((rd_T38 l0 x4_1).f2), .slice A198_3 ((rd_T38 l0 x4_1).f3).length c198_3, .string ((rd_T38 l0 x4_1).f4), .int .i64 ((rd_T38 l0 x4_1).f5), .slice A198_6 ((rd_T38 l0 x4_1).f6).length c198_6]] rfl ab5 ?_; (with_reducible refine (spec_l6Item.calls ((rd_T38 l0 x4_1).f0) ((rd_T38 l0 x4_1).f1) ((rd_T38 l0 x4_1).f2) _ _ ((rd_T38 l0 x4_1).f3) ((rd_T38 l0 x4_1).f4) ((rd_T38 l0 x4_1).f5) _ _ ((rd_T38 l0 x4_1).f6) t199 t200 t201 t202 t205 t206 t207 _ (sc_ HR198_3) HC198_3.out (sc_ HR198_6) HC198_6.out A6.out).mono ?_); rintro e w8 ⟨v203, v208, rfl, ho0, ho1, hb⟩; refine ⟨_, rfl, ?_⟩; replace HO_3 := am (Kd.S_mono (Kd.S_told (Kd.S_told (Kd.S_old (by (with_reducible repeat (first | apply Kd.S_alloc | apply Kd.S_drewN | apply Kd.S_drew)); exact HO_3.out) hb) (Kd.R_base ho0)) (Kd.R_base ho1)) (fun _ h_ => h_.1)); have HO204 := am (Kd.R_lower ho0 (below_size ab1)); have HO209 := am (Kd.R_lower ho1 (below_size ab1)); replace HB := am (below_step ab1 hb); (try clear hb); (try clear hb2); (try clear hk); (try clear hi); (try clear ho0); (try clear ho1); obtain ⟨Ao10, co10, eo10⟩ := Kd.R_slice HO204.out; subst eo10; obtain ⟨Ao11, co11, eo11⟩ := Kd.R_slice HO209.out; subst eo11) | ((with_reducible refine gate_builtin (b := .append) (xs := #[.tmp 12, .tmp 18]) rfl ?_); at_builtin; refine Kd.S_append k38 (w0 := w) w.heap.size rfl (.tmp 12) (.tmp 18) 31 38 (.agg #[(.int .i64 0), (.int .i64 0), (.string ⟨#[]⟩), (.slice none 0 0), (.string ⟨#[]⟩), (.int .i64 0), (.slice none 0 0)]) 104 rfl Try.underlying31 info38 rfl (by decide) (by omega) u3 x3_1 (⟨t199, t200, t201, t202, t205, t206, t207⟩ : S38) [.int .i64 t199, .int .i64 t200, .string t201, .slice Ao10 t202.length co10, .string t205, .int .i64 t206, .slice Ao11 t207.length co11] (fun _ => True) (fun k_ => some k_ = (.slice Ao10 t202.length co10 : Value).ownBlock ∨ some k_ = (.slice Ao11 t207.length co11 : Value).ownBlock) rfl rfl ?aP (fun k_ hk_ => hk_.elim (fun h_ => ((Kd.R_mono (ok' := fun k_ => ((fun _ => True)) k_ ∧ some k_ ≠ (u3 : Value).ownBlock) (Kd.R_apart' (HO204.out) (Kd.S_typed HO_3.out) (by decide)) (fun k_ hk => ⟨trivial, hk.2⟩))).1 k_ h_.symm) (fun h_ => ((Kd.R_mono (ok' := fun k_ => ((fun _ => True)) k_ ∧ some k_ ≠ (u3 : Value).ownBlock) (Kd.R_apart' (HO209.out) (Kd.S_typed HO_3.out) (by decide)) (fun k_ hk => ⟨trivial, hk.2⟩))).1 k_ h_.symm)) ?aF ?aO ?aB ?aS ?aL ?_; (case aP => exact k38_mkM _ _ _ (⟨t199, t200, t201, t202, t205, t206, t207⟩ : S38) (Kd.R_mono (Kd.R_tight rfl (Kd.R_mono (ok' := fun k_ => ((fun _ => True)) k_ ∧ some k_ ≠ (u3 : Value).ownBlock) (Kd.R_apart' (HO204.out) (Kd.S_typed HO_3.out) (by decide)) (fun k_ hk => ⟨trivial, hk.2⟩))) (fun _ h_ => Or.inl h_)) (Kd.R_mono (Kd.R_tight rfl (Kd.R_mono (ok' := fun k_ => ((fun _ => True)) k_ ∧ some k_ ≠ (u3 : Value).ownBlock) (Kd.R_apart' (HO209.out) (Kd.S_typed HO_3.out) (by decide)) (fun k_ hk => ⟨trivial, hk.2⟩))) (fun _ h_ => Or.inr (h_)))); (case aB => exact ab1); (case aF => exact (fun _ _ => trivial)); (case aO => exact (by (with_reducible repeat (first | apply Kd.S_alloc | apply Kd.S_drewN | apply Kd.S_drew)); exact Kd.S_mono HO_3.out (fun k_ hk => ⟨trivial, fun e_ => e_.elim (fun h_ => hk.1.2 h_) (fun h_ => hk.2 h_)⟩))); (case aS => exact (below_size ab1)); (case aL => have := LMc7.out; omega); intro v211 w9 ho hb hg hat; rw [← Ny210.out] at ho; replace HB := am hb; have HO212 := am ho; clear HO_3 HO204 HO209; clear ho hb hg hat))
    go_roundg k1
    case measure => have := HK1.out; omega
    case rel => exact ⟨(y210), (wrap64 (x4_1 + 1)), ab6, H', ⟨by have := HK1.out; omega⟩, ⟨by (with_reducible repeat (first | apply Kd.S_alloc | apply Kd.S_drewN | apply Kd.S_drew)); exact HO212.out⟩, ⟨ab1⟩⟩
   ·obtain rfl := Option.some.inj H
    go_wp2
    go_ret
    exact ⟨_, ab7, by (with_reducible repeat (first | apply Kd.S_alloc | apply Kd.S_drewN | apply Kd.S_drew)); exact HO_3.out, ab1⟩
def spec_l6Add.f (l0 : List S38) (a1 a2 : Int) (a3_0 a3_1 : Int) (a3_2 : ByteArray) (l3_3 : List S69) (a3_4 : ByteArray) (a3_5 : Int) (l3_6 : List Int) : Option (List S38 × Int) :=
 (spec_l6Item.f a3_0 a3_1 a3_2 l3_3 a3_4 a3_5 l3_6).bind fun bt => if l0.length < 1353245080339 ∧ 0 ≤ a1 ∧ a1 < ((l0 ++ [(⟨bt.1, bt.2.1, bt.2.2.1, bt.2.2.2.1, bt.2.2.2.2.1, a1, ([] : List Int)⟩ : S38)]).length : Int) ∧ (rd_T38 (l0 ++ [(⟨bt.1, bt.2.1, bt.2.2.1, bt.2.2.2.1, bt.2.2.2.2.1, a1, ([] : List Int)⟩ : S38)]) a1).f6.length < 17592186044415 then
  some ((l0 ++ [(⟨bt.1, bt.2.1, bt.2.2.1, bt.2.2.2.1, bt.2.2.2.2.1, a1, ([] : List Int)⟩ : S38)]).set a1.toNat ⟨(rd_T38 (l0 ++ [(⟨bt.1, bt.2.1, bt.2.2.1, bt.2.2.2.1, bt.2.2.2.2.1, a1, ([] : List Int)⟩ : S38)]) a1).f0, (rd_T38 (l0 ++ [(⟨bt.1, bt.2.1, bt.2.2.1, bt.2.2.2.1, bt.2.2.2.2.1, a1, ([] : List Int)⟩ : S38)]) a1).f1, (rd_T38 (l0 ++ [(⟨bt.1, bt.2.1, bt.2.2.1, bt.2.2.2.1, bt.2.2.2.2.1, a1, ([] : List Int)⟩ : S38)]) a1).f2, (rd_T38 (l0 ++ [(⟨bt.1, bt.2.1, bt.2.2.1, bt.2.2.2.1, bt.2.2.2.2.1, a1, ([] : List Int)⟩ : S38)]) a1).f3, (rd_T38 (l0 ++ [(⟨bt.1, bt.2.1, bt.2.2.1, bt.2.2.2.1, bt.2.2.2.2.1, a1, ([] : List Int)⟩ : S38)]) a1).f4, (rd_T38 (l0 ++ [(⟨bt.1, bt.2.1, bt.2.2.1, bt.2.2.2.1, bt.2.2.2.2.1, a1, ([] : List Int)⟩ : S38)]) a1).f5, (rd_T38 (l0 ++ [(⟨bt.1, bt.2.1, bt.2.2.1, bt.2.2.2.1, bt.2.2.2.2.1, a1, ([] : List Int)⟩ : S38)]) a1).f6.take (hang_at a2 (rd_T38 (l0 ++ [(⟨bt.1, bt.2.1, bt.2.2.1, bt.2.2.2.1, bt.2.2.2.2.1, a1, ([] : List Int)⟩ : S38)]) a1).f6.length) ++ (l0.length : Int) :: (rd_T38 (l0 ++ [(⟨bt.1, bt.2.1, bt.2.2.1, bt.2.2.2.1, bt.2.2.2.2.1, a1, ([] : List Int)⟩ : S38)]) a1).f6.drop (hang_at a2 (rd_T38 (l0 ++ [(⟨bt.1, bt.2.1, bt.2.2.1, bt.2.2.2.1, bt.2.2.2.2.1, a1, ([] : List Int)⟩ : S38)]) a1).f6.length)⟩, (l0.length : Int)) else none
theorem spec_l6Add.calls (P0_ : Nat → Prop) (v0 : Value) (l0 : List S38) (a1 a2 : Int) (a3_0 a3_1 : Int) (a3_2 : ByteArray) (A3_3 : Option Addr) (c3_3 : Nat) (l3_3 : List S69) (a3_4 : ByteArray) (a3_5 : Int) (A3_6 : Option Addr) (c3_6 : Nat) (l3_6 : List Int) (r1 : List S38) (r2 : Int) (w0 w : World) (hB : Below w0.heap.size w0 w) (ho : Kd.S k38 38 w w0.heap.size P0_ v0 l0) (hr3 : Kd.C k69 w A3_3 l3_3.length l3_3) (hc3 : l3_3.length ≤ c3_3) (hr6 : Kd.C (Kd.int .i64) w A3_6 l3_6.length l3_6) (hc6 : l3_6.length ≤ c3_6) (h : spec_l6Add.f l0 a1 a2 a3_0 a3_1 a3_2 l3_3 a3_4 a3_5 l3_6 = some (r1, r2)) :
  Calls Try.prog 21 #[v0, .int .i64 a1, .int .i64 a2, .agg #[.int .i64 a3_0, .int .i64 a3_1, .string a3_2, .slice A3_3 l3_3.length c3_3, .string a3_4, .int .i64 a3_5, .slice A3_6 l3_6.length c3_6]] w fun e w' => ∃ v1_ : Value, e = .returned (.tuple #[v1_, .int .i64 r2]) ∧ Kd.S k38 38 w' w0.heap.size (fun k => P0_ k ∨ w.heap.size ≤ k) v1_ r1 ∧ Below w0.heap.size w0 w' ∧ Kept w w' P0_ := by
 unfold spec_l6Add.f at h
 replace h := Option.bind_eq_some_iff.mp h
 obtain ⟨⟨t0, t1, t2, t3, t4, t5, t6⟩, A60, h⟩ := h
 dsimp only at h
 generalize hx : (⟨t0, t1, t2, t3, t4, a1, ([] : List Int)⟩ : S38) = x at h
 generalize hy : l0 ++ [x] = y at h
 split at h
 case isFalse => exact absurd h (by simp)
 case isTrue hc =>
 obtain ⟨cl, p1, q1, c6⟩ := hc
 have cle : (y.length : Int) = l0.length + 1 := by rw [← hy]; simp
 have CLE := am cle
 clear cle
 have A6 := am A60
 clear A60
 have CL := am cl
 have C6 := am c6
 clear cl c6
 have HX := am hx
 have HY := am hy
 clear hx hy
 obtain ⟨A0, c0, rfl⟩ := Kd.S_slice ho
 have HS : Aside0 (Kd.S k38 38 w w0.heap.size (fun k => P0_ k ∧ k < w.heap.size) (.slice A0 l0.length c0) l0) := ⟨Kd.S_mono (Kd.S_bound ho) (fun k hk => ⟨hk.1, hk.2.2.1⟩)⟩
 have HL := am (Kd.S_lt ho)
 have HB := am hB
 have HW0 := am hB.size
 have HK := am (Kept.refl w P0_)
 have HR3 := am hr3
 have HC3 := am hc3
 have HR6a := am hr6
 have HC6a := am hc6
 clear ho hB hr3 hc3 hr6 hc6
 have P1 := am p1
 have Q1 := am q1
 clear p1 q1
 by_cases c10 : a2 < 0
 have PAT := am (show (0 : Int) ≤ ((rd_T38 y a1).f6.length : Int) by omega)
 have QAT := am (show ((rd_T38 y a1).f6.length : Int) ≤ ((rd_T38 y a1).f6.length : Int) by omega)
 have hh_ : hang_at a2 (rd_T38 y a1).f6.length = (((rd_T38 y a1).f6.length : Int)).toNat := by unfold hang_at; split <;> omega
 rw [hh_] at h
 clear hh_
 have c10b0 := decide_eq_true c10
 clear c10
 have pat_ := eq_true PAT.out
 have qat_ := eq_true QAT.out
 simp only [Option.some.injEq, Prod.mk.injEq] at h
 obtain ⟨rfl, rfl⟩ := h
 obtain ⟨y7, hy7⟩ : ∃ r : List Int, r = (rd_T38 y a1).f6.take (((rd_T38 y a1).f6.length : Int)).toNat := ⟨_, rfl⟩
 obtain ⟨y12, hy12⟩ : ∃ r : List Int, r = (rd_T38 y a1).f6.drop (((rd_T38 y a1).f6.length : Int)).toNat := ⟨_, rfl⟩
 have KY7 := am (show y7.length = (((rd_T38 y a1).f6.length : Int)).toNat by rw [hy7, List.length_take]; have := QAT.out; omega)
 have KY12 := am (show y12.length = (rd_T38 y a1).f6.length - (((rd_T38 y a1).f6.length : Int)).toNat by rw [hy12, List.length_drop])
 rw [← hy7, ← hy12]
 have HY7 := am hy7
 have HY12 := am hy12
 clear hy7 hy12
 obtain ⟨r6, hr6_⟩ : ∃ r : List Int, r = y7 ++ (l0.length : Int) :: y12 := ⟨_, rfl⟩
 rw [← hr6_]
 have HRR := am (show r6 = y7 ++ [(l0.length : Int)] ++ y12 by rw [hr6_]; simp)
 clear hr6_
 rotate_left
 by_cases c11 : ((rd_T38 y a1).f6.length : Int) < a2
 have PAT := am (show (0 : Int) ≤ ((rd_T38 y a1).f6.length : Int) by omega)
 have QAT := am (show ((rd_T38 y a1).f6.length : Int) ≤ ((rd_T38 y a1).f6.length : Int) by omega)
 have hh_ : hang_at a2 (rd_T38 y a1).f6.length = (((rd_T38 y a1).f6.length : Int)).toNat := by unfold hang_at; split <;> omega
 rw [hh_] at h
 clear hh_
 have c10b0 := decide_eq_false c10
 have c11b0 := decide_eq_true c11
 clear c10 c11
 have pat_ := eq_true PAT.out
 have qat_ := eq_true QAT.out
 simp only [Option.some.injEq, Prod.mk.injEq] at h
 obtain ⟨rfl, rfl⟩ := h
 obtain ⟨y7, hy7⟩ : ∃ r : List Int, r = (rd_T38 y a1).f6.take (((rd_T38 y a1).f6.length : Int)).toNat := ⟨_, rfl⟩
 obtain ⟨y12, hy12⟩ : ∃ r : List Int, r = (rd_T38 y a1).f6.drop (((rd_T38 y a1).f6.length : Int)).toNat := ⟨_, rfl⟩
 have KY7 := am (show y7.length = (((rd_T38 y a1).f6.length : Int)).toNat by rw [hy7, List.length_take]; have := QAT.out; omega)
 have KY12 := am (show y12.length = (rd_T38 y a1).f6.length - (((rd_T38 y a1).f6.length : Int)).toNat by rw [hy12, List.length_drop])
 rw [← hy7, ← hy12]
 have HY7 := am hy7
 have HY12 := am hy12
 clear hy7 hy12
 obtain ⟨r6, hr6_⟩ : ∃ r : List Int, r = y7 ++ (l0.length : Int) :: y12 := ⟨_, rfl⟩
 rw [← hr6_]
 have HRR := am (show r6 = y7 ++ [(l0.length : Int)] ++ y12 by rw [hr6_]; simp)
 clear hr6_
 rotate_left
 have PAT := am (show (0 : Int) ≤ a2 by omega)
 have QAT := am (show a2 ≤ ((rd_T38 y a1).f6.length : Int) by omega)
 have hh_ : hang_at a2 (rd_T38 y a1).f6.length = (a2).toNat := by unfold hang_at; split <;> omega
 rw [hh_] at h
 clear hh_
 have c10b0 := decide_eq_false c10
 have c11b0 := decide_eq_false c11
 clear c10 c11
 have pat_ := eq_true PAT.out
 have qat_ := eq_true QAT.out
 simp only [Option.some.injEq, Prod.mk.injEq] at h
 obtain ⟨rfl, rfl⟩ := h
 obtain ⟨y7, hy7⟩ : ∃ r : List Int, r = (rd_T38 y a1).f6.take (a2).toNat := ⟨_, rfl⟩
 obtain ⟨y12, hy12⟩ : ∃ r : List Int, r = (rd_T38 y a1).f6.drop (a2).toNat := ⟨_, rfl⟩
 have KY7 := am (show y7.length = (a2).toNat by rw [hy7, List.length_take]; have := QAT.out; omega)
 have KY12 := am (show y12.length = (rd_T38 y a1).f6.length - (a2).toNat by rw [hy12, List.length_drop])
 rw [← hy7, ← hy12]
 have HY7 := am hy7
 have HY12 := am hy12
 clear hy7 hy12
 obtain ⟨r6, hr6_⟩ : ∃ r : List Int, r = y7 ++ (l0.length : Int) :: y12 := ⟨_, rfl⟩
 rw [← hr6_]
 have HRR := am (show r6 = y7 ++ [(l0.length : Int)] ++ y12 by rw [hr6_]; simp)
 clear hr6_
 rotate_left
 iterate 2 focus
  go_enter Try.func21, Try.ntmps21
  go_wp2_with (first | ((with_reducible refine gd_ 7 ?_); (try (refine gate_guard (by rfl) ?_; dsimp only)); refine bx_ 7 (cs := #[.int .i64 a3_0, .int .i64 a3_1, .string a3_2, .slice A3_3 l3_3.length c3_3, .string a3_4, .int .i64 a3_5, .slice A3_6 l3_6.length c3_6]) 38 ?_; intro ga hg w1 hbox hb; replace HS := am (Kd.S_below HS.out hb); replace HB := am (below_step HB.out hb); replace HK := am (Kept.below HK.out hb); replace HR3 := am (Kd.C_below HR3.out hb); replace HR6a := am (Kd.C_below HR6a.out hb); have BA := am hbox; clear hb hbox hg; obtain ⟨hczz_0, hczz_1, hczz_2, hczz_3, hczz_4, hczz_5, hczz_6⟩ := cl7 BA; obtain ⟨hfzz_0, hfzz_1, hfzz_2, hfzz_3, hfzz_4, hfzz_5, hfzz_6⟩ := fz7 BA) | ((with_reducible refine gate_callee (f := 42) rfl ?_); refine goesL_ (some 17) rfl rfl Try.func42 (by kernel_rfl) rfl #[.agg #[.int .i64 a3_0, .int .i64 a3_1, .string a3_2, .slice A3_3 l3_3.length c3_3, .string a3_4, .int .i64 a3_5, .slice A3_6 l3_6.length c3_6]] rfl ab5 ?_; (with_reducible refine (spec_l6Item.calls a3_0 a3_1 a3_2 _ _ l3_3 a3_4 a3_5 _ _ l3_6 t0 t1 t2 t3 t4 t5 t6 _ HR3.out HC3.out HR6a.out HC6a.out A6.out).mono ?_); rintro e w2 ⟨v3, v6_, rfl, ho0, ho1, hb⟩; refine ⟨_, rfl, ?_⟩; obtain ⟨Ao, co, eo⟩ := Kd.R_slice ho0; subst eo; obtain ⟨Ap, cp, eo⟩ := Kd.R_slice ho1; subst eo; have HA : Aside0 (Kd.R k69 69 w2 w0.heap.size (fun k => w.heap.size ≤ k ∧ k < w2.heap.size) (.slice Ao t3.length co) t3) := ⟨Kd.R_lower (Kd.R_mono (Kd.R_bound ho0) (fun k hk => ⟨Nat.le_trans HK.out.1 hk.2.1, hk.2.2.1⟩)) (below_size HB.out)⟩; replace HS := am (Kd.S_below HS.out hb); replace HB := am (below_step HB.out hb); replace HK := am (Kept.below HK.out hb); clear ho0 ho1 hb HR3 HR6a BA) | ((with_reducible refine gd_ 11 ?_); (try (refine gate_guard (by rfl) ?_; dsimp only)); refine bx_ 11 (cs := #[.int .i64 0, .int .i64 0, .string (⟨#[]⟩ : ByteArray), .slice none 0 0, .string (⟨#[]⟩ : ByteArray), .int .i64 0, .slice none 0 0]) 38 ?_; intro gb hg w3 hbox hb; have GE := am (show w.heap.size ≤ gb by rw [hg]; exact HK.out.1); have HNE := am (fun (k : Nat) (hk : P0_ k ∧ k < w.heap.size) => (by have := hk.2; have := GE.out; omega : k ≠ gb)); replace HA : Aside0 (Kd.R k69 69 w3 w0.heap.size (fun k => w.heap.size ≤ k ∧ k ≠ gb) (.slice Ao t3.length co) t3) := ⟨Kd.R_mono (Kd.R_below HA.out hb) (fun k hk => ⟨hk.1, by have := hk.2; omega⟩)⟩; replace HS := am (Kd.S_below HS.out hb); replace HB := am (below_step HB.out hb); replace HK := am (Kept.below HK.out hb); have BK := am hbox; clear hb hbox hg; obtain ⟨hczy_0, hczy_1, hczy_2, hczy_3, hczy_4, hczy_5, hczy_6⟩ := cl7 BK; obtain ⟨hfzy_0, hfzy_1, hfzy_2, hfzy_3, hfzy_4, hfzy_5, hfzy_6⟩ := fz7 BK) | ((with_reducible refine gate_store (t := 38) (p := 11) rfl ?_); refine store_event (t := 38) (p := 11) (v := ?vo11) (w1 := (((((((w3.setCell ⟨gb, 0, none⟩ (.int .i64 t0)).setCell ⟨gb, 1, none⟩ (.int .i64 t1)).setCell ⟨gb, 2, none⟩ (.string t2)).setCell ⟨gb, 3, none⟩ (.slice Ao t3.length co)).setCell ⟨gb, 4, none⟩ (.string t4)).setCell ⟨gb, 5, none⟩ (.int .i64 t5)).setCell ⟨gb, 6, none⟩ (.slice Ap t6.length cp))) ?hg ?ho ?hn ?hr ?_; (case ho => rfl); (case hg => rfl); (case hn => rfl); (case hr => first | (go_simp; done) | (go_simp; rfl)); intro w4 hw; replace HA : Aside0 (Kd.R k69 69 w4 w0.heap.size (fun k => w.heap.size ≤ k ∧ k ≠ gb) (.slice Ao t3.length co) t3) := ⟨by rw [hw]; exact (Kd.R_far (p := ⟨gb, 6, none⟩) (Kd.R_far (p := ⟨gb, 5, none⟩) (Kd.R_far (p := ⟨gb, 4, none⟩) (Kd.R_far (p := ⟨gb, 3, none⟩) (Kd.R_far (p := ⟨gb, 2, none⟩) (Kd.R_far (p := ⟨gb, 1, none⟩) (Kd.R_far (p := ⟨gb, 0, none⟩) HA.out (fun _ hk => hk.2) (.int .i64 t0)) (fun _ hk => hk.2) (.int .i64 t1)) (fun _ hk => hk.2) (.string t2)) (fun _ hk => hk.2) (.slice Ao t3.length co)) (fun _ hk => hk.2) (.string t4)) (fun _ hk => hk.2) (.int .i64 t5)) (fun _ hk => hk.2) (.slice Ap t6.length cp))⟩; replace HS : Aside0 (Kd.S k38 38 w4 w0.heap.size (fun k => P0_ k ∧ k < w.heap.size) (.slice A0 l0.length c0) l0) := ⟨by rw [hw]; exact (Kd.S_far (p := ⟨gb, 6, none⟩) (Kd.S_far (p := ⟨gb, 5, none⟩) (Kd.S_far (p := ⟨gb, 4, none⟩) (Kd.S_far (p := ⟨gb, 3, none⟩) (Kd.S_far (p := ⟨gb, 2, none⟩) (Kd.S_far (p := ⟨gb, 1, none⟩) (Kd.S_far (p := ⟨gb, 0, none⟩) HS.out (fun k hk => HNE.out k hk) (.int .i64 t0)) (fun k hk => HNE.out k hk) (.int .i64 t1)) (fun k hk => HNE.out k hk) (.string t2)) (fun k hk => HNE.out k hk) (.slice Ao t3.length co)) (fun k hk => HNE.out k hk) (.string t4)) (fun k hk => HNE.out k hk) (.int .i64 t5)) (fun k hk => HNE.out k hk) (.slice Ap t6.length cp))⟩; replace BK : Aside0 (w4.heap[gb]? = some (.cells #[.int .i64 t0, .int .i64 t1, .string t2, .slice Ao t3.length co, .string t4, .int .i64 t5, .slice Ap t6.length cp] 38 (0, 0))) := ⟨by rw [hw]; refine blk_put (cs := #[.int .i64 t0, .int .i64 t1, .string t2, .slice Ao t3.length co, .string t4, .int .i64 t5, .slice none 0 0]) ?_ 6 _ rfl; refine blk_put (cs := #[.int .i64 t0, .int .i64 t1, .string t2, .slice Ao t3.length co, .string t4, .int .i64 0, .slice none 0 0]) ?_ 5 _ rfl; refine blk_put (cs := #[.int .i64 t0, .int .i64 t1, .string t2, .slice Ao t3.length co, .string (⟨#[]⟩ : ByteArray), .int .i64 0, .slice none 0 0]) ?_ 4 _ rfl; refine blk_put (cs := #[.int .i64 t0, .int .i64 t1, .string t2, .slice none 0 0, .string (⟨#[]⟩ : ByteArray), .int .i64 0, .slice none 0 0]) ?_ 3 _ rfl; refine blk_put (cs := #[.int .i64 t0, .int .i64 t1, .string (⟨#[]⟩ : ByteArray), .slice none 0 0, .string (⟨#[]⟩ : ByteArray), .int .i64 0, .slice none 0 0]) ?_ 2 _ rfl; refine blk_put (cs := #[.int .i64 t0, .int .i64 0, .string (⟨#[]⟩ : ByteArray), .slice none 0 0, .string (⟨#[]⟩ : ByteArray), .int .i64 0, .slice none 0 0]) ?_ 1 _ rfl; refine blk_put (cs := #[.int .i64 0, .int .i64 0, .string (⟨#[]⟩ : ByteArray), .slice none 0 0, .string (⟨#[]⟩ : ByteArray), .int .i64 0, .slice none 0 0]) ?_ 0 _ rfl; exact BK.out⟩; replace HB : Aside0 (Below w0.heap.size w0 w4) := ⟨by rw [hw]; exact (below_set (below_set (below_set (below_set (below_set (below_set (below_set HB.out (Nat.le_trans HW0.out GE.out)) (Nat.le_trans HW0.out GE.out)) (Nat.le_trans HW0.out GE.out)) (Nat.le_trans HW0.out GE.out)) (Nat.le_trans HW0.out GE.out)) (Nat.le_trans HW0.out GE.out)) (Nat.le_trans HW0.out GE.out))⟩; replace HK : Aside0 (Kept w w4 P0_) := ⟨by rw [hw]; exact (Kept.setCell (p := ⟨gb, 6, none⟩) (Kept.setCell (p := ⟨gb, 5, none⟩) (Kept.setCell (p := ⟨gb, 4, none⟩) (Kept.setCell (p := ⟨gb, 3, none⟩) (Kept.setCell (p := ⟨gb, 2, none⟩) (Kept.setCell (p := ⟨gb, 1, none⟩) (Kept.setCell (p := ⟨gb, 0, none⟩) HK.out (Or.inr GE.out) (.int .i64 t0)) (Or.inr GE.out) (.int .i64 t1)) (Or.inr GE.out) (.string t2)) (Or.inr GE.out) (.slice Ao t3.length co)) (Or.inr GE.out) (.string t4)) (Or.inr GE.out) (.int .i64 t5)) (Or.inr GE.out) (.slice Ap t6.length cp))⟩; clear hw; obtain ⟨hczb0_0, hczb0_1, hczb0_2, hczb0_3, hczb0_4, hczb0_5, hczb0_6⟩ := cl7 BK; obtain ⟨hfzb0_0, hfzb0_1, hfzb0_2, hfzb0_3, hfzb0_4, hfzb0_5, hfzb0_6⟩ := fz7 BK) | ((with_reducible refine gate_store (t := 23) (p := 18) rfl ?_); refine store_event (t := 23) (p := 18) (v := ?vo18) (w1 := (w4.setCell ⟨gb, 6, none⟩ (.slice none 0 0))) ?hg ?ho ?hn ?hr ?_; (case ho => rfl); (case hg => rfl); (case hn => rfl); (case hr => first | (go_simp; done) | (go_simp; rfl)); intro w5 hw; replace HA : Aside0 (Kd.R k69 69 w5 w0.heap.size (fun k => w.heap.size ≤ k ∧ k ≠ gb) (.slice Ao t3.length co) t3) := ⟨by rw [hw]; exact (Kd.R_far (p := ⟨gb, 6, none⟩) HA.out (fun _ hk => hk.2) (.slice none 0 0))⟩; replace HS : Aside0 (Kd.S k38 38 w5 w0.heap.size (fun k => P0_ k ∧ k < w.heap.size) (.slice A0 l0.length c0) l0) := ⟨by rw [hw]; exact (Kd.S_far (p := ⟨gb, 6, none⟩) HS.out (fun k hk => HNE.out k hk) (.slice none 0 0))⟩; replace BK : Aside0 (w5.heap[gb]? = some (.cells #[.int .i64 t0, .int .i64 t1, .string t2, .slice Ao t3.length co, .string t4, .int .i64 t5, .slice none 0 0] 38 (0, 0))) := ⟨by rw [hw]; refine blk_put (cs := #[.int .i64 t0, .int .i64 t1, .string t2, .slice Ao t3.length co, .string t4, .int .i64 t5, .slice Ap t6.length cp]) ?_ 6 _ rfl; exact BK.out⟩; replace HB : Aside0 (Below w0.heap.size w0 w5) := ⟨by rw [hw]; exact (below_set HB.out (Nat.le_trans HW0.out GE.out))⟩; replace HK : Aside0 (Kept w w5 P0_) := ⟨by rw [hw]; exact (Kept.setCell (p := ⟨gb, 6, none⟩) HK.out (Or.inr GE.out) (.slice none 0 0))⟩; clear hw; obtain ⟨hczb1_0, hczb1_1, hczb1_2, hczb1_3, hczb1_4, hczb1_5, hczb1_6⟩ := cl7 BK; obtain ⟨hfzb1_0, hfzb1_1, hfzb1_2, hfzb1_3, hfzb1_4, hfzb1_5, hfzb1_6⟩ := fz7 BK) | ((with_reducible refine gate_store (t := 3) (p := 20) rfl ?_); refine store_event (t := 3) (p := 20) (v := ?vo20) (w1 := (w5.setCell ⟨gb, 5, none⟩ (.int .i64 a1))) ?hg ?ho ?hn ?hr ?_; (case ho => rfl); (case hg => rfl); (case hn => rfl); (case hr => first | (go_simp; done) | (go_simp; rfl)); intro w5b hw; replace HA : Aside0 (Kd.R k69 69 w5b w0.heap.size (fun k => w.heap.size ≤ k ∧ k ≠ gb) (.slice Ao t3.length co) t3) := ⟨by rw [hw]; exact (Kd.R_far (p := ⟨gb, 5, none⟩) HA.out (fun _ hk => hk.2) (.int .i64 a1))⟩; replace HS : Aside0 (Kd.S k38 38 w5b w0.heap.size (fun k => P0_ k ∧ k < w.heap.size) (.slice A0 l0.length c0) l0) := ⟨by rw [hw]; exact (Kd.S_far (p := ⟨gb, 5, none⟩) HS.out (fun k hk => HNE.out k hk) (.int .i64 a1))⟩; replace BK : Aside0 (w5b.heap[gb]? = some (.cells #[.int .i64 t0, .int .i64 t1, .string t2, .slice Ao t3.length co, .string t4, .int .i64 a1, .slice none 0 0] 38 (0, 0))) := ⟨by rw [hw]; refine blk_put (cs := #[.int .i64 t0, .int .i64 t1, .string t2, .slice Ao t3.length co, .string t4, .int .i64 t5, .slice none 0 0]) ?_ 5 _ rfl; exact BK.out⟩; replace HB : Aside0 (Below w0.heap.size w0 w5b) := ⟨by rw [hw]; exact (below_set HB.out (Nat.le_trans HW0.out GE.out))⟩; replace HK : Aside0 (Kept w w5b P0_) := ⟨by rw [hw]; exact (Kept.setCell (p := ⟨gb, 5, none⟩) HK.out (Or.inr GE.out) (.int .i64 a1))⟩; clear hw; obtain ⟨hczb2_0, hczb2_1, hczb2_2, hczb2_3, hczb2_4, hczb2_5, hczb2_6⟩ := cl7 BK; obtain ⟨hfzb2_0, hfzb2_1, hfzb2_2, hfzb2_3, hfzb2_4, hfzb2_5, hfzb2_6⟩ := fz7 BK) | ((with_reducible refine gate_builtin (b := .append) (xs := #[.tmp 21, .tmp 23]) rfl ?_); (try (refine gate_guard (by rfl) ?_; dsimp only)); at_builtin; refine Kd.S_append k38 (w0 := w0) w0.heap.size rfl (.tmp 21) (.tmp 23) 31 38 (.agg #[(.int .i64 0), (.int .i64 0), (.string ⟨#[]⟩), (.slice none 0 0), (.string ⟨#[]⟩), (.int .i64 0), (.slice none 0 0)]) 104 rfl Try.underlying31 info38 rfl (by decide) (by omega) (.slice A0 l0.length c0) l0 x [.int .i64 t0, .int .i64 t1, .string t2, .slice Ao t3.length co, .string t4, .int .i64 a1, .slice none 0 0] (fun k => P0_ k ∨ w.heap.size ≤ k) (fun k => some k = (.slice Ao t3.length co : Value).ownBlock) rfl rfl ?aP ?aK ?aF ?aO ?aB ?aS ?aL ?_; (case aP => rw [← HX.out]; exact k38_mkM _ _ _ (⟨t0, t1, t2, t3, t4, a1, ([] : List Int)⟩ : S38) (Kd.R_tight rfl HA.out) (Kd.R_nil _ _ _ _ _)); (case aK => exact fun k hk => ⟨Or.inr (HA.out.1 k hk.symm).1, fun e_ => by have h1_ := HL.out k e_.symm; have h2_ := (HA.out.1 k hk.symm).1; omega⟩); (case aB => exact HB.out); (case aF => exact fun k hk => Or.inr (Nat.le_trans HK.out.1 hk)); (case aO => exact Kd.S_mono HS.out (fun k hk => ⟨Or.inl hk.1, fun e_ => by have h1_ := hk.2; have h2_ := (HA.out.1 k e_.symm).1; omega⟩)); (case aS => exact below_size HB.out); (case aL => have := CL.out; omega); intro v6 w6 ho hb hg hat; rw [HY.out] at ho; replace HK := am (Kept.of_grown (S := P0_) hg HK.out (fun k e_ => Or.inl ((Kd.S_R HS.out).1 k e_).1)); replace HB := am hb; have HO := am ho; clear hg hb ho hat BK HA HS; obtain ⟨g, cap, eg, gb2, gl, cells, HG⟩ := Kd.S_form HO.out (by have := CLE.out; omega); subst eg; have HGP := am ((Kd.S_R HO.out).1 g rfl); have GB := am gb2; have GL := am gl; clear gb2 gl HG; obtain ⟨A6_, c6_, hx6, hf6, hl6, hr6, hback⟩ := S_kids_store HO.out a1 P1.out Q1.out (fun k hk => Or.inr (Nat.le_trans HK.out.1 hk)) GL.out; have HR6 := am hr6; have HBK := am hback; have HF6 := am (hf6 6); have HX6 := am hx6; have HL6 := am hl6; clear hr6 hback hf6 hl6; have p1_ := eq_true P1.out; have q1_ := eq_true Q1.out) | ((with_reducible refine gate_dst (N := 40) rfl ?_); (try (refine gate_guard (by rfl) ?_; dsimp only)); refine Kd.R_lit (Kd.int .i64) _ 3 ?hg (N := 40) ?hd (xs := ([] : List Int)) (inner := []) (ok := fun _ => True) (okp := fun _ => True) ?hr ?hp (fun _ hk => hk) trivial (Below.refl _ _) (Nat.le_refl _) (by simp) ?_; (case hd => rfl); (case hg => rfl); (case hr => first | (go_simp; done) | (go_simp; rfl)); (case hp => exact (Reps.none _ _)); intro v7 w7 ho7 hb hg_ hnew_; clear hg_ hnew_; have HQ := am (show Below w6.heap.size w6 w7 from hb); have HO7 := am (show Kd.R (Kd.int .i64) 3 w7 w6.heap.size (fun _ => True) v7 ([] : List Int) from ho7); clear hb ho7; obtain ⟨i07, hi07, _, hsz7, _⟩ := info_parts info3; have hcut7 := cut_to (P := Try.prog) 23 3 .i64 Try.underlying23 hi07 A6_ (rd_T38 y a1).f6.length c6_ ((rd_T38 y a1).f6.length : Int) PAT.out QAT.out HL6.out; have hr7 := Kd.C_take (m := (((rd_T38 y a1).f6.length : Int)).toNat) (Kd.R_reads' HR6.out).2.2 (by have := QAT.out; have := PAT.out; omega); rw [← HY7.out] at hr7; rw [← KY7.out] at hcut7; have HR7 := am (show Kd.C (Kd.int .i64) w6 A6_ y7.length y7 from hr7); clear hr7 hi07 hsz7) | ((with_reducible refine gate_builtin (b := .append) (xs := #[.tmp 40, .tmp 43]) rfl ?_); (try (refine gate_guard (by rfl) ?_; dsimp only)); at_builtin; refine Kd.R_append_rows (Kd.int .i64) (w0 := w6) w6.heap.size rfl (.tmp 40) (.tmp 43) 23 3 (.int .i64 0) 8 rfl Try.underlying23 info3 rfl (by decide) (by omega) v7 ([] : List Int) y7 _ _ _ (fun _ => True) (fun _ => False) rfl rfl ?aO ?aR (fun _ _ h => h) (fun _ h => h.elim) ?aF ?aB ?aS ?aL ?_; (case aR => exact Kd.C_below HR7.out HQ.out); (case aB => exact HQ.out); (case aF => exact fun _ _ => trivial); (case aO => exact Kd.R_mono HO7.out (fun _ _ => by simp)); (case aS => exact below_size HQ.out); (case aL => have h1_ := C6.out; have h2_ := PAT.out; have h3_ := QAT.out; have h4_ := KY7.out; have h5_ := KY12.out; simp only [List.length_nil, List.length_append, List.length_cons]; omega); intro v8 w8 ho hb hg hat; replace HQ := am hb; have HO8 := am (show Kd.R (Kd.int .i64) 3 w8 w6.heap.size (fun _ => True) v8 y7 from ho); clear ho hb hg hat HO7) | ((with_reducible refine gate_builtin (b := .append) (xs := #[.tmp 45, .tmp 47]) rfl ?_); (try (refine gate_guard (by rfl) ?_; dsimp only)); at_builtin; refine Kd.R_append (Kd.int .i64) (w0 := w6) w6.heap.size rfl (.tmp 45) (.tmp 47) 23 3 (.int .i64 0) 8 rfl Try.underlying23 info3 rfl (by decide) (by omega) v8 y7 (l0.length : Int) [.int .i64 (l0.length : Int)] (fun _ => True) (fun _ => False) rfl rfl ?aP (fun _ hk => hk.elim) ?aF ?aO ?aB ?aS ?aL ?_; (case aP => exact rfl); (case aB => exact HQ.out); (case aF => exact fun _ _ => trivial); (case aO => exact Kd.R_mono HO8.out (fun _ _ => by simp)); (case aS => exact below_size HQ.out); (case aL => have h1_ := C6.out; have h2_ := PAT.out; have h3_ := QAT.out; have h4_ := KY7.out; omega); intro v9 w9 ho hb hg hat; replace HQ := am hb; have HO9 := am ho; clear ho hb hg hat HO8; obtain ⟨i012, hi012, _, hsz12, _⟩ := info_parts info3; have hcut12 := cut_from (P := Try.prog) 23 3 .i64 Try.underlying23 hi012 1 hsz12 A6_ (rd_T38 y a1).f6.length c6_ ((rd_T38 y a1).f6.length : Int) PAT.out QAT.out; have hr12 := Kd.C_drop (m := (((rd_T38 y a1).f6.length : Int)).toNat) (c := c6_) (Kd.R_reads' HR6.out).2.2 (by have h2_ := PAT.out; have h3_ := QAT.out; omega) HL6.out; obtain ⟨A12, hA12⟩ : ∃ A1, A1 = (if c6_ = (((rd_T38 y a1).f6.length : Int)).toNat then A6_ else (A6_ : Option Addr).map (·.add ((((rd_T38 y a1).f6.length : Int)).toNat * 1))) := ⟨_, rfl⟩; obtain ⟨c12, hc12⟩ : ∃ c1, c1 = c6_ - (((rd_T38 y a1).f6.length : Int)).toNat := ⟨_, rfl⟩; rw [← HY12.out] at hr12; replace hr12 : Kd.C (Kd.int .i64) _ A12 y12.length y12 := (by rw [hA12]; exact hr12); rw [← KY12.out, ← hA12, ← hc12] at hcut12; have HR12 := am hr12; have KA12 := am hA12; have KC12 := am hc12; clear hr12 hi012 hsz12 hA12 hc12) | ((with_reducible refine gate_builtin (b := .append) (xs := #[.tmp 51, .tmp 54]) rfl ?_); (try (refine gate_guard (by rfl) ?_; dsimp only)); at_builtin; refine Kd.R_append_rows (Kd.int .i64) (w0 := w6) w6.heap.size rfl (.tmp 51) (.tmp 54) 23 3 (.int .i64 0) 8 rfl Try.underlying23 info3 rfl (by decide) (by omega) v9 (y7 ++ [(l0.length : Int)]) y12 _ _ _ (fun _ => True) (fun _ => False) rfl rfl ?aO ?aR (fun _ _ h => h) (fun _ h => h.elim) ?aF ?aB ?aS ?aL ?_; (case aR => exact Kd.C_below HR12.out HQ.out); (case aB => exact HQ.out); (case aF => exact fun _ _ => trivial); (case aO => exact Kd.R_mono HO9.out (fun _ _ => by simp)); (case aS => exact below_size HQ.out); (case aL => have h1_ := C6.out; have h2_ := PAT.out; have h3_ := QAT.out; have h4_ := KY7.out; have h5_ := KY12.out; simp only [List.length_nil, List.length_append, List.length_cons]; omega); intro v10 w10 ho hb hg hat; replace HQ := am hb; rw [← HRR.out] at ho; obtain ⟨Av, cv, ev⟩ := Kd.R_slice ho; subst ev; have HST := am (HBK.out w10 _ _ (Kd.R_lower (Kd.R_mono (Kd.R_bound ho) (fun k hk => Or.inr hk.2.1)) (below_size HB.out)) (Kept.of_below HQ.out _)); have hx8 : w10.cell? ⟨g, a1.toNat * 7 + 6, none⟩ = some (.slice A6_ (rd_T38 y a1).f6.length c6_) := cell_kept HX6.out (Kept.of_below HQ.out (fun _ => False)) (fun h_ => h_); have hf8 : w10.frozen? ⟨g, a1.toNat * 7 + 6, none⟩ = false := (by have := HF6.out; unfold World.frozen? at this ⊢; rw [HQ.out.block g GL.out]; exact this); replace HK := am (Kept.below HK.out HQ.out); replace HB := am (below_step HB.out HQ.out); clear ho hb hg hat HO9) | ((with_reducible refine gate_store (t := 23) (p := 57) rfl ?_); refine store_event (t := 23) (p := 57) (v := ?vo57) (w1 := (w10.setCell ⟨g, a1.toNat * 7 + 6, none⟩ (.slice Av r6.length cv))) ?hg ?ho ?hn ?hr ?_; (case ho => rfl); (case hg => rfl); (case hn => rfl); (case hr => first | (go_simp; done) | (go_simp; rfl)); intro w11 hw; have HZ : Aside0 (Below w0.heap.size w0 w11) := ⟨by rw [hw]; exact below_set HB.out GB.out⟩; have HKZ : Aside0 (Kept w w11 P0_) := ⟨by rw [hw]; exact Kept.setCell HK.out HGP.out _⟩; rw [← hw] at HST; clear hw))
  go_ret2
  exact ⟨_, by first | rfl | (simp <;> rfl), HST.out.1, HZ.out, HKZ.out⟩
 go_enter Try.func21, Try.ntmps21
 go_wp2_with (first | ((with_reducible refine gd_ 7 ?_); (try (refine gate_guard (by rfl) ?_; dsimp only)); refine bx_ 7 (cs := #[.int .i64 a3_0, .int .i64 a3_1, .string a3_2, .slice A3_3 l3_3.length c3_3, .string a3_4, .int .i64 a3_5, .slice A3_6 l3_6.length c3_6]) 38 ?_; intro ga hg w1 hbox hb; replace HS := am (Kd.S_below HS.out hb); replace HB := am (below_step HB.out hb); replace HK := am (Kept.below HK.out hb); replace HR3 := am (Kd.C_below HR3.out hb); replace HR6a := am (Kd.C_below HR6a.out hb); have BA := am hbox; clear hb hbox hg; obtain ⟨hczz_0, hczz_1, hczz_2, hczz_3, hczz_4, hczz_5, hczz_6⟩ := cl7 BA; obtain ⟨hfzz_0, hfzz_1, hfzz_2, hfzz_3, hfzz_4, hfzz_5, hfzz_6⟩ := fz7 BA) | ((with_reducible refine gate_callee (f := 42) rfl ?_); refine goesL_ (some 17) rfl rfl Try.func42 (by kernel_rfl) rfl #[.agg #[.int .i64 a3_0, .int .i64 a3_1, .string a3_2, .slice A3_3 l3_3.length c3_3, .string a3_4, .int .i64 a3_5, .slice A3_6 l3_6.length c3_6]] rfl ab5 ?_; (with_reducible refine (spec_l6Item.calls a3_0 a3_1 a3_2 _ _ l3_3 a3_4 a3_5 _ _ l3_6 t0 t1 t2 t3 t4 t5 t6 _ HR3.out HC3.out HR6a.out HC6a.out A6.out).mono ?_); rintro e w2 ⟨v3, v6_, rfl, ho0, ho1, hb⟩; refine ⟨_, rfl, ?_⟩; obtain ⟨Ao, co, eo⟩ := Kd.R_slice ho0; subst eo; obtain ⟨Ap, cp, eo⟩ := Kd.R_slice ho1; subst eo; have HA : Aside0 (Kd.R k69 69 w2 w0.heap.size (fun k => w.heap.size ≤ k ∧ k < w2.heap.size) (.slice Ao t3.length co) t3) := ⟨Kd.R_lower (Kd.R_mono (Kd.R_bound ho0) (fun k hk => ⟨Nat.le_trans HK.out.1 hk.2.1, hk.2.2.1⟩)) (below_size HB.out)⟩; replace HS := am (Kd.S_below HS.out hb); replace HB := am (below_step HB.out hb); replace HK := am (Kept.below HK.out hb); clear ho0 ho1 hb HR3 HR6a BA) | ((with_reducible refine gd_ 11 ?_); (try (refine gate_guard (by rfl) ?_; dsimp only)); refine bx_ 11 (cs := #[.int .i64 0, .int .i64 0, .string (⟨#[]⟩ : ByteArray), .slice none 0 0, .string (⟨#[]⟩ : ByteArray), .int .i64 0, .slice none 0 0]) 38 ?_; intro gb hg w3 hbox hb; have GE := am (show w.heap.size ≤ gb by rw [hg]; exact HK.out.1); have HNE := am (fun (k : Nat) (hk : P0_ k ∧ k < w.heap.size) => (by have := hk.2; have := GE.out; omega : k ≠ gb)); replace HA : Aside0 (Kd.R k69 69 w3 w0.heap.size (fun k => w.heap.size ≤ k ∧ k ≠ gb) (.slice Ao t3.length co) t3) := ⟨Kd.R_mono (Kd.R_below HA.out hb) (fun k hk => ⟨hk.1, by have := hk.2; omega⟩)⟩; replace HS := am (Kd.S_below HS.out hb); replace HB := am (below_step HB.out hb); replace HK := am (Kept.below HK.out hb); have BK := am hbox; clear hb hbox hg; obtain ⟨hczy_0, hczy_1, hczy_2, hczy_3, hczy_4, hczy_5, hczy_6⟩ := cl7 BK; obtain ⟨hfzy_0, hfzy_1, hfzy_2, hfzy_3, hfzy_4, hfzy_5, hfzy_6⟩ := fz7 BK) | ((with_reducible refine gate_store (t := 38) (p := 11) rfl ?_); refine store_event (t := 38) (p := 11) (v := ?vo11) (w1 := (((((((w3.setCell ⟨gb, 0, none⟩ (.int .i64 t0)).setCell ⟨gb, 1, none⟩ (.int .i64 t1)).setCell ⟨gb, 2, none⟩ (.string t2)).setCell ⟨gb, 3, none⟩ (.slice Ao t3.length co)).setCell ⟨gb, 4, none⟩ (.string t4)).setCell ⟨gb, 5, none⟩ (.int .i64 t5)).setCell ⟨gb, 6, none⟩ (.slice Ap t6.length cp))) ?hg ?ho ?hn ?hr ?_; (case ho => rfl); (case hg => rfl); (case hn => rfl); (case hr => first | (go_simp; done) | (go_simp; rfl)); intro w4 hw; replace HA : Aside0 (Kd.R k69 69 w4 w0.heap.size (fun k => w.heap.size ≤ k ∧ k ≠ gb) (.slice Ao t3.length co) t3) := ⟨by rw [hw]; exact (Kd.R_far (p := ⟨gb, 6, none⟩) (Kd.R_far (p := ⟨gb, 5, none⟩) (Kd.R_far (p := ⟨gb, 4, none⟩) (Kd.R_far (p := ⟨gb, 3, none⟩) (Kd.R_far (p := ⟨gb, 2, none⟩) (Kd.R_far (p := ⟨gb, 1, none⟩) (Kd.R_far (p := ⟨gb, 0, none⟩) HA.out (fun _ hk => hk.2) (.int .i64 t0)) (fun _ hk => hk.2) (.int .i64 t1)) (fun _ hk => hk.2) (.string t2)) (fun _ hk => hk.2) (.slice Ao t3.length co)) (fun _ hk => hk.2) (.string t4)) (fun _ hk => hk.2) (.int .i64 t5)) (fun _ hk => hk.2) (.slice Ap t6.length cp))⟩; replace HS : Aside0 (Kd.S k38 38 w4 w0.heap.size (fun k => P0_ k ∧ k < w.heap.size) (.slice A0 l0.length c0) l0) := ⟨by rw [hw]; exact (Kd.S_far (p := ⟨gb, 6, none⟩) (Kd.S_far (p := ⟨gb, 5, none⟩) (Kd.S_far (p := ⟨gb, 4, none⟩) (Kd.S_far (p := ⟨gb, 3, none⟩) (Kd.S_far (p := ⟨gb, 2, none⟩) (Kd.S_far (p := ⟨gb, 1, none⟩) (Kd.S_far (p := ⟨gb, 0, none⟩) HS.out (fun k hk => HNE.out k hk) (.int .i64 t0)) (fun k hk => HNE.out k hk) (.int .i64 t1)) (fun k hk => HNE.out k hk) (.string t2)) (fun k hk => HNE.out k hk) (.slice Ao t3.length co)) (fun k hk => HNE.out k hk) (.string t4)) (fun k hk => HNE.out k hk) (.int .i64 t5)) (fun k hk => HNE.out k hk) (.slice Ap t6.length cp))⟩; replace BK : Aside0 (w4.heap[gb]? = some (.cells #[.int .i64 t0, .int .i64 t1, .string t2, .slice Ao t3.length co, .string t4, .int .i64 t5, .slice Ap t6.length cp] 38 (0, 0))) := ⟨by rw [hw]; refine blk_put (cs := #[.int .i64 t0, .int .i64 t1, .string t2, .slice Ao t3.length co, .string t4, .int .i64 t5, .slice none 0 0]) ?_ 6 _ rfl; refine blk_put (cs := #[.int .i64 t0, .int .i64 t1, .string t2, .slice Ao t3.length co, .string t4, .int .i64 0, .slice none 0 0]) ?_ 5 _ rfl; refine blk_put (cs := #[.int .i64 t0, .int .i64 t1, .string t2, .slice Ao t3.length co, .string (⟨#[]⟩ : ByteArray), .int .i64 0, .slice none 0 0]) ?_ 4 _ rfl; refine blk_put (cs := #[.int .i64 t0, .int .i64 t1, .string t2, .slice none 0 0, .string (⟨#[]⟩ : ByteArray), .int .i64 0, .slice none 0 0]) ?_ 3 _ rfl; refine blk_put (cs := #[.int .i64 t0, .int .i64 t1, .string (⟨#[]⟩ : ByteArray), .slice none 0 0, .string (⟨#[]⟩ : ByteArray), .int .i64 0, .slice none 0 0]) ?_ 2 _ rfl; refine blk_put (cs := #[.int .i64 t0, .int .i64 0, .string (⟨#[]⟩ : ByteArray), .slice none 0 0, .string (⟨#[]⟩ : ByteArray), .int .i64 0, .slice none 0 0]) ?_ 1 _ rfl; refine blk_put (cs := #[.int .i64 0, .int .i64 0, .string (⟨#[]⟩ : ByteArray), .slice none 0 0, .string (⟨#[]⟩ : ByteArray), .int .i64 0, .slice none 0 0]) ?_ 0 _ rfl; exact BK.out⟩; replace HB : Aside0 (Below w0.heap.size w0 w4) := ⟨by rw [hw]; exact (below_set (below_set (below_set (below_set (below_set (below_set (below_set HB.out (Nat.le_trans HW0.out GE.out)) (Nat.le_trans HW0.out GE.out)) (Nat.le_trans HW0.out GE.out)) (Nat.le_trans HW0.out GE.out)) (Nat.le_trans HW0.out GE.out)) (Nat.le_trans HW0.out GE.out)) (Nat.le_trans HW0.out GE.out))⟩; replace HK : Aside0 (Kept w w4 P0_) := ⟨by rw [hw]; exact (Kept.setCell (p := ⟨gb, 6, none⟩) (Kept.setCell (p := ⟨gb, 5, none⟩) (Kept.setCell (p := ⟨gb, 4, none⟩) (Kept.setCell (p := ⟨gb, 3, none⟩) (Kept.setCell (p := ⟨gb, 2, none⟩) (Kept.setCell (p := ⟨gb, 1, none⟩) (Kept.setCell (p := ⟨gb, 0, none⟩) HK.out (Or.inr GE.out) (.int .i64 t0)) (Or.inr GE.out) (.int .i64 t1)) (Or.inr GE.out) (.string t2)) (Or.inr GE.out) (.slice Ao t3.length co)) (Or.inr GE.out) (.string t4)) (Or.inr GE.out) (.int .i64 t5)) (Or.inr GE.out) (.slice Ap t6.length cp))⟩; clear hw; obtain ⟨hczb0_0, hczb0_1, hczb0_2, hczb0_3, hczb0_4, hczb0_5, hczb0_6⟩ := cl7 BK; obtain ⟨hfzb0_0, hfzb0_1, hfzb0_2, hfzb0_3, hfzb0_4, hfzb0_5, hfzb0_6⟩ := fz7 BK) | ((with_reducible refine gate_store (t := 23) (p := 18) rfl ?_); refine store_event (t := 23) (p := 18) (v := ?vo18) (w1 := (w4.setCell ⟨gb, 6, none⟩ (.slice none 0 0))) ?hg ?ho ?hn ?hr ?_; (case ho => rfl); (case hg => rfl); (case hn => rfl); (case hr => first | (go_simp; done) | (go_simp; rfl)); intro w5 hw; replace HA : Aside0 (Kd.R k69 69 w5 w0.heap.size (fun k => w.heap.size ≤ k ∧ k ≠ gb) (.slice Ao t3.length co) t3) := ⟨by rw [hw]; exact (Kd.R_far (p := ⟨gb, 6, none⟩) HA.out (fun _ hk => hk.2) (.slice none 0 0))⟩; replace HS : Aside0 (Kd.S k38 38 w5 w0.heap.size (fun k => P0_ k ∧ k < w.heap.size) (.slice A0 l0.length c0) l0) := ⟨by rw [hw]; exact (Kd.S_far (p := ⟨gb, 6, none⟩) HS.out (fun k hk => HNE.out k hk) (.slice none 0 0))⟩; replace BK : Aside0 (w5.heap[gb]? = some (.cells #[.int .i64 t0, .int .i64 t1, .string t2, .slice Ao t3.length co, .string t4, .int .i64 t5, .slice none 0 0] 38 (0, 0))) := ⟨by rw [hw]; refine blk_put (cs := #[.int .i64 t0, .int .i64 t1, .string t2, .slice Ao t3.length co, .string t4, .int .i64 t5, .slice Ap t6.length cp]) ?_ 6 _ rfl; exact BK.out⟩; replace HB : Aside0 (Below w0.heap.size w0 w5) := ⟨by rw [hw]; exact (below_set HB.out (Nat.le_trans HW0.out GE.out))⟩; replace HK : Aside0 (Kept w w5 P0_) := ⟨by rw [hw]; exact (Kept.setCell (p := ⟨gb, 6, none⟩) HK.out (Or.inr GE.out) (.slice none 0 0))⟩; clear hw; obtain ⟨hczb1_0, hczb1_1, hczb1_2, hczb1_3, hczb1_4, hczb1_5, hczb1_6⟩ := cl7 BK; obtain ⟨hfzb1_0, hfzb1_1, hfzb1_2, hfzb1_3, hfzb1_4, hfzb1_5, hfzb1_6⟩ := fz7 BK) | ((with_reducible refine gate_store (t := 3) (p := 20) rfl ?_); refine store_event (t := 3) (p := 20) (v := ?vo20) (w1 := (w5.setCell ⟨gb, 5, none⟩ (.int .i64 a1))) ?hg ?ho ?hn ?hr ?_; (case ho => rfl); (case hg => rfl); (case hn => rfl); (case hr => first | (go_simp; done) | (go_simp; rfl)); intro w5b hw; replace HA : Aside0 (Kd.R k69 69 w5b w0.heap.size (fun k => w.heap.size ≤ k ∧ k ≠ gb) (.slice Ao t3.length co) t3) := ⟨by rw [hw]; exact (Kd.R_far (p := ⟨gb, 5, none⟩) HA.out (fun _ hk => hk.2) (.int .i64 a1))⟩; replace HS : Aside0 (Kd.S k38 38 w5b w0.heap.size (fun k => P0_ k ∧ k < w.heap.size) (.slice A0 l0.length c0) l0) := ⟨by rw [hw]; exact (Kd.S_far (p := ⟨gb, 5, none⟩) HS.out (fun k hk => HNE.out k hk) (.int .i64 a1))⟩; replace BK : Aside0 (w5b.heap[gb]? = some (.cells #[.int .i64 t0, .int .i64 t1, .string t2, .slice Ao t3.length co, .string t4, .int .i64 a1, .slice none 0 0] 38 (0, 0))) := ⟨by rw [hw]; refine blk_put (cs := #[.int .i64 t0, .int .i64 t1, .string t2, .slice Ao t3.length co, .string t4, .int .i64 t5, .slice none 0 0]) ?_ 5 _ rfl; exact BK.out⟩; replace HB : Aside0 (Below w0.heap.size w0 w5b) := ⟨by rw [hw]; exact (below_set HB.out (Nat.le_trans HW0.out GE.out))⟩; replace HK : Aside0 (Kept w w5b P0_) := ⟨by rw [hw]; exact (Kept.setCell (p := ⟨gb, 5, none⟩) HK.out (Or.inr GE.out) (.int .i64 a1))⟩; clear hw; obtain ⟨hczb2_0, hczb2_1, hczb2_2, hczb2_3, hczb2_4, hczb2_5, hczb2_6⟩ := cl7 BK; obtain ⟨hfzb2_0, hfzb2_1, hfzb2_2, hfzb2_3, hfzb2_4, hfzb2_5, hfzb2_6⟩ := fz7 BK) | ((with_reducible refine gate_builtin (b := .append) (xs := #[.tmp 21, .tmp 23]) rfl ?_); (try (refine gate_guard (by rfl) ?_; dsimp only)); at_builtin; refine Kd.S_append k38 (w0 := w0) w0.heap.size rfl (.tmp 21) (.tmp 23) 31 38 (.agg #[(.int .i64 0), (.int .i64 0), (.string ⟨#[]⟩), (.slice none 0 0), (.string ⟨#[]⟩), (.int .i64 0), (.slice none 0 0)]) 104 rfl Try.underlying31 info38 rfl (by decide) (by omega) (.slice A0 l0.length c0) l0 x [.int .i64 t0, .int .i64 t1, .string t2, .slice Ao t3.length co, .string t4, .int .i64 a1, .slice none 0 0] (fun k => P0_ k ∨ w.heap.size ≤ k) (fun k => some k = (.slice Ao t3.length co : Value).ownBlock) rfl rfl ?aP ?aK ?aF ?aO ?aB ?aS ?aL ?_; (case aP => rw [← HX.out]; exact k38_mkM _ _ _ (⟨t0, t1, t2, t3, t4, a1, ([] : List Int)⟩ : S38) (Kd.R_tight rfl HA.out) (Kd.R_nil _ _ _ _ _)); (case aK => exact fun k hk => ⟨Or.inr (HA.out.1 k hk.symm).1, fun e_ => by have h1_ := HL.out k e_.symm; have h2_ := (HA.out.1 k hk.symm).1; omega⟩); (case aB => exact HB.out); (case aF => exact fun k hk => Or.inr (Nat.le_trans HK.out.1 hk)); (case aO => exact Kd.S_mono HS.out (fun k hk => ⟨Or.inl hk.1, fun e_ => by have h1_ := hk.2; have h2_ := (HA.out.1 k e_.symm).1; omega⟩)); (case aS => exact below_size HB.out); (case aL => have := CL.out; omega); intro v6 w6 ho hb hg hat; rw [HY.out] at ho; replace HK := am (Kept.of_grown (S := P0_) hg HK.out (fun k e_ => Or.inl ((Kd.S_R HS.out).1 k e_).1)); replace HB := am hb; have HO := am ho; clear hg hb ho hat BK HA HS; obtain ⟨g, cap, eg, gb2, gl, cells, HG⟩ := Kd.S_form HO.out (by have := CLE.out; omega); subst eg; have HGP := am ((Kd.S_R HO.out).1 g rfl); have GB := am gb2; have GL := am gl; clear gb2 gl HG; obtain ⟨A6_, c6_, hx6, hf6, hl6, hr6, hback⟩ := S_kids_store HO.out a1 P1.out Q1.out (fun k hk => Or.inr (Nat.le_trans HK.out.1 hk)) GL.out; have HR6 := am hr6; have HBK := am hback; have HF6 := am (hf6 6); have HX6 := am hx6; have HL6 := am hl6; clear hr6 hback hf6 hl6; have p1_ := eq_true P1.out; have q1_ := eq_true Q1.out) | ((with_reducible refine gate_dst (N := 40) rfl ?_); (try (refine gate_guard (by rfl) ?_; dsimp only)); refine Kd.R_lit (Kd.int .i64) _ 3 ?hg (N := 40) ?hd (xs := ([] : List Int)) (inner := []) (ok := fun _ => True) (okp := fun _ => True) ?hr ?hp (fun _ hk => hk) trivial (Below.refl _ _) (Nat.le_refl _) (by simp) ?_; (case hd => rfl); (case hg => rfl); (case hr => first | (go_simp; done) | (go_simp; rfl)); (case hp => exact (Reps.none _ _)); intro v7 w7 ho7 hb hg_ hnew_; clear hg_ hnew_; have HQ := am (show Below w6.heap.size w6 w7 from hb); have HO7 := am (show Kd.R (Kd.int .i64) 3 w7 w6.heap.size (fun _ => True) v7 ([] : List Int) from ho7); clear hb ho7; obtain ⟨i07, hi07, _, hsz7, _⟩ := info_parts info3; have hcut7 := cut_to (P := Try.prog) 23 3 .i64 Try.underlying23 hi07 A6_ (rd_T38 y a1).f6.length c6_ a2 PAT.out QAT.out HL6.out; have hr7 := Kd.C_take (m := (a2).toNat) (Kd.R_reads' HR6.out).2.2 (by have := QAT.out; have := PAT.out; omega); rw [← HY7.out] at hr7; rw [← KY7.out] at hcut7; have HR7 := am (show Kd.C (Kd.int .i64) w6 A6_ y7.length y7 from hr7); clear hr7 hi07 hsz7) | ((with_reducible refine gate_builtin (b := .append) (xs := #[.tmp 40, .tmp 43]) rfl ?_); (try (refine gate_guard (by rfl) ?_; dsimp only)); at_builtin; refine Kd.R_append_rows (Kd.int .i64) (w0 := w6) w6.heap.size rfl (.tmp 40) (.tmp 43) 23 3 (.int .i64 0) 8 rfl Try.underlying23 info3 rfl (by decide) (by omega) v7 ([] : List Int) y7 _ _ _ (fun _ => True) (fun _ => False) rfl rfl ?aO ?aR (fun _ _ h => h) (fun _ h => h.elim) ?aF ?aB ?aS ?aL ?_; (case aR => exact Kd.C_below HR7.out HQ.out); (case aB => exact HQ.out); (case aF => exact fun _ _ => trivial); (case aO => exact Kd.R_mono HO7.out (fun _ _ => by simp)); (case aS => exact below_size HQ.out); (case aL => have h1_ := C6.out; have h2_ := PAT.out; have h3_ := QAT.out; have h4_ := KY7.out; have h5_ := KY12.out; simp only [List.length_nil, List.length_append, List.length_cons]; omega); intro v8 w8 ho hb hg hat; replace HQ := am hb; have HO8 := am (show Kd.R (Kd.int .i64) 3 w8 w6.heap.size (fun _ => True) v8 y7 from ho); clear ho hb hg hat HO7) | ((with_reducible refine gate_builtin (b := .append) (xs := #[.tmp 45, .tmp 47]) rfl ?_); (try (refine gate_guard (by rfl) ?_; dsimp only)); at_builtin; refine Kd.R_append (Kd.int .i64) (w0 := w6) w6.heap.size rfl (.tmp 45) (.tmp 47) 23 3 (.int .i64 0) 8 rfl Try.underlying23 info3 rfl (by decide) (by omega) v8 y7 (l0.length : Int) [.int .i64 (l0.length : Int)] (fun _ => True) (fun _ => False) rfl rfl ?aP (fun _ hk => hk.elim) ?aF ?aO ?aB ?aS ?aL ?_; (case aP => exact rfl); (case aB => exact HQ.out); (case aF => exact fun _ _ => trivial); (case aO => exact Kd.R_mono HO8.out (fun _ _ => by simp)); (case aS => exact below_size HQ.out); (case aL => have h1_ := C6.out; have h2_ := PAT.out; have h3_ := QAT.out; have h4_ := KY7.out; omega); intro v9 w9 ho hb hg hat; replace HQ := am hb; have HO9 := am ho; clear ho hb hg hat HO8; obtain ⟨i012, hi012, _, hsz12, _⟩ := info_parts info3; have hcut12 := cut_from (P := Try.prog) 23 3 .i64 Try.underlying23 hi012 1 hsz12 A6_ (rd_T38 y a1).f6.length c6_ a2 PAT.out QAT.out; have hr12 := Kd.C_drop (m := (a2).toNat) (c := c6_) (Kd.R_reads' HR6.out).2.2 (by have h2_ := PAT.out; have h3_ := QAT.out; omega) HL6.out; obtain ⟨A12, hA12⟩ : ∃ A1, A1 = (if c6_ = (a2).toNat then A6_ else (A6_ : Option Addr).map (·.add ((a2).toNat * 1))) := ⟨_, rfl⟩; obtain ⟨c12, hc12⟩ : ∃ c1, c1 = c6_ - (a2).toNat := ⟨_, rfl⟩; rw [← HY12.out] at hr12; replace hr12 : Kd.C (Kd.int .i64) _ A12 y12.length y12 := (by rw [hA12]; exact hr12); rw [← KY12.out, ← hA12, ← hc12] at hcut12; have HR12 := am hr12; have KA12 := am hA12; have KC12 := am hc12; clear hr12 hi012 hsz12 hA12 hc12) | ((with_reducible refine gate_builtin (b := .append) (xs := #[.tmp 51, .tmp 54]) rfl ?_); (try (refine gate_guard (by rfl) ?_; dsimp only)); at_builtin; refine Kd.R_append_rows (Kd.int .i64) (w0 := w6) w6.heap.size rfl (.tmp 51) (.tmp 54) 23 3 (.int .i64 0) 8 rfl Try.underlying23 info3 rfl (by decide) (by omega) v9 (y7 ++ [(l0.length : Int)]) y12 _ _ _ (fun _ => True) (fun _ => False) rfl rfl ?aO ?aR (fun _ _ h => h) (fun _ h => h.elim) ?aF ?aB ?aS ?aL ?_; (case aR => exact Kd.C_below HR12.out HQ.out); (case aB => exact HQ.out); (case aF => exact fun _ _ => trivial); (case aO => exact Kd.R_mono HO9.out (fun _ _ => by simp)); (case aS => exact below_size HQ.out); (case aL => have h1_ := C6.out; have h2_ := PAT.out; have h3_ := QAT.out; have h4_ := KY7.out; have h5_ := KY12.out; simp only [List.length_nil, List.length_append, List.length_cons]; omega); intro v10 w10 ho hb hg hat; replace HQ := am hb; rw [← HRR.out] at ho; obtain ⟨Av, cv, ev⟩ := Kd.R_slice ho; subst ev; have HST := am (HBK.out w10 _ _ (Kd.R_lower (Kd.R_mono (Kd.R_bound ho) (fun k hk => Or.inr hk.2.1)) (below_size HB.out)) (Kept.of_below HQ.out _)); have hx8 : w10.cell? ⟨g, a1.toNat * 7 + 6, none⟩ = some (.slice A6_ (rd_T38 y a1).f6.length c6_) := cell_kept HX6.out (Kept.of_below HQ.out (fun _ => False)) (fun h_ => h_); have hf8 : w10.frozen? ⟨g, a1.toNat * 7 + 6, none⟩ = false := (by have := HF6.out; unfold World.frozen? at this ⊢; rw [HQ.out.block g GL.out]; exact this); replace HK := am (Kept.below HK.out HQ.out); replace HB := am (below_step HB.out HQ.out); clear ho hb hg hat HO9) | ((with_reducible refine gate_store (t := 23) (p := 57) rfl ?_); refine store_event (t := 23) (p := 57) (v := ?vo57) (w1 := (w10.setCell ⟨g, a1.toNat * 7 + 6, none⟩ (.slice Av r6.length cv))) ?hg ?ho ?hn ?hr ?_; (case ho => rfl); (case hg => rfl); (case hn => rfl); (case hr => first | (go_simp; done) | (go_simp; rfl)); intro w11 hw; have HZ : Aside0 (Below w0.heap.size w0 w11) := ⟨by rw [hw]; exact below_set HB.out GB.out⟩; have HKZ : Aside0 (Kept w w11 P0_) := ⟨by rw [hw]; exact Kept.setCell HK.out HGP.out _⟩; rw [← hw] at HST; clear hw))
 go_ret2
 exact ⟨_, by first | rfl | (simp <;> rfl), HST.out.1, HZ.out, HKZ.out⟩
def laws_szIntS.f (l0 : List Int) (a1 : Int) : Option (Int) := if (wrap64 (a1 - (l0.length : Int))) < 0 then (some (-1)) else (some (wrap64 (a1 - (l0.length : Int))))
theorem laws_szIntS.calls (A0 : Option Addr) (c0 : Nat) (l0 : List Int) (a1 : Int) (r : Int) (w : World) (hr0 : Kd.C (Kd.int .i64) w A0 l0.length l0) (hc0 : l0.length ≤ c0) (h : laws_szIntS.f l0 a1 = some r) :
  Calls Try.prog 16 #[.slice A0 l0.length c0, .int .i64 a1] w fun e w' => e = .returned (.int .i64 r) ∧ Drawn0 w w' := by
 have HR0 := am hr0
 have HC0 := am hc0
 clear hr0 hc0
 have H : (if (wrap64 (a1 - (l0.length : Int))) < 0 then (some (-1)) else (some (wrap64 (a1 - (l0.length : Int))))) = some r := h
 clear h
 replace H := ir_ H; rcases H with ⟨c3b0, H⟩ | ⟨c3b0, H⟩
 ·obtain rfl := Option.some.inj H
  go_enter Try.func16, Try.ntmps16
  go_wp2
  go_ret
  exact ⟨ab6, by repeat (first | exact Drawn0.refl _ | apply Drawn0.step)⟩
 ·obtain rfl := Option.some.inj H
  go_enter Try.func16, Try.ntmps16
  go_wp2
  go_ret
  exact ⟨ab6, by repeat (first | exact Drawn0.refl _ | apply Drawn0.step)⟩
def laws_szAttr.f (a0_0 : ByteArray) (a0_1 : ByteArray) (a1 : Int) : Option (Int) := if (wrap64 (a1 - (a0_0.size : Int))) < 0 then (some (-1)) else (if (wrap64 ((wrap64 (a1 - (a0_0.size : Int))) - (a0_1.size : Int))) < 0 then (some (-1)) else (some (wrap64 ((wrap64 (a1 - (a0_0.size : Int))) - (a0_1.size : Int)))))
theorem laws_szAttr.calls (a0_0 : ByteArray) (a0_1 : ByteArray) (a1 : Int) (r : Int) (w : World) (h : laws_szAttr.f a0_0 a0_1 a1 = some r) :
  Calls Try.prog 36 #[.agg #[.string a0_0, .string a0_1], .int .i64 a1] w fun e w' => e = .returned (.int .i64 r) ∧ Below w.heap.size w w' := by
 have hu63 := Try.underlying63
 have HB := am (Below.refl w.heap.size w)
 have H : (if (wrap64 (a1 - (a0_0.size : Int))) < 0 then (some (-1)) else (if (wrap64 ((wrap64 (a1 - (a0_0.size : Int))) - (a0_1.size : Int))) < 0 then (some (-1)) else (some (wrap64 ((wrap64 (a1 - (a0_0.size : Int))) - (a0_1.size : Int)))))) = some r := h
 clear h
 replace H := ir_ H; rcases H with ⟨c3b0, H⟩ | ⟨c3b0, H⟩
 ·obtain rfl := Option.some.inj H
  go_enter Try.func36, Try.ntmps36
  go_wp2_with (first | ((with_reducible refine gd_ 2 ?_); refine bx_ 2 (cs := #[.string a0_0, .string a0_1]) 63 ?_; intro gb101 hg w4 hbox hb; have BK101 := am hbox; have GW101 := ge_ (w := w) hg; have GE101 := ge_ (w := w) hg; replace HB := am (below_step ab1 hb); clear hb hbox hg; obtain ⟨⟨_, _⟩, _, _⟩ := Op.cells2 BK101.out))
  go_ret
  exact ⟨ab7, ab2 GE101⟩
 ·replace H := ir_ H; rcases H with ⟨c6b0, H⟩ | ⟨c6b0, H⟩
  ·obtain rfl := Option.some.inj H
   go_enter Try.func36, Try.ntmps36
   go_wp2_with (first | ((with_reducible refine gd_ 2 ?_); refine bx_ 2 (cs := #[.string a0_0, .string a0_1]) 63 ?_; intro gb101 hg w7 hbox hb; have BK101 := am hbox; have GW101 := ge_ (w := w) hg; have GE101 := ge_ (w := w) hg; replace HB := am (below_step ab1 hb); clear hb hbox hg; obtain ⟨⟨_, _⟩, _, _⟩ := Op.cells2 BK101.out))
   go_ret
   exact ⟨ab7, ab2 GE101⟩
  ·obtain rfl := Option.some.inj H
   go_enter Try.func36, Try.ntmps36
   go_wp2_with (first | ((with_reducible refine gd_ 2 ?_); refine bx_ 2 (cs := #[.string a0_0, .string a0_1]) 63 ?_; intro gb101 hg w9 hbox hb; have BK101 := am hbox; have GW101 := ge_ (w := w) hg; have GE101 := ge_ (w := w) hg; replace HB := am (below_step ab1 hb); clear hb hbox hg; obtain ⟨⟨_, _⟩, _, _⟩ := Op.cells2 BK101.out))
   go_ret
   exact ⟨ab7, ab2 GE101⟩
def laws_szAttrS.l0 : Nat → List (S63) → Int → Int → Option (Int)
 | 0, _, _, _ => none
 | k + 1, x0, x1, x5 => if x5 < (x0.length : Int) then (if 0 ≤ x5 then ((laws_szAttr.f ((rd_T63 x0 x5).f0) ((rd_T63 x0 x5).f1) x1).bind fun t103 => (if t103 < 0 then (some (-1)) else (laws_szAttrS.l0 k x0 t103 (wrap64 (x5 + 1))))) else (none)) else (some x1)
def laws_szAttrS.f (k : Nat) (l0 : List (S63)) (a1 : Int) : Option (Int) := if (wrap64 (a1 - (l0.length : Int))) < 0 then (some (-1)) else (laws_szAttrS.l0 k l0 (wrap64 (a1 - (l0.length : Int))) 0)
theorem laws_szAttrS.calls (k : Nat) (A0 : Option Addr) (c0 : Nat) (l0 : List (S63)) (a1 : Int) (r : Int) (w : World) (hr0 : Kd.C k63 w A0 l0.length l0) (hc0 : l0.length ≤ c0) (h : laws_szAttrS.f k l0 a1 = some r) :
  Calls Try.prog 17 #[.slice A0 l0.length c0, .int .i64 a1] w fun e w' => e = .returned (.int .i64 r) ∧ Below w.heap.size w w' := by
 have hu63 := Try.underlying63
 have HR0 := am hr0
 have HC0 := am hc0
 clear hr0 hc0
 have HB := am (Below.refl w.heap.size w)
 have H : (if (wrap64 (a1 - (l0.length : Int))) < 0 then (some (-1)) else (laws_szAttrS.l0 k l0 (wrap64 (a1 - (l0.length : Int))) 0)) = some r := h
 clear h
 replace H := ir_ H; rcases H with ⟨c3b0, H⟩ | ⟨c3b0, H⟩
 ·obtain rfl := Option.some.inj H
  go_enter Try.func17, Try.ntmps17
  go_wp2
  go_ret
  exact ⟨ab7, ab1⟩
 ·have H' := am H
  clear H
  go_enter Try.func17, Try.ntmps17
  go_wp2
  go_loopg [1, 5] k (fun kq v1 v5 w' => ∃ (x1_1 : Int) (x5_1 : Int), v1 = .int .i64 x1_1 ∧ v5 = .int .i64 x5_1 ∧ Aside0 (laws_szAttrS.l0 kq l0 x1_1 x5_1 = some r) ∧ Aside0 (kq ≤ k) ∧ Aside0 (Below w.heap.size w w'))
  case atStart => exact ⟨(wrap64 (a1 - (l0.length : Int))), (0), ab6, ab6, H', ⟨Nat.le_refl _⟩, ⟨ab1⟩⟩
  case round =>
   clear H'
   (try clear c1); (try clear p2); (try clear c3); (try clear c3b0)
   obtain ⟨x1_1, x5_1, rfl, rfl, HA, HK1, HB⟩ := hrel
   cases gk with
   | zero => exact absurd HA.out (by simp [laws_szAttrS.l0])
   | succ k1 =>
    have H := HA.out
    clear HA
    simp only [laws_szAttrS.l0] at H
    replace H := ir_ H; rcases H with ⟨c4b0, H⟩ | ⟨c4b0, H⟩
    ·replace H := iq_ H; obtain ⟨c5b0, H⟩ := H
     replace H := bi_ H; obtain ⟨t103, A6, H⟩ := H
     replace H := ir_ H; rcases H with ⟨c7b0, H⟩ | ⟨c7b0, H⟩
     ·obtain rfl := Option.some.inj H
      have p102 : 0 ≤ (x5_1 : Int) := of_decide_eq_true ab4
      have q102 : x5_1 < (l0.length : Int) := of_decide_eq_true ab4
      obtain ⟨ad102, e102, hx102_0, hx102_1⟩ := at_T63 HR0.out x5_1 p102 q102
      cases e102
      replace hx102_0 := pc_ HB hx102_0
      replace hx102_1 := pc_ HB hx102_1
      replace p102 := eq_true p102
      replace q102 := eq_true q102
      go_wp2_with (first | ((with_reducible refine gf_ 36 ?_); refine gc_ Try.func36 (laws_szAttr.calls ((rd_T63 l0 x5_1).f0) ((rd_T63 l0 x5_1).f1) x1_1 t103 _ A6.out) ?_; rintro w8 hb; replace HB := am (below_step ab1 hb); (try clear hb); (try clear hb2); (try clear hk); (try clear hi)))
      go_ret
      exact ⟨ab7, ab1⟩
     ·have H' := am H
      clear H
      have p102 : 0 ≤ (x5_1 : Int) := of_decide_eq_true ab4
      have q102 : x5_1 < (l0.length : Int) := of_decide_eq_true ab4
      obtain ⟨ad102, e102, hx102_0, hx102_1⟩ := at_T63 HR0.out x5_1 p102 q102
      cases e102
      replace hx102_0 := pc_ HB hx102_0
      replace hx102_1 := pc_ HB hx102_1
      replace p102 := eq_true p102
      replace q102 := eq_true q102
      go_wp2_with (first | ((with_reducible refine gf_ 36 ?_); refine gc_ Try.func36 (laws_szAttr.calls ((rd_T63 l0 x5_1).f0) ((rd_T63 l0 x5_1).f1) x1_1 t103 _ A6.out) ?_; rintro w9 hb; replace HB := am (below_step ab1 hb); (try clear hb); (try clear hb2); (try clear hk); (try clear hi)))
      go_roundg k1
      case measure => have := HK1.out; omega
      case rel => exact ⟨(t103), (wrap64 (x5_1 + 1)), ab6, ab6, H', ⟨by have := HK1.out; omega⟩, ⟨ab1⟩⟩
    ·obtain rfl := Option.some.inj H
     go_wp2
     go_ret
     exact ⟨ab7, ab1⟩
def laws_szItem.f (k : Nat) (a0_0 : Int) (a0_1 : Int) (a0_2 : ByteArray) (l0_3 : List (S63)) (a0_4 : ByteArray) (a0_5 : Int) (l0_6 : List Int) (a1 : Int) : Option (Int) := if (wrap64 (a1 - (a0_2.size : Int))) < 0 then (some (-1)) else ((laws_szAttrS.f k l0_3 (wrap64 (a1 - (a0_2.size : Int)))).bind fun t105 => (if t105 < 0 then (some (-1)) else (if (wrap64 (t105 - (a0_4.size : Int))) < 0 then (some (-1)) else ((laws_szIntS.f l0_6 (wrap64 (t105 - (a0_4.size : Int)))).bind fun t106 => (if t106 < 0 then (some (-1)) else (some t106))))))
theorem laws_szItem.calls (k : Nat) (a0_0 : Int) (a0_1 : Int) (a0_2 : ByteArray) (A0_3 : Option Addr) (c0_3 : Nat) (l0_3 : List (S63)) (a0_4 : ByteArray) (a0_5 : Int) (A0_6 : Option Addr) (c0_6 : Nat) (l0_6 : List Int) (a1 : Int) (r : Int) (w : World) (hr0_3 : Kd.C k63 w A0_3 l0_3.length l0_3) (hc0_3 : l0_3.length ≤ c0_3) (hr0_6 : Kd.C (Kd.int .i64) w A0_6 l0_6.length l0_6) (hc0_6 : l0_6.length ≤ c0_6) (h : laws_szItem.f k a0_0 a0_1 a0_2 l0_3 a0_4 a0_5 l0_6 a1 = some r) :
  Calls Try.prog 5 #[.agg #[.int .i64 a0_0, .int .i64 a0_1, .string a0_2, .slice A0_3 l0_3.length c0_3, .string a0_4, .int .i64 a0_5, .slice A0_6 l0_6.length c0_6], .int .i64 a1] w fun e w' => e = .returned (.int .i64 r) ∧ Below w.heap.size w w' := by
 have hu28 := Try.underlying28
 have HR0_3 := am hr0_3
 have HC0_3 := am hc0_3
 clear hr0_3 hc0_3
 have HR0_6 := am hr0_6
 have HC0_6 := am hc0_6
 clear hr0_6 hc0_6
 have HB := am (Below.refl w.heap.size w)
 have H : (if (wrap64 (a1 - (a0_2.size : Int))) < 0 then (some (-1)) else ((laws_szAttrS.f k l0_3 (wrap64 (a1 - (a0_2.size : Int)))).bind fun t105 => (if t105 < 0 then (some (-1)) else (if (wrap64 (t105 - (a0_4.size : Int))) < 0 then (some (-1)) else ((laws_szIntS.f l0_6 (wrap64 (t105 - (a0_4.size : Int)))).bind fun t106 => (if t106 < 0 then (some (-1)) else (some t106))))))) = some r := h
 clear h
 replace H := ir_ H; rcases H with ⟨c3b0, H⟩ | ⟨c3b0, H⟩
 ·obtain rfl := Option.some.inj H
  go_enter Try.func5, Try.ntmps5
  go_wp2_with (first | ((with_reducible refine gd_ 2 ?_); refine bx_ 2 (cs := #[.int .i64 a0_0, .int .i64 a0_1, .string a0_2, .slice A0_3 l0_3.length c0_3, .string a0_4, .int .i64 a0_5, .slice A0_6 l0_6.length c0_6]) 28 ?_; intro gb104 hg w4 hbox hb; have BK104 := am hbox; have GW104 := ge_ (w := w) hg; have GE104 := ge_ (w := w) hg; replace HB := am (below_step ab1 hb); clear hb hbox hg; obtain ⟨⟨_, _, _, _, _, _, _⟩, _, _, _, _, _, _, _⟩ := Op.cells7 BK104.out))
  go_ret
  exact ⟨ab7, ab2 GE104⟩
 ·replace H := bi_ H; obtain ⟨t105, A6, H⟩ := H
  replace H := ir_ H; rcases H with ⟨c7b0, H⟩ | ⟨c7b0, H⟩
  ·obtain rfl := Option.some.inj H
   go_enter Try.func5, Try.ntmps5
   go_wp2_with (first | ((with_reducible refine gd_ 2 ?_); refine bx_ 2 (cs := #[.int .i64 a0_0, .int .i64 a0_1, .string a0_2, .slice A0_3 l0_3.length c0_3, .string a0_4, .int .i64 a0_5, .slice A0_6 l0_6.length c0_6]) 28 ?_; intro gb104 hg w8 hbox hb; have BK104 := am hbox; have GW104 := ge_ (w := w) hg; have GE104 := ge_ (w := w) hg; replace HB := am (below_step ab1 hb); clear hb hbox hg; obtain ⟨⟨_, _, _, _, _, _, _⟩, _, _, _, _, _, _, _⟩ := Op.cells7 BK104.out) | ((with_reducible refine gf_ 17 ?_); refine gc_ Try.func17 (laws_szAttrS.calls k _ _ l0_3 (wrap64 (a1 - (a0_2.size : Int))) t105 _ (sc_ HR0_3) HC0_3.out A6.out) ?_; rintro w10 hb; replace BK104 := bl_ BK104 hb; replace HB := am (below_step (ab2 GE104) hb); (try clear hb); (try clear hb2); (try clear hk); (try clear hi)))
   go_ret
   exact ⟨ab7, ab2 GE104⟩
  ·replace H := ir_ H; rcases H with ⟨c11b0, H⟩ | ⟨c11b0, H⟩
   ·obtain rfl := Option.some.inj H
    go_enter Try.func5, Try.ntmps5
    go_wp2_with (first | ((with_reducible refine gd_ 2 ?_); refine bx_ 2 (cs := #[.int .i64 a0_0, .int .i64 a0_1, .string a0_2, .slice A0_3 l0_3.length c0_3, .string a0_4, .int .i64 a0_5, .slice A0_6 l0_6.length c0_6]) 28 ?_; intro gb104 hg w12 hbox hb; have BK104 := am hbox; have GW104 := ge_ (w := w) hg; have GE104 := ge_ (w := w) hg; replace HB := am (below_step ab1 hb); clear hb hbox hg; obtain ⟨⟨_, _, _, _, _, _, _⟩, _, _, _, _, _, _, _⟩ := Op.cells7 BK104.out) | ((with_reducible refine gf_ 17 ?_); refine gc_ Try.func17 (laws_szAttrS.calls k _ _ l0_3 (wrap64 (a1 - (a0_2.size : Int))) t105 _ (sc_ HR0_3) HC0_3.out A6.out) ?_; rintro w14 hb; replace BK104 := bl_ BK104 hb; replace HB := am (below_step (ab2 GE104) hb); (try clear hb); (try clear hb2); (try clear hk); (try clear hi); obtain ⟨⟨_, _, _, _, _, _, _⟩, _, _, _, _, _, _, _⟩ := Op.cells7 BK104.out))
    go_ret
    exact ⟨ab7, ab2 GE104⟩
   ·replace H := bi_ H; obtain ⟨t106, A16, H⟩ := H
    replace H := ir_ H; rcases H with ⟨c17b0, H⟩ | ⟨c17b0, H⟩
    ·obtain rfl := Option.some.inj H
     go_enter Try.func5, Try.ntmps5
     go_wp2_with (first | ((with_reducible refine gd_ 2 ?_); refine bx_ 2 (cs := #[.int .i64 a0_0, .int .i64 a0_1, .string a0_2, .slice A0_3 l0_3.length c0_3, .string a0_4, .int .i64 a0_5, .slice A0_6 l0_6.length c0_6]) 28 ?_; intro gb104 hg w18 hbox hb; have BK104 := am hbox; have GW104 := ge_ (w := w) hg; have GE104 := ge_ (w := w) hg; replace HB := am (below_step ab1 hb); clear hb hbox hg; obtain ⟨⟨_, _, _, _, _, _, _⟩, _, _, _, _, _, _, _⟩ := Op.cells7 BK104.out) | ((with_reducible refine gf_ 17 ?_); refine gc_ Try.func17 (laws_szAttrS.calls k _ _ l0_3 (wrap64 (a1 - (a0_2.size : Int))) t105 _ (sc_ HR0_3) HC0_3.out A6.out) ?_; rintro w20 hb; replace BK104 := bl_ BK104 hb; replace HB := am (below_step (ab2 GE104) hb); (try clear hb); (try clear hb2); (try clear hk); (try clear hi); obtain ⟨⟨_, _, _, _, _, _, _⟩, _, _, _, _, _, _, _⟩ := Op.cells7 BK104.out) | ((with_reducible refine gf_ 16 ?_); refine gc_ Try.func16 (laws_szIntS.calls _ _ l0_6 (wrap64 (t105 - (a0_4.size : Int))) t106 _ (sc_ HR0_6) HC0_6.out A16.out) ?_; rintro w' ⟨nd, rfl⟩))
     go_ret
     exact ⟨ab7, ab2 GE104⟩
    ·obtain rfl := Option.some.inj H
     go_enter Try.func5, Try.ntmps5
     go_wp2_with (first | ((with_reducible refine gd_ 2 ?_); refine bx_ 2 (cs := #[.int .i64 a0_0, .int .i64 a0_1, .string a0_2, .slice A0_3 l0_3.length c0_3, .string a0_4, .int .i64 a0_5, .slice A0_6 l0_6.length c0_6]) 28 ?_; intro gb104 hg w22 hbox hb; have BK104 := am hbox; have GW104 := ge_ (w := w) hg; have GE104 := ge_ (w := w) hg; replace HB := am (below_step ab1 hb); clear hb hbox hg; obtain ⟨⟨_, _, _, _, _, _, _⟩, _, _, _, _, _, _, _⟩ := Op.cells7 BK104.out) | ((with_reducible refine gf_ 17 ?_); refine gc_ Try.func17 (laws_szAttrS.calls k _ _ l0_3 (wrap64 (a1 - (a0_2.size : Int))) t105 _ (sc_ HR0_3) HC0_3.out A6.out) ?_; rintro w24 hb; replace BK104 := bl_ BK104 hb; replace HB := am (below_step (ab2 GE104) hb); (try clear hb); (try clear hb2); (try clear hk); (try clear hi); obtain ⟨⟨_, _, _, _, _, _, _⟩, _, _, _, _, _, _, _⟩ := Op.cells7 BK104.out) | ((with_reducible refine gf_ 16 ?_); refine gc_ Try.func16 (laws_szIntS.calls _ _ l0_6 (wrap64 (t105 - (a0_4.size : Int))) t106 _ (sc_ HR0_6) HC0_6.out A16.out) ?_; rintro w' ⟨nd, rfl⟩))
     go_ret
     exact ⟨ab7, ab2 GE104⟩
def laws_szItemS.l0 : Nat → List (S28) → Int → Int → Option (Int)
 | 0, _, _, _ => none
 | k + 1, x0, x1, x5 => if x5 < (x0.length : Int) then (if 0 ≤ x5 then ((laws_szItem.f k ((rd_T28 x0 x5).f0) ((rd_T28 x0 x5).f1) ((rd_T28 x0 x5).f2) ((rd_T28 x0 x5).f3) ((rd_T28 x0 x5).f4) ((rd_T28 x0 x5).f5) ((rd_T28 x0 x5).f6) x1).bind fun t108 => (if t108 < 0 then (some (-1)) else (laws_szItemS.l0 k x0 t108 (wrap64 (x5 + 1))))) else (none)) else (some x1)
def laws_szItemS.f (k : Nat) (l0 : List (S28)) (a1 : Int) : Option (Int) := if (wrap64 (a1 - (l0.length : Int))) < 0 then (some (-1)) else (laws_szItemS.l0 k l0 (wrap64 (a1 - (l0.length : Int))) 0)
theorem laws_szItemS.calls (k : Nat) (A0 : Option Addr) (c0 : Nat) (l0 : List (S28)) (a1 : Int) (r : Int) (w : World) (hr0 : Kd.C k28 w A0 l0.length l0) (hc0 : l0.length ≤ c0) (h : laws_szItemS.f k l0 a1 = some r) :
  Calls Try.prog 15 #[.slice A0 l0.length c0, .int .i64 a1] w fun e w' => e = .returned (.int .i64 r) ∧ Below w.heap.size w w' := by
 have hu28 := Try.underlying28
 have HR0 := am hr0
 have HC0 := am hc0
 clear hr0 hc0
 have HB := am (Below.refl w.heap.size w)
 have H : (if (wrap64 (a1 - (l0.length : Int))) < 0 then (some (-1)) else (laws_szItemS.l0 k l0 (wrap64 (a1 - (l0.length : Int))) 0)) = some r := h
 clear h
 replace H := ir_ H; rcases H with ⟨c3b0, H⟩ | ⟨c3b0, H⟩
 ·obtain rfl := Option.some.inj H
  go_enter Try.func15, Try.ntmps15
  go_wp2
  go_ret
  exact ⟨ab7, ab1⟩
 ·have H' := am H
  clear H
  go_enter Try.func15, Try.ntmps15
  go_wp2
  go_loopg [1, 5] k (fun kq v1 v5 w' => ∃ (x1_1 : Int) (x5_1 : Int), v1 = .int .i64 x1_1 ∧ v5 = .int .i64 x5_1 ∧ Aside0 (laws_szItemS.l0 kq l0 x1_1 x5_1 = some r) ∧ Aside0 (kq ≤ k) ∧ Aside0 (Below w.heap.size w w'))
  case atStart => exact ⟨(wrap64 (a1 - (l0.length : Int))), (0), ab6, ab6, H', ⟨Nat.le_refl _⟩, ⟨ab1⟩⟩
  case round =>
   clear H'
   (try clear c1); (try clear p2); (try clear c3); (try clear c3b0)
   obtain ⟨x1_1, x5_1, rfl, rfl, HA, HK1, HB⟩ := hrel
   cases gk with
   | zero => exact absurd HA.out (by simp [laws_szItemS.l0])
   | succ k1 =>
    have H := HA.out
    clear HA
    simp only [laws_szItemS.l0] at H
    replace H := ir_ H; rcases H with ⟨c4b0, H⟩ | ⟨c4b0, H⟩
    ·replace H := iq_ H; obtain ⟨c5b0, H⟩ := H
     replace H := bi_ H; obtain ⟨t108, A6, H⟩ := H
     replace H := ir_ H; rcases H with ⟨c7b0, H⟩ | ⟨c7b0, H⟩
     ·obtain rfl := Option.some.inj H
      have p107 : 0 ≤ (x5_1 : Int) := of_decide_eq_true ab4
      have q107 : x5_1 < (l0.length : Int) := of_decide_eq_true ab4
      obtain ⟨ad107, A107_3, c107_3, A107_6, c107_6, e107, hx107_0, hx107_1, hx107_2, hx107_3, hx107_4, hx107_5, hx107_6, hl107_3, hi107_3, hl107_6, hi107_6⟩ := at_T28 HR0.out x5_1 p107 q107
      cases e107
      replace hx107_0 := pc_ HB hx107_0
      replace hx107_1 := pc_ HB hx107_1
      replace hx107_2 := pc_ HB hx107_2
      replace hx107_3 := pc_ HB hx107_3
      replace hx107_4 := pc_ HB hx107_4
      replace hx107_5 := pc_ HB hx107_5
      replace hx107_6 := pc_ HB hx107_6
      have HR107_3 := am hi107_3
      have HC107_3 := am hl107_3
      clear hi107_3 hl107_3
      have HR107_6 := am hi107_6
      have HC107_6 := am hl107_6
      clear hi107_6 hl107_6
      replace p107 := eq_true p107
      replace q107 := eq_true q107
      go_wp2_with (first | ((with_reducible refine gf_ 5 ?_); refine gc_ Try.func5 (laws_szItem.calls k1 ((rd_T28 l0 x5_1).f0) ((rd_T28 l0 x5_1).f1) ((rd_T28 l0 x5_1).f2) _ _ ((rd_T28 l0 x5_1).f3) ((rd_T28 l0 x5_1).f4) ((rd_T28 l0 x5_1).f5) _ _ ((rd_T28 l0 x5_1).f6) x1_1 t108 _ (sc_ HR107_3) HC107_3.out (sc_ HR107_6) HC107_6.out A6.out) ?_; rintro w8 hb; replace HB := am (below_step ab1 hb); (try clear hb); (try clear hb2); (try clear hk); (try clear hi)))
      go_ret
      exact ⟨ab7, ab1⟩
     ·have H' := am H
      clear H
      have p107 : 0 ≤ (x5_1 : Int) := of_decide_eq_true ab4
      have q107 : x5_1 < (l0.length : Int) := of_decide_eq_true ab4
      obtain ⟨ad107, A107_3, c107_3, A107_6, c107_6, e107, hx107_0, hx107_1, hx107_2, hx107_3, hx107_4, hx107_5, hx107_6, hl107_3, hi107_3, hl107_6, hi107_6⟩ := at_T28 HR0.out x5_1 p107 q107
      cases e107
      replace hx107_0 := pc_ HB hx107_0
      replace hx107_1 := pc_ HB hx107_1
      replace hx107_2 := pc_ HB hx107_2
      replace hx107_3 := pc_ HB hx107_3
      replace hx107_4 := pc_ HB hx107_4
      replace hx107_5 := pc_ HB hx107_5
      replace hx107_6 := pc_ HB hx107_6
      have HR107_3 := am hi107_3
      have HC107_3 := am hl107_3
      clear hi107_3 hl107_3
      have HR107_6 := am hi107_6
      have HC107_6 := am hl107_6
      clear hi107_6 hl107_6
      replace p107 := eq_true p107
      replace q107 := eq_true q107
      go_wp2_with (first | ((with_reducible refine gf_ 5 ?_); refine gc_ Try.func5 (laws_szItem.calls k1 ((rd_T28 l0 x5_1).f0) ((rd_T28 l0 x5_1).f1) ((rd_T28 l0 x5_1).f2) _ _ ((rd_T28 l0 x5_1).f3) ((rd_T28 l0 x5_1).f4) ((rd_T28 l0 x5_1).f5) _ _ ((rd_T28 l0 x5_1).f6) x1_1 t108 _ (sc_ HR107_3) HC107_3.out (sc_ HR107_6) HC107_6.out A6.out) ?_; rintro w9 hb; replace HB := am (below_step ab1 hb); (try clear hb); (try clear hb2); (try clear hk); (try clear hi)))
      go_roundg k1
      case measure => have := HK1.out; omega
      case rel => exact ⟨(t108), (wrap64 (x5_1 + 1)), ab6, ab6, H', ⟨by have := HK1.out; omega⟩, ⟨ab1⟩⟩
    ·obtain rfl := Option.some.inj H
     go_wp2
     go_ret
     exact ⟨ab7, ab1⟩
def laws_szPage.f (k : Nat) (l0_0 : List (S28)) (l0_1 : List Int) (l0_2 : List Int) (a0_3 : Int) (a0_4 : Int) (a1 : Int) : Option (Int) := (laws_szItemS.f k l0_0 a1).bind fun t110 => (if t110 < 0 then (some (-1)) else ((laws_szIntS.f l0_1 t110).bind fun t111 => (if t111 < 0 then (some (-1)) else ((laws_szIntS.f l0_2 t111).bind fun t112 => (if t112 < 0 then (some (-1)) else (some t112))))))
theorem laws_szPage.calls (k : Nat) (A0_0 : Option Addr) (c0_0 : Nat) (l0_0 : List (S28)) (A0_1 : Option Addr) (c0_1 : Nat) (l0_1 : List Int) (A0_2 : Option Addr) (c0_2 : Nat) (l0_2 : List Int) (a0_3 : Int) (a0_4 : Int) (a1 : Int) (r : Int) (w : World) (hr0_0 : Kd.C k28 w A0_0 l0_0.length l0_0) (hc0_0 : l0_0.length ≤ c0_0) (hr0_1 : Kd.C (Kd.int .i64) w A0_1 l0_1.length l0_1) (hc0_1 : l0_1.length ≤ c0_1) (hr0_2 : Kd.C (Kd.int .i64) w A0_2 l0_2.length l0_2) (hc0_2 : l0_2.length ≤ c0_2) (h : laws_szPage.f k l0_0 l0_1 l0_2 a0_3 a0_4 a1 = some r) :
  Calls Try.prog 4 #[.agg #[.slice A0_0 l0_0.length c0_0, .slice A0_1 l0_1.length c0_1, .slice A0_2 l0_2.length c0_2, .int .i64 a0_3, .int .i64 a0_4], .int .i64 a1] w fun e w' => e = .returned (.int .i64 r) ∧ Below w.heap.size w w' := by
 have hu25 := Try.underlying25
 have HR0_0 := am hr0_0
 have HC0_0 := am hc0_0
 clear hr0_0 hc0_0
 have HR0_1 := am hr0_1
 have HC0_1 := am hc0_1
 clear hr0_1 hc0_1
 have HR0_2 := am hr0_2
 have HC0_2 := am hc0_2
 clear hr0_2 hc0_2
 have HB := am (Below.refl w.heap.size w)
 have H : ((laws_szItemS.f k l0_0 a1).bind fun t110 => (if t110 < 0 then (some (-1)) else ((laws_szIntS.f l0_1 t110).bind fun t111 => (if t111 < 0 then (some (-1)) else ((laws_szIntS.f l0_2 t111).bind fun t112 => (if t112 < 0 then (some (-1)) else (some t112))))))) = some r := h
 clear h
 replace H := bi_ H; obtain ⟨t110, A3, H⟩ := H
 replace H := ir_ H; rcases H with ⟨c4b0, H⟩ | ⟨c4b0, H⟩
 ·obtain rfl := Option.some.inj H
  go_enter Try.func4, Try.ntmps4
  go_wp2_with (first | ((with_reducible refine gd_ 2 ?_); refine bx_ 2 (cs := #[.slice A0_0 l0_0.length c0_0, .slice A0_1 l0_1.length c0_1, .slice A0_2 l0_2.length c0_2, .int .i64 a0_3, .int .i64 a0_4]) 25 ?_; intro gb109 hg w5 hbox hb; have BK109 := am hbox; have GW109 := ge_ (w := w) hg; have GE109 := ge_ (w := w) hg; replace HB := am (below_step ab1 hb); clear hb hbox hg; obtain ⟨⟨_, _, _, _, _⟩, _, _, _, _, _⟩ := Op.cells5 BK109.out) | ((with_reducible refine gf_ 15 ?_); refine gc_ Try.func15 (laws_szItemS.calls k _ _ l0_0 a1 t110 _ (sc_ HR0_0) HC0_0.out A3.out) ?_; rintro w7 hb; replace BK109 := bl_ BK109 hb; replace HB := am (below_step (ab2 GE109) hb); (try clear hb); (try clear hb2); (try clear hk); (try clear hi)))
  go_ret
  exact ⟨ab7, ab2 GE109⟩
 ·replace H := bi_ H; obtain ⟨t111, A8, H⟩ := H
  replace H := ir_ H; rcases H with ⟨c9b0, H⟩ | ⟨c9b0, H⟩
  ·obtain rfl := Option.some.inj H
   go_enter Try.func4, Try.ntmps4
   go_wp2_with (first | ((with_reducible refine gd_ 2 ?_); refine bx_ 2 (cs := #[.slice A0_0 l0_0.length c0_0, .slice A0_1 l0_1.length c0_1, .slice A0_2 l0_2.length c0_2, .int .i64 a0_3, .int .i64 a0_4]) 25 ?_; intro gb109 hg w10 hbox hb; have BK109 := am hbox; have GW109 := ge_ (w := w) hg; have GE109 := ge_ (w := w) hg; replace HB := am (below_step ab1 hb); clear hb hbox hg; obtain ⟨⟨_, _, _, _, _⟩, _, _, _, _, _⟩ := Op.cells5 BK109.out) | ((with_reducible refine gf_ 15 ?_); refine gc_ Try.func15 (laws_szItemS.calls k _ _ l0_0 a1 t110 _ (sc_ HR0_0) HC0_0.out A3.out) ?_; rintro w12 hb; replace BK109 := bl_ BK109 hb; replace HB := am (below_step (ab2 GE109) hb); (try clear hb); (try clear hb2); (try clear hk); (try clear hi); obtain ⟨⟨_, _, _, _, _⟩, _, _, _, _, _⟩ := Op.cells5 BK109.out) | ((with_reducible refine gf_ 16 ?_); refine gc_ Try.func16 (laws_szIntS.calls _ _ l0_1 t110 t111 _ (sc_ HR0_1) HC0_1.out A8.out) ?_; rintro w' ⟨nd, rfl⟩))
   go_ret
   exact ⟨ab7, ab2 GE109⟩
  ·replace H := bi_ H; obtain ⟨t112, A14, H⟩ := H
   replace H := ir_ H; rcases H with ⟨c15b0, H⟩ | ⟨c15b0, H⟩
   ·obtain rfl := Option.some.inj H
    go_enter Try.func4, Try.ntmps4
    go_wp2_with (first | ((with_reducible refine gd_ 2 ?_); refine bx_ 2 (cs := #[.slice A0_0 l0_0.length c0_0, .slice A0_1 l0_1.length c0_1, .slice A0_2 l0_2.length c0_2, .int .i64 a0_3, .int .i64 a0_4]) 25 ?_; intro gb109 hg w16 hbox hb; have BK109 := am hbox; have GW109 := ge_ (w := w) hg; have GE109 := ge_ (w := w) hg; replace HB := am (below_step ab1 hb); clear hb hbox hg; obtain ⟨⟨_, _, _, _, _⟩, _, _, _, _, _⟩ := Op.cells5 BK109.out) | ((with_reducible refine gf_ 15 ?_); refine gc_ Try.func15 (laws_szItemS.calls k _ _ l0_0 a1 t110 _ (sc_ HR0_0) HC0_0.out A3.out) ?_; rintro w18 hb; replace BK109 := bl_ BK109 hb; replace HB := am (below_step (ab2 GE109) hb); (try clear hb); (try clear hb2); (try clear hk); (try clear hi); obtain ⟨⟨_, _, _, _, _⟩, _, _, _, _, _⟩ := Op.cells5 BK109.out) | ((with_reducible refine gf_ 16 ?_); refine gc_ Try.func16 (laws_szIntS.calls _ _ l0_1 t110 t111 _ (sc_ HR0_1) HC0_1.out A8.out) ?_; rintro w' ⟨nd, rfl⟩) | ((with_reducible refine gf_ 16 ?_); refine gc_ Try.func16 (laws_szIntS.calls _ _ l0_2 t111 t112 _ ?side1 HC0_2.out A14.out) ?_; (case side1 => exact (by repeat (first | exact (Kd.C_below HR0_2.out (ab2 GE109)) | (with_reducible refine Kd.C_alloc ?_ _) | (with_reducible refine Kd.C_drewN ?_ _) | (with_reducible refine Kd.C_drew ?_)))); rintro w' ⟨nd, rfl⟩))
    go_ret
    exact ⟨ab7, ab2 GE109⟩
   ·obtain rfl := Option.some.inj H
    go_enter Try.func4, Try.ntmps4
    go_wp2_with (first | ((with_reducible refine gd_ 2 ?_); refine bx_ 2 (cs := #[.slice A0_0 l0_0.length c0_0, .slice A0_1 l0_1.length c0_1, .slice A0_2 l0_2.length c0_2, .int .i64 a0_3, .int .i64 a0_4]) 25 ?_; intro gb109 hg w20 hbox hb; have BK109 := am hbox; have GW109 := ge_ (w := w) hg; have GE109 := ge_ (w := w) hg; replace HB := am (below_step ab1 hb); clear hb hbox hg; obtain ⟨⟨_, _, _, _, _⟩, _, _, _, _, _⟩ := Op.cells5 BK109.out) | ((with_reducible refine gf_ 15 ?_); refine gc_ Try.func15 (laws_szItemS.calls k _ _ l0_0 a1 t110 _ (sc_ HR0_0) HC0_0.out A3.out) ?_; rintro w22 hb; replace BK109 := bl_ BK109 hb; replace HB := am (below_step (ab2 GE109) hb); (try clear hb); (try clear hb2); (try clear hk); (try clear hi); obtain ⟨⟨_, _, _, _, _⟩, _, _, _, _, _⟩ := Op.cells5 BK109.out) | ((with_reducible refine gf_ 16 ?_); refine gc_ Try.func16 (laws_szIntS.calls _ _ l0_1 t110 t111 _ (sc_ HR0_1) HC0_1.out A8.out) ?_; rintro w' ⟨nd, rfl⟩) | ((with_reducible refine gf_ 16 ?_); refine gc_ Try.func16 (laws_szIntS.calls _ _ l0_2 t111 t112 _ ?side1 HC0_2.out A14.out) ?_; (case side1 => exact (by repeat (first | exact (Kd.C_below HR0_2.out (ab2 GE109)) | (with_reducible refine Kd.C_alloc ?_ _) | (with_reducible refine Kd.C_drewN ?_ _) | (with_reducible refine Kd.C_drew ?_)))); rintro w' ⟨nd, rfl⟩))
    go_ret
    exact ⟨ab7, ab2 GE109⟩
def spec_l1In.f (a0 : Int) (a1 : Int) (a2 : Int) : Option (Bool) := if a0 ≥ a1 then (some (decide (a0 ≤ a2))) else (some false)
theorem spec_l1In.calls (a0 : Int) (a1 : Int) (a2 : Int) (r : Bool) (w : World) (h : spec_l1In.f a0 a1 a2 = some r) :
  Calls Try.prog 58 #[.int .i64 a0, .int .i64 a1, .int .i64 a2] w fun e w' => e = .returned (.bool r) ∧ Drawn0 w w' := by
 have H : (if a0 ≥ a1 then (some (decide (a0 ≤ a2))) else (some false)) = some r := h
 clear h
 by_cases c4 : a0 ≥ a1
 ·rw [if_pos c4] at H
  have c4b0 : decide (a1 ≤ a0) = true := decide_eq_true c4
  clear c4
  obtain rfl := Option.some.inj H
  go_enter Try.func58, Try.ntmps58
  go_wp2
  go_ret
  exact ⟨ab6, by repeat (first | exact Drawn0.refl _ | apply Drawn0.step)⟩
 ·rw [if_neg c4] at H
  have c4b0 : decide (a1 ≤ a0) = false := decide_eq_false c4
  clear c4
  obtain rfl := Option.some.inj H
  go_enter Try.func58, Try.ntmps58
  go_wp2
  go_ret
  exact ⟨ab6, by repeat (first | exact Drawn0.refl _ | apply Drawn0.step)⟩
def spec_l4Has.l0 : Nat → List (S69) → ByteArray → Int → Option (Bool)
 | 0, _, _, _ => none
 | k + 1, x0, x1, x5 => if x5 < (x0.length : Int) then (if 0 ≤ x5 then (if ((rd_T69 x0 x5).f0).toList = x1.toList then (some true) else (spec_l4Has.l0 k x0 x1 (wrap64 (x5 + 1)))) else (none)) else (some false)
def spec_l4Has.f (k : Nat) (l0 : List (S69)) (a1 : ByteArray) : Option (Bool) := spec_l4Has.l0 k l0 a1 0
theorem spec_l4Has.calls (k : Nat) (A0 : Option Addr) (c0 : Nat) (l0 : List (S69)) (a1 : ByteArray) (r : Bool) (w : World) (hr0 : Kd.C k69 w A0 l0.length l0) (hc0 : l0.length ≤ c0) (h : spec_l4Has.f k l0 a1 = some r) :
  Calls Try.prog 74 #[.slice A0 l0.length c0, .string a1] w fun e w' => e = .returned (.bool r) ∧ Drawn0 w w' := by
 have HR0 := am hr0
 have HC0 := am hc0
 clear hr0 hc0
 have H : (spec_l4Has.l0 k l0 a1 0) = some r := h
 clear h
 have H' := am H
 clear H
 go_enter Try.func74, Try.ntmps74
 go_wp2
 go_loopg [5] k (fun kq v5 w' => ∃ (x5_1 : Int), v5 = .int .i64 x5_1 ∧ Aside0 (spec_l4Has.l0 kq l0 a1 x5_1 = some r) ∧ Aside0 (kq ≤ k) ∧ Drawn0 w w')
 case atStart => exact ⟨(0), ab6, H', ⟨Nat.le_refl _⟩, by repeat (first | exact Drawn0.refl _ | apply Drawn0.step)⟩
 case round =>
  clear H'
  try clear p2
  obtain ⟨x5_1, rfl, HA, HK1, ⟨m1, rfl⟩⟩ := hrel
  cases gk with
  | zero => exact absurd HA.out (by simp [spec_l4Has.l0])
  | succ k1 =>
   have H := HA.out
   clear HA
   simp only [spec_l4Has.l0] at H
   replace H := ir_ H; rcases H with ⟨c3b0, H⟩ | ⟨c3b0, H⟩
   ·replace H := iq_ H; obtain ⟨c4b0, H⟩ := H
    replace H := ie_ H; rcases H with ⟨c5b0, c5b1, H⟩ | ⟨c5, c5b0, c5b1, H⟩
    ·obtain rfl := Option.some.inj H
     have p113 : 0 ≤ (x5_1 : Int) := of_decide_eq_true ab4
     have q113 : x5_1 < (l0.length : Int) := of_decide_eq_true ab4
     obtain ⟨ad113, e113, hx113_0, hx113_1⟩ := at_T69 HR0.out x5_1 p113 q113
     cases e113
     replace p113 := eq_true p113
     replace q113 := eq_true q113
     go_wp2
     go_ret
     exact ⟨ab6, by repeat (first | exact Drawn0.refl _ | apply Drawn0.step)⟩
    ·have H' := am H
     clear H
     have p113 : 0 ≤ (x5_1 : Int) := of_decide_eq_true ab4
     have q113 : x5_1 < (l0.length : Int) := of_decide_eq_true ab4
     obtain ⟨ad113, e113, hx113_0, hx113_1⟩ := at_T69 HR0.out x5_1 p113 q113
     cases e113
     replace p113 := eq_true p113
     replace q113 := eq_true q113
     go_wp2
     go_roundg k1
     case measure => have := HK1.out; omega
     case rel => exact ⟨(wrap64 (x5_1 + 1)), ab6, H', ⟨by have := HK1.out; omega⟩, by repeat (first | exact Drawn0.refl _ | apply Drawn0.step)⟩
   ·obtain rfl := Option.some.inj H
    go_wp2
    go_ret
    exact ⟨ab6, by repeat (first | exact Drawn0.refl _ | apply Drawn0.step)⟩
mutual
def spec_l6Plain.j0 : Nat → Bool → Bool → Int → Int → ByteArray → List (S69) → ByteArray → Int → List Int → Option (Bool)
 | 0, _, _, _, _, _, _, _, _, _ => none
 | k + 1, x3, x44, x115000, x115001, x115002, x115003, x115004, x115005, x115006 => if x44 = true then (some false) else (spec_l6Plain.l0 k x3 0 x115000 x115001 x115002 x115003 x115004 x115005 x115006)
def spec_l6Plain.l0 : Nat → Bool → Int → Int → Int → ByteArray → List (S69) → ByteArray → Int → List Int → Option (Bool)
 | 0, _, _, _, _, _, _, _, _, _ => none
 | k + 1, x3, x4, x115000, x115001, x115002, x115003, x115004, x115005, x115006 => if x4 < (x115003.length : Int) then (if 0 ≤ x4 then (if x4 ≤ (x115003.length : Int) then ((spec_l4Has.f k (x115003.take (x4 : Int).toNat) ((rd_T69 x115003 x4).f0)).bind fun t121 => (if t121 = true then (some false) else (spec_l6Plain.l0 k x3 (wrap64 (x4 + 1)) x115000 x115001 x115002 x115003 x115004 x115005 x115006))) else (none)) else (none)) else (if x115000 = 1 then (some (x115004.toList == ([] : List UInt8))) else (if x115000 = 3 then (some ((x115006.length : Int) == 0)) else (if x115000 = 4 then (some ((x115006.length : Int) == 0)) else (if x115000 = 5 then (some ((x115006.length : Int) == 0)) else (some x3)))))
end
def spec_l6Plain.f (k : Nat) (a0_0 : Int) (a0_1 : Int) (a0_2 : ByteArray) (l0_3 : List (S69)) (a0_4 : ByteArray) (a0_5 : Int) (l0_6 : List Int) : Option (Bool) := if a0_0 = 2 then (if a0_2.toList = ([] : List UInt8) then (spec_l6Plain.j0 k (a0_0 == 2) true a0_0 a0_1 a0_2 l0_3 a0_4 a0_5 l0_6) else (if a0_4.toList = ([] : List UInt8) then ((spec_l1In.f a0_1 0 2).bind fun t115 => (spec_l6Plain.j0 k (a0_0 == 2) (!t115) a0_0 a0_1 a0_2 l0_3 a0_4 a0_5 l0_6)) else (spec_l6Plain.j0 k (a0_0 == 2) true a0_0 a0_1 a0_2 l0_3 a0_4 a0_5 l0_6))) else (if a0_2.toList = ([] : List UInt8) then (if (l0_3.length : Int) > 0 then (spec_l6Plain.j0 k (a0_0 == 2) true a0_0 a0_1 a0_2 l0_3 a0_4 a0_5 l0_6) else (if a0_1 = 0 then (spec_l6Plain.j0 k (a0_0 == 2) false a0_0 a0_1 a0_2 l0_3 a0_4 a0_5 l0_6) else (spec_l6Plain.j0 k (a0_0 == 2) true a0_0 a0_1 a0_2 l0_3 a0_4 a0_5 l0_6))) else (spec_l6Plain.j0 k (a0_0 == 2) true a0_0 a0_1 a0_2 l0_3 a0_4 a0_5 l0_6))
theorem spec_l6Plain.calls (k : Nat) (a0_0 : Int) (a0_1 : Int) (a0_2 : ByteArray) (A0_3 : Option Addr) (c0_3 : Nat) (l0_3 : List (S69)) (a0_4 : ByteArray) (a0_5 : Int) (A0_6 : Option Addr) (c0_6 : Nat) (l0_6 : List Int) (r : Bool) (w : World) (hr0_3 : Kd.C k69 w A0_3 l0_3.length l0_3) (hc0_3 : l0_3.length ≤ c0_3) (hr0_6 : Kd.C (Kd.int .i64) w A0_6 l0_6.length l0_6) (hc0_6 : l0_6.length ≤ c0_6) (h : spec_l6Plain.f k a0_0 a0_1 a0_2 l0_3 a0_4 a0_5 l0_6 = some r) :
  Calls Try.prog 59 #[.agg #[.int .i64 a0_0, .int .i64 a0_1, .string a0_2, .slice A0_3 l0_3.length c0_3, .string a0_4, .int .i64 a0_5, .slice A0_6 l0_6.length c0_6]] w fun e w' => e = .returned (.bool r) ∧ Below w.heap.size w w' := by
 have hu38 := Try.underlying38
 have HR0_3 := am hr0_3
 have HC0_3 := am hc0_3
 clear hr0_3 hc0_3
 have HR0_6 := am hr0_6
 have HC0_6 := am hc0_6
 clear hr0_6 hc0_6
 have HB := am (Below.refl w.heap.size w)
 have H : (if a0_0 = 2 then (if a0_2.toList = ([] : List UInt8) then (spec_l6Plain.j0 k (a0_0 == 2) true a0_0 a0_1 a0_2 l0_3 a0_4 a0_5 l0_6) else (if a0_4.toList = ([] : List UInt8) then ((spec_l1In.f a0_1 0 2).bind fun t115 => (spec_l6Plain.j0 k (a0_0 == 2) (!t115) a0_0 a0_1 a0_2 l0_3 a0_4 a0_5 l0_6)) else (spec_l6Plain.j0 k (a0_0 == 2) true a0_0 a0_1 a0_2 l0_3 a0_4 a0_5 l0_6))) else (if a0_2.toList = ([] : List UInt8) then (if (l0_3.length : Int) > 0 then (spec_l6Plain.j0 k (a0_0 == 2) true a0_0 a0_1 a0_2 l0_3 a0_4 a0_5 l0_6) else (if a0_1 = 0 then (spec_l6Plain.j0 k (a0_0 == 2) false a0_0 a0_1 a0_2 l0_3 a0_4 a0_5 l0_6) else (spec_l6Plain.j0 k (a0_0 == 2) true a0_0 a0_1 a0_2 l0_3 a0_4 a0_5 l0_6))) else (spec_l6Plain.j0 k (a0_0 == 2) true a0_0 a0_1 a0_2 l0_3 a0_4 a0_5 l0_6))) = some r := h
 clear h
 have HC2 := am H
 clear H
 go_enter Try.func59, Try.ntmps59
 go_upto_region 2 with (first | ((with_reducible refine gd_ 1 ?_); (try (refine gate_guard (by rfl) ?_; dsimp only)); refine bx_ 1 (cs := #[.int .i64 a0_0, .int .i64 a0_1, .string a0_2, .slice A0_3 l0_3.length c0_3, .string a0_4, .int .i64 a0_5, .slice A0_6 l0_6.length c0_6]) 38 ?_; intro gb114 hg w3 hbox hb; have BK114 := am hbox; have GW114 := ge_ (w := w) hg; have GE114 := ge_ (w := w) hg; replace HB := am (below_step ab1 hb); clear hb hbox hg; obtain ⟨⟨_, _, _, _, _, _, _⟩, _, _, _, _, _, _, _⟩ := Op.cells7 BK114.out))
 repeat (go_quiet (first | ((with_reducible refine gd_ 1 ?_); (try (refine gate_guard (by rfl) ?_; dsimp only)); refine bx_ 1 (cs := #[.int .i64 a0_0, .int .i64 a0_1, .string a0_2, .slice A0_3 l0_3.length c0_3, .string a0_4, .int .i64 a0_5, .slice A0_6 l0_6.length c0_6]) 38 ?_; intro gb114 hg w3 hbox hb; have BK114 := am hbox; have GW114 := ge_ (w := w) hg; have GE114 := ge_ (w := w) hg; replace HB := am (below_step ab1 hb); clear hb hbox hg; obtain ⟨⟨_, _, _, _, _, _, _⟩, _, _, _, _, _, _, _⟩ := Op.cells7 BK114.out)); go_upto_region 2 with (first | ((with_reducible refine gd_ 1 ?_); (try (refine gate_guard (by rfl) ?_; dsimp only)); refine bx_ 1 (cs := #[.int .i64 a0_0, .int .i64 a0_1, .string a0_2, .slice A0_3 l0_3.length c0_3, .string a0_4, .int .i64 a0_5, .slice A0_6 l0_6.length c0_6]) 38 ?_; intro gb114 hg w3 hbox hb; have BK114 := am hbox; have GW114 := ge_ (w := w) hg; have GE114 := ge_ (w := w) hg; replace HB := am (below_step ab1 hb); clear hb hbox hg; obtain ⟨⟨_, _, _, _, _, _, _⟩, _, _, _, _, _, _, _⟩ := Op.cells7 BK114.out)))
 (try simp only [Act.put, List.setIfInBounds_toArray, List.set_cons_zero, List.set_cons_succ])
 go_cut [44] (fun v44 wc => ∃ (kq : Nat) (x44_1 : Bool), v44 = .bool x44_1 ∧ Aside0 (spec_l6Plain.j0 kq (a0_0 == 2) x44_1 a0_0 a0_1 a0_2 l0_3 a0_4 a0_5 l0_6 = some r) ∧ Aside0 (kq ≤ k) ∧ Aside0 (wc.heap[gb114]? = some (.cells #[.int .i64 a0_0, .int .i64 a0_1, .string a0_2, (.slice A0_3 l0_3.length c0_3), .string a0_4, .int .i64 a0_5, (.slice A0_6 l0_6.length c0_6)] 38 (0, 0))) ∧ Aside0 (Below w.heap.size w wc))
 case first =>
  have H := HC2.out
  clear HC2
  replace H := ie_ H; rcases H with ⟨c5b0, c5b1, H⟩ | ⟨c5, c5b0, c5b1, H⟩
  ·(first | rw [c5b0] | (simp only [i64_w, i32_w]; rw [c5b0]) | skip)
   (try (generalize hgzc5 : (a0_0 == 2) = bqc5 at *; subst c5b0; have c5b0 := hgzc5; clear hgzc5))
   replace H := ie_ H; rcases H with ⟨c6b0, c6b1, H⟩ | ⟨c6, c6b0, c6b1, H⟩
   ·have H' := am H
    clear H
    obtain ⟨⟨_, _, _, _, _, _, _⟩, _, _, _, _, _, _, _⟩ := Op.cells7 BK114.out
    go_wp2
    repeat (go_quiet (fail); try go_wp2)
    go_meet
    case rel => exact ⟨_, (true), ab6, (by first | exact H' | (have h_ := H'.out; rw [c5b0] at h_; exact ⟨h_⟩)), ⟨by first | omega | exact Nat.le_refl _⟩, ⟨ab3 BK114⟩, ⟨ab2 GE114⟩⟩
   ·replace H := ie_ H; rcases H with ⟨c8b0, c8b1, H⟩ | ⟨c8, c8b0, c8b1, H⟩
    ·replace H := bi_ H; obtain ⟨t115, A9, H⟩ := H
     replace H : (spec_l6Plain.j0 k (a0_0 == 2) (!t115) a0_0 a0_1 a0_2 l0_3 a0_4 a0_5 l0_6) = some r := by first | exact H | (rw [c5b0]; exact H)
     have H' := am H
     clear H
     obtain ⟨⟨_, _, _, _, _, _, _⟩, _, _, _, _, _, _, _⟩ := Op.cells7 BK114.out
     go_wp2_with (first | (go_at_call 58; (with_reducible refine (spec_l1In.calls a0_1 0 2 t115 _ A9.out).mono ?_); rintro e w' ⟨rfl, ⟨nd, rfl⟩⟩; (try first | exact ⟨rfl, _, World.drewN_drewN _ _ _⟩ | exact ⟨rfl, _, Eq.trans (World.drewN_drewN _ _ _) (congrArg (World.drewN _) (Nat.add_assoc _ _ _))⟩)))
     repeat (go_quiet (first | (go_at_call 58; (with_reducible refine (spec_l1In.calls a0_1 0 2 t115 _ A9.out).mono ?_); rintro e w' ⟨rfl, ⟨nd, rfl⟩⟩; (try first | exact ⟨rfl, _, World.drewN_drewN _ _ _⟩ | exact ⟨rfl, _, Eq.trans (World.drewN_drewN _ _ _) (congrArg (World.drewN _) (Nat.add_assoc _ _ _))⟩))); try go_wp2_with (first | (go_at_call 58; (with_reducible refine (spec_l1In.calls a0_1 0 2 t115 _ A9.out).mono ?_); rintro e w' ⟨rfl, ⟨nd, rfl⟩⟩; (try first | exact ⟨rfl, _, World.drewN_drewN _ _ _⟩ | exact ⟨rfl, _, Eq.trans (World.drewN_drewN _ _ _) (congrArg (World.drewN _) (Nat.add_assoc _ _ _))⟩))))
     go_meet
     case rel => exact ⟨_, (!t115), ab6, (by first | exact H' | (have h_ := H'.out; rw [c5b0] at h_; exact ⟨h_⟩)), ⟨by first | omega | exact Nat.le_refl _⟩, ⟨ab3 BK114⟩, ⟨ab2 GE114⟩⟩
    ·have H' := am H
     clear H
     obtain ⟨⟨_, _, _, _, _, _, _⟩, _, _, _, _, _, _, _⟩ := Op.cells7 BK114.out
     go_wp2
     repeat (go_quiet (fail); try go_wp2)
     go_meet
     case rel => exact ⟨_, (true), ab6, (by first | exact H' | (have h_ := H'.out; rw [c5b0] at h_; exact ⟨h_⟩)), ⟨by first | omega | exact Nat.le_refl _⟩, ⟨ab3 BK114⟩, ⟨ab2 GE114⟩⟩
  ·(first | rw [c5b0] | (simp only [i64_w, i32_w]; rw [c5b0]) | skip)
   (try (generalize hgzc5 : (a0_0 == 2) = bqc5 at *; subst c5b0; have c5b0 := hgzc5; clear hgzc5))
   replace H := ie_ H; rcases H with ⟨c12b0, c12b1, H⟩ | ⟨c12, c12b0, c12b1, H⟩
   ·by_cases c13 : (l0_3.length : Int) > 0
    ·rw [if_pos c13] at H
     have c13b0 : decide (0 < (l0_3.length : Int)) = true := decide_eq_true c13
     have c13b1 : decide (0 < l0_3.length) = true := decide_eq_true (by omega)
     clear c13
     have H' := am H
     clear H
     obtain ⟨⟨_, _, _, _, _, _, _⟩, _, _, _, _, _, _, _⟩ := Op.cells7 BK114.out
     go_wp2
     repeat (go_quiet (fail); try go_wp2)
     go_meet
     case rel => exact ⟨_, (true), ab6, (by first | exact H' | (have h_ := H'.out; rw [c5b0] at h_; exact ⟨h_⟩)), ⟨by first | omega | exact Nat.le_refl _⟩, ⟨ab3 BK114⟩, ⟨ab2 GE114⟩⟩
    ·rw [if_neg c13] at H
     have c13b0 : decide (0 < (l0_3.length : Int)) = false := decide_eq_false c13
     have c13b1 : decide (0 < l0_3.length) = false := decide_eq_false (by omega)
     clear c13
     replace H := ie_ H; rcases H with ⟨c15b0, c15b1, H⟩ | ⟨c15, c15b0, c15b1, H⟩
     ·have H' := am H
      clear H
      obtain ⟨⟨_, _, _, _, _, _, _⟩, _, _, _, _, _, _, _⟩ := Op.cells7 BK114.out
      go_wp2
      repeat (go_quiet (fail); try go_wp2)
      go_meet
      case rel => exact ⟨_, (false), ab6, (by first | exact H' | (have h_ := H'.out; rw [c5b0] at h_; exact ⟨h_⟩)), ⟨by first | omega | exact Nat.le_refl _⟩, ⟨ab3 BK114⟩, ⟨ab2 GE114⟩⟩
     ·have H' := am H
      clear H
      obtain ⟨⟨_, _, _, _, _, _, _⟩, _, _, _, _, _, _, _⟩ := Op.cells7 BK114.out
      go_wp2
      repeat (go_quiet (fail); try go_wp2)
      go_meet
      case rel => exact ⟨_, (true), ab6, (by first | exact H' | (have h_ := H'.out; rw [c5b0] at h_; exact ⟨h_⟩)), ⟨by first | omega | exact Nat.le_refl _⟩, ⟨ab3 BK114⟩, ⟨ab2 GE114⟩⟩
   ·have H' := am H
    clear H
    obtain ⟨⟨_, _, _, _, _, _, _⟩, _, _, _, _, _, _, _⟩ := Op.cells7 BK114.out
    go_wp2
    repeat (go_quiet (fail); try go_wp2)
    go_meet
    case rel => exact ⟨_, (true), ab6, (by first | exact H' | (have h_ := H'.out; rw [c5b0] at h_; exact ⟨h_⟩)), ⟨by first | omega | exact Nat.le_refl _⟩, ⟨ab3 BK114⟩, ⟨ab2 GE114⟩⟩
 case rest =>
  clear HC2
  (try clear c1); (try clear p2); (try clear c5); (try clear c5b0); (try clear c5b1); (try clear c6); (try clear c6b0); (try clear c6b1); (try clear c8); (try clear c8b0); (try clear c8b1); (try clear c12); (try clear c12b0); (try clear c12b1); (try clear c13); (try clear c13b0); (try clear c13b1); (try clear c15); (try clear c15b0); (try clear c15b1); (try clear hcz10_0); (try clear hcz10_1); (try clear hcz10_2); (try clear hcz10_3); (try clear hcz10_4); (try clear hcz10_5); (try clear hcz10_6); (try clear hcz11_0); (try clear hcz11_1); (try clear hcz11_2); (try clear hcz11_3); (try clear hcz11_4); (try clear hcz11_5); (try clear hcz11_6); (try clear hcz14_0); (try clear hcz14_1); (try clear hcz14_2); (try clear hcz14_3); (try clear hcz14_4); (try clear hcz14_5); (try clear hcz14_6); (try clear hcz16_0); (try clear hcz16_1); (try clear hcz16_2); (try clear hcz16_3); (try clear hcz16_4); (try clear hcz16_5); (try clear hcz16_6); (try clear hcz17_0); (try clear hcz17_1); (try clear hcz17_2); (try clear hcz17_3); (try clear hcz17_4); (try clear hcz17_5); (try clear hcz17_6); (try clear hcz18_0); (try clear hcz18_1); (try clear hcz18_2); (try clear hcz18_3); (try clear hcz18_4); (try clear hcz18_5); (try clear hcz18_6); (try clear hcz4_0); (try clear hcz4_1); (try clear hcz4_2); (try clear hcz4_3); (try clear hcz4_4); (try clear hcz4_5); (try clear hcz4_6); (try clear hcz7_0); (try clear hcz7_1); (try clear hcz7_2); (try clear hcz7_3); (try clear hcz7_4); (try clear hcz7_5); (try clear hcz7_6); (try clear hfz10_0); (try clear hfz10_1); (try clear hfz10_2); (try clear hfz10_3); (try clear hfz10_4); (try clear hfz10_5); (try clear hfz10_6); (try clear hfz11_0); (try clear hfz11_1); (try clear hfz11_2); (try clear hfz11_3); (try clear hfz11_4); (try clear hfz11_5); (try clear hfz11_6); (try clear hfz14_0); (try clear hfz14_1); (try clear hfz14_2); (try clear hfz14_3); (try clear hfz14_4); (try clear hfz14_5); (try clear hfz14_6); (try clear hfz16_0); (try clear hfz16_1); (try clear hfz16_2); (try clear hfz16_3); (try clear hfz16_4); (try clear hfz16_5); (try clear hfz16_6); (try clear hfz17_0); (try clear hfz17_1); (try clear hfz17_2); (try clear hfz17_3); (try clear hfz17_4); (try clear hfz17_5); (try clear hfz17_6); (try clear hfz18_0); (try clear hfz18_1); (try clear hfz18_2); (try clear hfz18_3); (try clear hfz18_4); (try clear hfz18_5); (try clear hfz18_6); (try clear hfz4_0); (try clear hfz4_1); (try clear hfz4_2); (try clear hfz4_3); (try clear hfz4_4); (try clear hfz4_5); (try clear hfz4_6); (try clear hfz7_0); (try clear hfz7_1); (try clear hfz7_2); (try clear hfz7_3); (try clear hfz7_4); (try clear hfz7_5); (try clear hfz7_6)
  obtain ⟨kq, x44_1, rfl, HA, HJ1, BK114, HB⟩ := hcut
  cases kq with
  | zero => exact absurd HA.out (by simp [spec_l6Plain.j0])
  | succ kj1 =>
   have H := HA.out
   clear HA
   simp only [spec_l6Plain.j0] at H
   replace H := ib_ H; rcases H with ⟨rfl, H⟩ | ⟨rfl, H⟩
   ·obtain rfl := Option.some.inj H
    go_wp2
    repeat (go_quiet (fail); try go_wp2)
    go_ret
    exact ⟨ab7, ab2 GE114⟩
   ·have H' := am H
    clear H
    go_wp2
    repeat (go_quiet (fail); try go_wp2)
    go_loopg [4] kj1 (fun kq v4 w' => ∃ (x4_2 : Int), v4 = .int .i64 x4_2 ∧ Aside0 (spec_l6Plain.l0 kq (a0_0 == 2) x4_2 a0_0 a0_1 a0_2 l0_3 a0_4 a0_5 l0_6 = some r) ∧ Aside0 (kq ≤ kj1) ∧ Aside0 (w'.heap[gb114]? = some (.cells #[.int .i64 a0_0, .int .i64 a0_1, .string a0_2, (.slice A0_3 l0_3.length c0_3), .string a0_4, .int .i64 a0_5, (.slice A0_6 l0_6.length c0_6)] 38 (0, 0))) ∧ Aside0 (Below w.heap.size w w'))
    case atStart => exact ⟨(0), ab6, H', ⟨Nat.le_refl _⟩, ⟨ab3 BK114⟩, ⟨ab2 GE114⟩⟩
    case round =>
     clear H'
     (try clear c1); (try clear p2); (try clear c5); (try clear c5b0); (try clear c5b1); (try clear c6); (try clear c6b0); (try clear c6b1); (try clear c8); (try clear c8b0); (try clear c8b1); (try clear c12); (try clear c12b0); (try clear c12b1); (try clear c13); (try clear c13b0); (try clear c13b1); (try clear c15); (try clear c15b0); (try clear c15b1); (try clear c19); (try clear hcz10_0); (try clear hcz10_1); (try clear hcz10_2); (try clear hcz10_3); (try clear hcz10_4); (try clear hcz10_5); (try clear hcz10_6); (try clear hcz11_0); (try clear hcz11_1); (try clear hcz11_2); (try clear hcz11_3); (try clear hcz11_4); (try clear hcz11_5); (try clear hcz11_6); (try clear hcz14_0); (try clear hcz14_1); (try clear hcz14_2); (try clear hcz14_3); (try clear hcz14_4); (try clear hcz14_5); (try clear hcz14_6); (try clear hcz16_0); (try clear hcz16_1); (try clear hcz16_2); (try clear hcz16_3); (try clear hcz16_4); (try clear hcz16_5); (try clear hcz16_6); (try clear hcz17_0); (try clear hcz17_1); (try clear hcz17_2); (try clear hcz17_3); (try clear hcz17_4); (try clear hcz17_5); (try clear hcz17_6); (try clear hcz18_0); (try clear hcz18_1); (try clear hcz18_2); (try clear hcz18_3); (try clear hcz18_4); (try clear hcz18_5); (try clear hcz18_6); (try clear hcz4_0); (try clear hcz4_1); (try clear hcz4_2); (try clear hcz4_3); (try clear hcz4_4); (try clear hcz4_5); (try clear hcz4_6); (try clear hcz7_0); (try clear hcz7_1); (try clear hcz7_2); (try clear hcz7_3); (try clear hcz7_4); (try clear hcz7_5); (try clear hcz7_6); (try clear hfz10_0); (try clear hfz10_1); (try clear hfz10_2); (try clear hfz10_3); (try clear hfz10_4); (try clear hfz10_5); (try clear hfz10_6); (try clear hfz11_0); (try clear hfz11_1); (try clear hfz11_2); (try clear hfz11_3); (try clear hfz11_4); (try clear hfz11_5); (try clear hfz11_6); (try clear hfz14_0); (try clear hfz14_1); (try clear hfz14_2); (try clear hfz14_3); (try clear hfz14_4); (try clear hfz14_5); (try clear hfz14_6); (try clear hfz16_0); (try clear hfz16_1); (try clear hfz16_2); (try clear hfz16_3); (try clear hfz16_4); (try clear hfz16_5); (try clear hfz16_6); (try clear hfz17_0); (try clear hfz17_1); (try clear hfz17_2); (try clear hfz17_3); (try clear hfz17_4); (try clear hfz17_5); (try clear hfz17_6); (try clear hfz18_0); (try clear hfz18_1); (try clear hfz18_2); (try clear hfz18_3); (try clear hfz18_4); (try clear hfz18_5); (try clear hfz18_6); (try clear hfz4_0); (try clear hfz4_1); (try clear hfz4_2); (try clear hfz4_3); (try clear hfz4_4); (try clear hfz4_5); (try clear hfz4_6); (try clear hfz7_0); (try clear hfz7_1); (try clear hfz7_2); (try clear hfz7_3); (try clear hfz7_4); (try clear hfz7_5); (try clear hfz7_6); (try clear p2)
     obtain ⟨x4_2, rfl, HA, HK2, BK114, HB⟩ := hrel
     cases gk with
     | zero => exact absurd HA.out (by simp [spec_l6Plain.l0])
     | succ k2 =>
      have H := HA.out
      clear HA
      simp only [spec_l6Plain.l0] at H
      replace H := ir_ H; rcases H with ⟨c20b0, H⟩ | ⟨c20b0, H⟩
      ·by_cases c21 : 0 ≤ x4_2
       case neg => rw [if_neg c21] at H; exact absurd H (by simp)
       rw [if_pos c21] at H
       have c21b0 := eq_true c21
       have c21b1 := decide_eq_true c21
       clear c21
       by_cases c22 : x4_2 ≤ (l0_3.length : Int)
       case neg => rw [if_neg c22] at H; exact absurd H (by simp)
       rw [if_pos c22] at H
       have c22b0 := eq_true c22
       have c22b1 := decide_eq_true c22
       clear c22
       obtain ⟨y116, hy116⟩ : ∃ y_ : List (S69), y_ = (l0_3.take (x4_2 : Int).toNat) := ⟨_, rfl⟩
       replace H : ((spec_l4Has.f k2 y116 ((rd_T69 l0_3 x4_2).f0)).bind fun t121 => (if t121 = true then (some false) else (spec_l6Plain.l0 k2 (a0_0 == 2) (wrap64 (x4_2 + 1)) a0_0 a0_1 a0_2 l0_3 a0_4 a0_5 l0_6))) = some r := by first | (rw [hy116]; with_reducible exact H) | (have H2_ := (Option.bind_some _ _).symm.trans H; rw [hy116]; with_reducible exact H2_) | (have H2_ := (Option.bind_some _ _).symm.trans H; with_reducible exact H2_) | with_reducible exact H | (rw [hy116]; exact H) | exact H
       have Ny116 := am hy116
       clear hy116
       replace H := bi_ H; obtain ⟨t121, A23, H⟩ := H
       replace H := ib_ H; rcases H with ⟨rfl, H⟩ | ⟨rfl, H⟩
       ·obtain rfl := Option.some.inj H
        obtain ⟨⟨_, _, _, _, _, _, _⟩, _, _, _, _, _, _, _⟩ := Op.cells7 BK114.out
        have q26 : (x4_2 : Int) ≤ ((l0_3.length : Int) : Int) := of_decide_eq_true ab4
        obtain ⟨i026, hi026, _, hsz26, _⟩ := info_parts info69
        have hroom26 : l0_3.length ≤ c0_3 := HC0_3.out
        have hC26 : Kd.C k69 _ A0_3 l0_3.length l0_3 := HR0_3.out
        have hcut26 := cut_to (P := Try.prog) 36 69 .i64 Try.underlying36 hi026 A0_3 l0_3.length c0_3 x4_2 (of_decide_eq_true ab4) q26 hroom26
        have hr26 := Kd.C_take (m := (x4_2 : Int).toNat) hC26 (by omega)
        have hy26 : y116.length = (x4_2 : Int).toNat := (by rw [Ny116.out, List.length_take]; omega)
        rw [← Ny116.out] at hr26
        rw [← hy26] at hcut26
        have HR119 := am hr26
        have HC119 := am (show y116.length ≤ c0_3 from by omega)
        clear hr26 hC26 hroom26 hi026 hsz26
        have KY26 := am hy26
        clear hy26
        replace q26 := eq_true q26
        have p120 : 0 ≤ (x4_2 : Int) := of_decide_eq_true ab4
        have q120 : x4_2 < (l0_3.length : Int) := of_decide_eq_true ab4
        obtain ⟨ad120, e120, hx120_0, hx120_1⟩ := at_T69 HR0_3.out x4_2 p120 q120
        cases e120
        replace hx120_0 := pc_ HB hx120_0
        replace hx120_1 := pc_ HB hx120_1
        replace p120 := eq_true p120
        replace q120 := eq_true q120
        go_wp2_with (first | (go_at_call 74; (with_reducible refine (spec_l4Has.calls k2 _ _ y116 ((rd_T69 l0_3 x4_2).f0) true _ (sc_ HR119) HC119.out A23.out).mono ?_); rintro e w' ⟨rfl, ⟨nd, rfl⟩⟩; (try first | exact ⟨rfl, _, World.drewN_drewN _ _ _⟩ | exact ⟨rfl, _, Eq.trans (World.drewN_drewN _ _ _) (congrArg (World.drewN _) (Nat.add_assoc _ _ _))⟩)))
        repeat (go_quiet (first | (go_at_call 74; (with_reducible refine (spec_l4Has.calls k2 _ _ y116 ((rd_T69 l0_3 x4_2).f0) true _ (sc_ HR119) HC119.out A23.out).mono ?_); rintro e w' ⟨rfl, ⟨nd, rfl⟩⟩; (try first | exact ⟨rfl, _, World.drewN_drewN _ _ _⟩ | exact ⟨rfl, _, Eq.trans (World.drewN_drewN _ _ _) (congrArg (World.drewN _) (Nat.add_assoc _ _ _))⟩))); try go_wp2_with (first | (go_at_call 74; (with_reducible refine (spec_l4Has.calls k2 _ _ y116 ((rd_T69 l0_3 x4_2).f0) true _ (sc_ HR119) HC119.out A23.out).mono ?_); rintro e w' ⟨rfl, ⟨nd, rfl⟩⟩; (try first | exact ⟨rfl, _, World.drewN_drewN _ _ _⟩ | exact ⟨rfl, _, Eq.trans (World.drewN_drewN _ _ _) (congrArg (World.drewN _) (Nat.add_assoc _ _ _))⟩))))
        go_ret
        exact ⟨ab7, ab2 GE114⟩
       ·have H' := am H
        clear H
        obtain ⟨⟨_, _, _, _, _, _, _⟩, _, _, _, _, _, _, _⟩ := Op.cells7 BK114.out
        have q28 : (x4_2 : Int) ≤ ((l0_3.length : Int) : Int) := of_decide_eq_true ab4
        obtain ⟨i028, hi028, _, hsz28, _⟩ := info_parts info69
        have hroom28 : l0_3.length ≤ c0_3 := HC0_3.out
        have hC28 : Kd.C k69 _ A0_3 l0_3.length l0_3 := HR0_3.out
        have hcut28 := cut_to (P := Try.prog) 36 69 .i64 Try.underlying36 hi028 A0_3 l0_3.length c0_3 x4_2 (of_decide_eq_true ab4) q28 hroom28
        have hr28 := Kd.C_take (m := (x4_2 : Int).toNat) hC28 (by omega)
        have hy28 : y116.length = (x4_2 : Int).toNat := (by rw [Ny116.out, List.length_take]; omega)
        rw [← Ny116.out] at hr28
        rw [← hy28] at hcut28
        have HR119 := am hr28
        have HC119 := am (show y116.length ≤ c0_3 from by omega)
        clear hr28 hC28 hroom28 hi028 hsz28
        have KY28 := am hy28
        clear hy28
        replace q28 := eq_true q28
        have p120 : 0 ≤ (x4_2 : Int) := of_decide_eq_true ab4
        have q120 : x4_2 < (l0_3.length : Int) := of_decide_eq_true ab4
        obtain ⟨ad120, e120, hx120_0, hx120_1⟩ := at_T69 HR0_3.out x4_2 p120 q120
        cases e120
        replace hx120_0 := pc_ HB hx120_0
        replace hx120_1 := pc_ HB hx120_1
        replace p120 := eq_true p120
        replace q120 := eq_true q120
        go_wp2_with (first | (go_at_call 74; (with_reducible refine (spec_l4Has.calls k2 _ _ y116 ((rd_T69 l0_3 x4_2).f0) false _ (sc_ HR119) HC119.out A23.out).mono ?_); rintro e w' ⟨rfl, ⟨nd, rfl⟩⟩; (try first | exact ⟨rfl, _, World.drewN_drewN _ _ _⟩ | exact ⟨rfl, _, Eq.trans (World.drewN_drewN _ _ _) (congrArg (World.drewN _) (Nat.add_assoc _ _ _))⟩)))
        repeat (go_quiet (first | (go_at_call 74; (with_reducible refine (spec_l4Has.calls k2 _ _ y116 ((rd_T69 l0_3 x4_2).f0) false _ (sc_ HR119) HC119.out A23.out).mono ?_); rintro e w' ⟨rfl, ⟨nd, rfl⟩⟩; (try first | exact ⟨rfl, _, World.drewN_drewN _ _ _⟩ | exact ⟨rfl, _, Eq.trans (World.drewN_drewN _ _ _) (congrArg (World.drewN _) (Nat.add_assoc _ _ _))⟩))); try go_wp2_with (first | (go_at_call 74; (with_reducible refine (spec_l4Has.calls k2 _ _ y116 ((rd_T69 l0_3 x4_2).f0) false _ (sc_ HR119) HC119.out A23.out).mono ?_); rintro e w' ⟨rfl, ⟨nd, rfl⟩⟩; (try first | exact ⟨rfl, _, World.drewN_drewN _ _ _⟩ | exact ⟨rfl, _, Eq.trans (World.drewN_drewN _ _ _) (congrArg (World.drewN _) (Nat.add_assoc _ _ _))⟩))))
        go_roundg k2
        case measure => have := HJ1.out; have := HK2.out; omega
        case rel => exact ⟨(wrap64 (x4_2 + 1)), ab6, H', ⟨by have := HJ1.out; have := HK2.out; omega⟩, ⟨ab3 BK114⟩, ⟨ab2 GE114⟩⟩
      ·replace H := ie_ H; rcases H with ⟨c29b0, c29b1, H⟩ | ⟨c29, c29b0, c29b1, H⟩
       ·obtain rfl := Option.some.inj H
        obtain ⟨⟨_, _, _, _, _, _, _⟩, _, _, _, _, _, _, _⟩ := Op.cells7 BK114.out
        go_wp2
        repeat (go_quiet (fail); try go_wp2)
        go_ret
        exact ⟨ab7, ab2 GE114⟩
       ·replace H := ie_ H; rcases H with ⟨c31b0, c31b1, H⟩ | ⟨c31, c31b0, c31b1, H⟩
        ·obtain rfl := Option.some.inj H
         obtain ⟨⟨_, _, _, _, _, _, _⟩, _, _, _, _, _, _, _⟩ := Op.cells7 BK114.out
         go_wp2
         repeat (go_quiet (fail); try go_wp2)
         go_ret
         exact ⟨ab7, ab2 GE114⟩
        ·replace H := ie_ H; rcases H with ⟨c33b0, c33b1, H⟩ | ⟨c33, c33b0, c33b1, H⟩
         ·obtain rfl := Option.some.inj H
          obtain ⟨⟨_, _, _, _, _, _, _⟩, _, _, _, _, _, _, _⟩ := Op.cells7 BK114.out
          go_wp2
          repeat (go_quiet (fail); try go_wp2)
          go_ret
          exact ⟨ab7, ab2 GE114⟩
         ·replace H := ie_ H; rcases H with ⟨c35b0, c35b1, H⟩ | ⟨c35, c35b0, c35b1, H⟩
          ·obtain rfl := Option.some.inj H
           obtain ⟨⟨_, _, _, _, _, _, _⟩, _, _, _, _, _, _, _⟩ := Op.cells7 BK114.out
           go_wp2
           repeat (go_quiet (fail); try go_wp2)
           go_ret
           exact ⟨ab7, ab2 GE114⟩
          ·obtain rfl := Option.some.inj H
           obtain ⟨⟨_, _, _, _, _, _, _⟩, _, _, _, _, _, _, _⟩ := Op.cells7 BK114.out
           go_wp2
           repeat (go_quiet (fail); try go_wp2)
           go_ret
           exact ⟨ab7, ab2 GE114⟩
def spec_l1Bit.f (a0 : Bool) : Option (Int) := if a0 = true then (some 1) else (some 0)
theorem spec_l1Bit.calls (a0 : Bool) (r : Int) (w : World) (h : spec_l1Bit.f a0 = some r) :
  Calls Try.prog 62 #[.bool a0] w fun e w' => e = .returned (.int .i64 r) ∧ Drawn0 w w' := by
 have H : (if a0 = true then (some 1) else (some 0)) = some r := h
 clear h
 replace H := ib_ H; rcases H with ⟨rfl, H⟩ | ⟨rfl, H⟩
 ·obtain rfl := Option.some.inj H
  go_enter Try.func62, Try.ntmps62
  go_wp2
  go_ret
  exact ⟨ab6, by repeat (first | exact Drawn0.refl _ | apply Drawn0.step)⟩
 ·obtain rfl := Option.some.inj H
  go_enter Try.func62, Try.ntmps62
  go_wp2
  go_ret
  exact ⟨ab6, by repeat (first | exact Drawn0.refl _ | apply Drawn0.step)⟩
end Go.Proofs.Ytekkalnafngfeaa.P
