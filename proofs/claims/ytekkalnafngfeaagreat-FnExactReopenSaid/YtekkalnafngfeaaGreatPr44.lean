-- WRITTEN BY this session's own programs
import Derived.Test.YtekkalnafngfeaaGreatPr2
import Derived.Test.YtekkalnafngfeaaGreatPr26
import Derived.Test.YtekkalnafngfeaaGreatPr31
import Derived.Test.YtekkalnafngfeaaGreatPr20
import Derived.Shelf.Spec.SlicesInsertGrow
import Derived.Test.YtekkalnafngfeaaGreatVPrw
namespace Go.Proofs.YtekkalnafngfeaaGreat.P
open Go.RowKit Go.Proofs.YtekkalnafngfeaaGreatW.PrintWords Go.Proofs.YtekkalnafngfeaaGreatW.PrintLast Go.Proofs.YtekkalnafngfeaaGreatW.PrintMore Go Go.Shelf
set_option linter.unusedVariables false
set_option linter.unusedSimpArgs false
set_option maxHeartbeats 8000000
set_option maxRecDepth 100000
attribute [local go_sem] max2_int min2_int max_two min_two max_three min_three max_four min_four
theorem z32_0 {q0 p : Prop} (g0 : Aside0 q0) (h : Aside0 q0 → p := by intro g0_; repeat (first | (with_reducible first | exact g0_.out | apply IsS31.alloc | apply IsS31.drewN | apply IsS31.drew | apply IsS31.set_3 | apply IsS31.set_4) | exact g0_.out)) : p := h g0
theorem z32_1 {p : Prop} (h : p := by repeat (first | (with_reducible first | exact HB.out | apply below_alloc | apply pw_below_drewN | apply below_drew1) | exact HB.out)) : p := h
theorem z32_2 {p : Prop} (h : p := by repeat (first | (with_reducible first | exact HK.out | apply KeepBut.set_ | apply keep_drewN | apply keep_drew | apply keep_alloc) | exact HK.out)) : p := h
def impl_Page_place.f (k : Nat) (s0_0 : List (S53)) (s0_1 : List Int) (s0_2 : List Int) (s0_3 : Int) (s0_4 : Int) : Option (Int × Int × Int × Int) := (impl_Page_inTable.f s0_0 s0_1 s0_2 s0_3 s0_4).bind fun bt361 => (if bt361.1 = true then ((impl_Page_tableOpen.f s0_0 s0_1 s0_2 bt361.2.1 bt361.2.2).bind fun bt367 => (if bt367.1 < 0 then ((impl_Page_last.f s0_0 s0_1 s0_2 bt367.2.1 bt367.2.2).bind fun bt370 => (some (bt370.1, (-1), bt370.2.1, bt370.2.2))) else (if 0 ≤ bt367.1 then (if bt367.1 < (s0_1.length : Int) then (if 0 ≤ (rd s0_1 bt367.1) then (if (rd s0_1 bt367.1) < (s0_0.length : Int) then (if 0 ≤ ((rd_T53 s0_0 (rd s0_1 bt367.1)).f5) then (if ((rd_T53 s0_0 (rd s0_1 bt367.1)).f5) < (s0_0.length : Int) then ((slices_Index_int_int.f k ((rd_T53 s0_0 ((rd_T53 s0_0 (rd s0_1 bt367.1)).f5)).f6) (rd s0_1 bt367.1)).bind fun t376 => (some ((rd_T53 s0_0 (rd s0_1 bt367.1)).f5, t376, bt367.2.1, bt367.2.2))) else (none)) else (none)) else (none)) else (none)) else (none)) else (none)))) else ((impl_Page_last.f s0_0 s0_1 s0_2 bt361.2.1 bt361.2.2).bind fun bt364 => (some (bt364.1, (-1), bt364.2.1, bt364.2.2))))
theorem impl_Page_place.calls (k : Nat) (g : Nat) (s0_0 : List (S53)) (s0_1 : List Int) (s0_2 : List Int) (s0_3 : Int) (s0_4 : Int) (r1 : Int) (r2 : Int) (r3 : Int) (r4 : Int) (w0 w : World) (hI : IsS31 w0 w g s0_0 s0_1 s0_2 s0_3 s0_4) (hB : Below w0.heap.size w0 w) (M_ : Int) (hm_ : w0.cell? ⟨0, 0, none⟩ = some (.int .i64 M_)) (h : impl_Page_place.f k s0_0 s0_1 s0_2 s0_3 s0_4 = some (r1, r2, r3, r4)) :
  Calls Tryz.prog 66 #[.pointer (some ⟨g, 0, none⟩)] w fun e w' => e = .returned (.tuple #[.int .i64 r1, .int .i64 r2]) ∧ IsS31 w0 w' g s0_0 s0_1 s0_2 r3 r4 ∧ Below w0.heap.size w0 w' ∧ KeepBut w w' g none := by
 have HI0 := am hI
 have HK := am (KeepBut.refl w g none)
 have HL := am hB.size
 clear hI
 have HW0 := am hB.size
 have HB := am hB
 clear hB
 have HM_ := am hm_
 clear hm_
 have H : ((impl_Page_inTable.f s0_0 s0_1 s0_2 s0_3 s0_4).bind fun bt361 => (if bt361.1 = true then ((impl_Page_tableOpen.f s0_0 s0_1 s0_2 bt361.2.1 bt361.2.2).bind fun bt367 => (if bt367.1 < 0 then ((impl_Page_last.f s0_0 s0_1 s0_2 bt367.2.1 bt367.2.2).bind fun bt370 => (some (bt370.1, (-1), bt370.2.1, bt370.2.2))) else (if 0 ≤ bt367.1 then (if bt367.1 < (s0_1.length : Int) then (if 0 ≤ (rd s0_1 bt367.1) then (if (rd s0_1 bt367.1) < (s0_0.length : Int) then (if 0 ≤ ((rd_T53 s0_0 (rd s0_1 bt367.1)).f5) then (if ((rd_T53 s0_0 (rd s0_1 bt367.1)).f5) < (s0_0.length : Int) then ((slices_Index_int_int.f k ((rd_T53 s0_0 ((rd_T53 s0_0 (rd s0_1 bt367.1)).f5)).f6) (rd s0_1 bt367.1)).bind fun t376 => (some ((rd_T53 s0_0 (rd s0_1 bt367.1)).f5, t376, bt367.2.1, bt367.2.2))) else (none)) else (none)) else (none)) else (none)) else (none)) else (none)))) else ((impl_Page_last.f s0_0 s0_1 s0_2 bt361.2.1 bt361.2.2).bind fun bt364 => (some (bt364.1, (-1), bt364.2.1, bt364.2.2))))) = some (r1, r2, r3, r4) := h
 clear h
 replace H := Option.bind_eq_some_iff.mp H
 obtain ⟨⟨t361, t362, t363⟩, A20, H⟩ := H
 try dsimp only at H
 have A2 := am A20
 clear A20
 replace H := ib_ H; rcases H with ⟨rfl, H⟩ | ⟨rfl, H⟩
 ·replace H := Option.bind_eq_some_iff.mp H
  obtain ⟨⟨t367, t368, t369⟩, A40, H⟩ := H
  try dsimp only at H
  have A4 := am A40
  clear A40
  replace H := ir_ H; rcases H with ⟨c5b0, H⟩ | ⟨c5b0, H⟩
  ·replace H := Option.bind_eq_some_iff.mp H
   obtain ⟨⟨t370, t371, t372⟩, A60, H⟩ := H
   try dsimp only at H
   have A6 := am A60
   clear A60
   simp only [Option.some.injEq, Prod.mk.injEq] at H
   obtain ⟨rfl, rfl, rfl, rfl⟩ := H
   go_enter Tryz.func66, Tryz.ntmps66
   go_wp2_with (first | ((with_reducible refine gf_ 94 ?_); refine gc_ Tryz.func94 (impl_Page_inTable.calls g s0_0 s0_1 s0_2 s0_3 s0_4 true t362 t363 w0 _ ?side1 ?side2 M_ HM_.out A2.out) ?_; (case side1 => exact (z32_0 HI0)); (case side2 => exact (z32_1)); rintro w7 ⟨hi, hb, hk⟩; replace HK := am (KeepBut.trans (z32_2) hk (.inl rfl)); replace HB := am hb; replace HI0 := am hi; (try clear hb); (try clear hk); (try clear hi)) | ((with_reducible refine gf_ 96 ?_); refine gc_ Tryz.func96 (impl_Page_tableOpen.calls g s0_0 s0_1 s0_2 t362 t363 t367 t368 t369 w0 _ ?side1 ?side2 A4.out) ?_; (case side1 => exact (z32_0 HI0)); (case side2 => exact (z32_1)); rintro w8 ⟨hi, hb, hk⟩; replace HK := am (KeepBut.trans (z32_2) hk (.inl rfl)); replace HB := am hb; replace HI0 := am hi; (try clear hb); (try clear hk); (try clear hi)) | ((with_reducible refine gf_ 95 ?_); refine gc_ Tryz.func95 (impl_Page_last.calls g s0_0 s0_1 s0_2 t368 t369 t370 t371 t372 w0 _ ?side1 ?side2 A6.out) ?_; (case side1 => exact (z32_0 HI0)); (case side2 => exact (z32_1)); rintro w9 ⟨hi, hb, hk⟩; replace HK := am (KeepBut.trans (z32_2) hk (.inl rfl)); replace HB := am hb; replace HI0 := am hi; (try clear hb); (try clear hk); (try clear hi)))
   go_ret2
   exact ⟨ab7, (z32_0 HI0), ab1, z32_2⟩
  ·replace H := iq_ H; obtain ⟨c10b0, H⟩ := H
   replace H := iq_ H; obtain ⟨c11b0, H⟩ := H
   replace H := iq_ H; obtain ⟨c12b0, H⟩ := H
   replace H := iq_ H; obtain ⟨c13b0, H⟩ := H
   replace H := iq_ H; obtain ⟨c14b0, H⟩ := H
   replace H := iq_ H; obtain ⟨c15b0, H⟩ := H
   replace H := bi_ H; obtain ⟨t376, A16, H⟩ := H
   simp only [Option.some.injEq, Prod.mk.injEq] at H
   obtain ⟨rfl, rfl, rfl, rfl⟩ := H
   go_enter Tryz.func66, Tryz.ntmps66
   go_wp2_with (first | ((with_reducible refine gf_ 94 ?_); refine gc_ Tryz.func94 (impl_Page_inTable.calls g s0_0 s0_1 s0_2 s0_3 s0_4 true t362 t363 w0 _ ?side1 ?side2 M_ HM_.out A2.out) ?_; (case side1 => exact (z32_0 HI0)); (case side2 => exact (z32_1)); rintro w17 ⟨hi, hb, hk⟩; replace HK := am (KeepBut.trans (z32_2) hk (.inl rfl)); replace HB := am hb; replace HI0 := am hi; (try clear hb); (try clear hk); (try clear hi)) | ((with_reducible refine gf_ 96 ?_); refine gc_ Tryz.func96 (impl_Page_tableOpen.calls g s0_0 s0_1 s0_2 t362 t363 t367 t368 t369 w0 _ ?side1 ?side2 A4.out) ?_; (case side1 => exact (z32_0 HI0)); (case side2 => exact (z32_1)); rintro w18 ⟨hi, hb, hk⟩; replace HK := am (KeepBut.trans (z32_2) hk (.inl rfl)); replace HB := am hb; replace HI0 := am hi; (try clear hb); (try clear hk); (try clear hi); obtain ⟨ASz19_0, cSz19_0, ASz19_1, cSz19_1, ASz19_2, cSz19_2, HGz19, hgz19, HSz19_0, HSz19_1, HSz19_2⟩ := HI0.out; obtain ⟨⟨_, _, _, _, _⟩, _, _, _, _, _⟩ := Op.cells5 HGz19; clear HGz19 hgz19; have p373 : 0 ≤ (t367 : Int) := of_decide_eq_true ab4; have q373 : t367 < (s0_1.length : Int) := of_decide_eq_true ab4; obtain ⟨ad373, e373, hx373_0⟩ := Kd.at_int HSz19_1 t367 p373 q373; cases e373; replace hx373_0 := pc_ HB hx373_0; replace p373 := eq_true p373; replace q373 := eq_true q373; have p374 : 0 ≤ ((rd s0_1 t367) : Int) := of_decide_eq_true ab4; have q374 : (rd s0_1 t367) < (s0_0.length : Int) := of_decide_eq_true ab4; obtain ⟨ad374, A374_3, c374_3, A374_6, c374_6, e374, hx374_0, hx374_1, hx374_2, hx374_3, hx374_4, hx374_5, hx374_6, hl374_3, hi374_3, hl374_6, hi374_6⟩ := at_T53 HSz19_0 (rd s0_1 t367) p374 q374; cases e374; replace hx374_0 := pc_ HB hx374_0; replace hx374_1 := pc_ HB hx374_1; replace hx374_2 := pc_ HB hx374_2; replace hx374_3 := pc_ HB hx374_3; replace hx374_4 := pc_ HB hx374_4; replace hx374_5 := pc_ HB hx374_5; replace hx374_6 := pc_ HB hx374_6; have HR374_3 := am hi374_3; have HC374_3 := am hl374_3; clear hi374_3 hl374_3; have HR374_6 := am hi374_6; have HC374_6 := am hl374_6; clear hi374_6 hl374_6; replace p374 := eq_true p374; replace q374 := eq_true q374; have p375 : 0 ≤ (((rd_T53 s0_0 (rd s0_1 t367)).f5) : Int) := of_decide_eq_true ab4; have q375 : ((rd_T53 s0_0 (rd s0_1 t367)).f5) < (s0_0.length : Int) := of_decide_eq_true ab4; obtain ⟨ad375, A375_3, c375_3, A375_6, c375_6, e375, hx375_0, hx375_1, hx375_2, hx375_3, hx375_4, hx375_5, hx375_6, hl375_3, hi375_3, hl375_6, hi375_6⟩ := at_T53 HSz19_0 ((rd_T53 s0_0 (rd s0_1 t367)).f5) p375 q375; obtain rfl : ad374 = ad375 := (by injection e375); replace hx375_0 := pc_ HB hx375_0; replace hx375_1 := pc_ HB hx375_1; replace hx375_2 := pc_ HB hx375_2; replace hx375_3 := pc_ HB hx375_3; replace hx375_4 := pc_ HB hx375_4; replace hx375_5 := pc_ HB hx375_5; replace hx375_6 := pc_ HB hx375_6; have HR375_3 := am hi375_3; have HC375_3 := am hl375_3; clear hi375_3 hl375_3; have HR375_6 := am hi375_6; have HC375_6 := am hl375_6; clear hi375_6 hl375_6; replace p375 := eq_true p375; replace q375 := eq_true q375) | ((with_reducible refine gf_ 62 ?_); refine gc_ Tryz.func62 (slices_Index_int_int.calls k _ _ ((rd_T53 s0_0 ((rd_T53 s0_0 (rd s0_1 t367)).f5)).f6) (rd s0_1 t367) t376 _ (Kd.C_below HR375_6.out ab1) HC375_6.out A16.out) ?_; rintro w' ⟨nd, rfl⟩))
   go_ret2
   exact ⟨ab7, (z32_0 HI0), ab1, z32_2⟩
 ·replace H := Option.bind_eq_some_iff.mp H
  obtain ⟨⟨t364, t365, t366⟩, A200, H⟩ := H
  try dsimp only at H
  have A20 := am A200
  clear A200
  simp only [Option.some.injEq, Prod.mk.injEq] at H
  obtain ⟨rfl, rfl, rfl, rfl⟩ := H
  go_enter Tryz.func66, Tryz.ntmps66
  go_wp2_with (first | ((with_reducible refine gf_ 94 ?_); refine gc_ Tryz.func94 (impl_Page_inTable.calls g s0_0 s0_1 s0_2 s0_3 s0_4 false t362 t363 w0 _ ?side1 ?side2 M_ HM_.out A2.out) ?_; (case side1 => exact (z32_0 HI0)); (case side2 => exact (z32_1)); rintro w21 ⟨hi, hb, hk⟩; replace HK := am (KeepBut.trans (z32_2) hk (.inl rfl)); replace HB := am hb; replace HI0 := am hi; (try clear hb); (try clear hk); (try clear hi)) | ((with_reducible refine gf_ 95 ?_); refine gc_ Tryz.func95 (impl_Page_last.calls g s0_0 s0_1 s0_2 t362 t363 t364 t365 t366 w0 _ ?side1 ?side2 A20.out) ?_; (case side1 => exact (z32_0 HI0)); (case side2 => exact (z32_1)); rintro w22 ⟨hi, hb, hk⟩; replace HK := am (KeepBut.trans (z32_2) hk (.inl rfl)); replace HB := am hb; replace HI0 := am hi; (try clear hb); (try clear hk); (try clear hi)))
  go_ret2
  exact ⟨ab7, (z32_0 HI0), ab1, z32_2⟩
theorem sets_blk {t : TypeId} {b : Nat} : ∀ (vs : List Value) (o : Nat) (w : World) (cs : Array Value), w.heap[b]? = some (.cells cs t (0, 0)) → ∃ cs', (w.setCells b o vs).heap[b]? = some (.cells cs' t (0, 0)) ∧ cs'.size = cs.size
 | [], _, _, cs, h => ⟨cs, h, rfl⟩
 | v :: r, o, w, cs, h => by
  obtain ⟨cs', h1, h2⟩ := sets_blk r (o + 1) (w.setCell ⟨b, o, none⟩ v) _ (blk_set h o v)
  exact ⟨cs', h1, by rw [h2, Array.size_setIfInBounds]⟩
theorem sets_far {b k : Nat} (hk : k ≠ b) : ∀ (vs : List Value) (o : Nat) (w : World), (w.setCells b o vs).heap[k]? = w.heap[k]?
 | [], _, _ => rfl
 | v :: r, o, w => by
  rw [World.setCells, sets_far hk r (o + 1)]
  exact Below.heap_setCell w ⟨b, o, none⟩ v k hk
theorem sets_size {b : Nat} : ∀ (vs : List Value) (o : Nat) (w : World), (w.setCells b o vs).heap.size = w.heap.size
 | [], _, _ => rfl
 | v :: r, o, w => by rw [World.setCells, sets_size r (o + 1), World.size_setCell]
theorem sets_same {b : Nat} : ∀ (vs : List Value) (o : Nat) (w : World), (w.setCells b o vs).os = w.os ∧ (w.setCells b o vs).tape = w.tape ∧ (w.setCells b o vs).output = w.output
 | [], _, _ => ⟨rfl, rfl, rfl⟩
 | v :: r, o, w => by
  obtain ⟨h1, h2, h3⟩ := sets_same r (o + 1) (w.setCell ⟨b, o, none⟩ v)
  exact ⟨h1, h2, h3⟩
/-- A row of whole numbers, by its cells. -/
theorem row_of_cells {w : World} {base b n cap : Nat} {ok : Nat → Prop} {cur : Array Value} {zs : List Int} (hb : w.heap[b]? = some (.cells cur 3 (0, 0))) (hbase : base ≤ b) (hok : ok b) (hz : zs.length = n) (hn : n ≤ cap) (hc : cap ≤ maxLen) (hs : cur.size = cap)
  (hcell : ∀ j (h : j < zs.length), w.cell? ⟨b, j, none⟩ = some (.int .i64 zs[j])) : Kd.R (Kd.int .i64) 3 w base ok (.slice (some ⟨b, 0, none⟩) n cap) zs := by
 subst hz
 refine Kd.R_of_own ⟨by rw [encs_length, Nat.mul_one], .inr ⟨b, cap, cur, rfl, hbase, hb, hn, hc, by rw [hs, Nat.mul_one], ?_⟩⟩ (fun k hk => by
  have : b = k := by simpa [Value.ownBlock] using hk
  subst this
  exact hok)
 apply List.ext_getElem?
 intro j
 rw [Nat.mul_one]
 by_cases hj : j < zs.length
 ·rw [List.getElem?_take, if_pos hj, Array.getElem?_toList, ← blk_cell hb j, hcell j hj]
  unfold encs
  rw [List.getElem?_map, List.getElem?_eq_getElem hj]
  rfl
 ·rw [List.getElem?_eq_none (by rw [List.length_take]; omega), List.getElem?_eq_none (by rw [encs_length]; omega)]
/-- The list with k put in at i, number by number. -/
theorem ins_at (xs : List Int) (i : Nat) (k : Int) (hi : i ≤ xs.length) (j : Nat) (h : j < (xs.take i ++ k :: xs.drop i).length) :
  (xs.take i ++ k :: xs.drop i)[j] = if j < i then xs.getD j 0 else if j = i then k else xs.getD (j - 1) 0 := by
 have hl : j < xs.length + 1 := by rw [List.length_append, List.length_take, List.length_cons, List.length_drop, Nat.min_eq_left hi] at h; omega
 by_cases hj : j < i
 ·rw [if_pos hj, List.getElem_append_left (by rw [List.length_take]; omega), List.getElem_take, List.getD_eq_getElem?_getD, List.getElem?_eq_getElem (by omega)]
  rfl
 ·rw [if_neg hj, List.getElem_append_right (by rw [List.length_take]; omega)]
  by_cases e : j = i
  ·subst e
   rw [if_pos rfl]
   simp [List.length_take, Nat.min_eq_left hi]
  ·rw [if_neg e]
   have e2 : j - (xs.take i).length = (j - i - 1) + 1 := by rw [List.length_take, Nat.min_eq_left hi]; omega
   simp only [e2, List.getElem_cons_succ, List.getElem_drop]
   rw [List.getD_eq_getElem?_getD, List.getElem?_eq_getElem (by omega)]
   show _ = xs[j - 1]
   congr 1
   omega
theorem ins_length (xs : List Int) (i : Nat) (k : Int) (hi : i ≤ xs.length) : (xs.take i ++ k :: xs.drop i).length = xs.length + 1 := by
 rw [List.length_append, List.length_take, List.length_cons, List.length_drop, Nat.min_eq_left hi]; omega
/-- A row of one's own: nil, or a block. -/
theorem own_form {w : World} {base : Nat} {ok : Nat → Prop} {v : Value} {xs : List Int} (h : Kd.R (Kd.int .i64) 3 w base ok v xs) :
  (v = .slice none 0 0 ∧ xs = []) ∨ ∃ b cap cur, v = .slice (some ⟨b, 0, none⟩) xs.length cap ∧ base ≤ b ∧ ok b ∧ w.heap[b]? = some (.cells cur 3 (0, 0)) ∧ xs.length ≤ cap ∧ cap ≤ maxLen ∧ cur.size = cap ∧ ∀ j, j < xs.length → w.cell? ⟨b, j, none⟩ = some (.int .i64 (xs.getD j 0)) := by
 obtain ⟨_, h2⟩ := Kd.own_of_R h
 rcases h2 with ⟨rfl, h3⟩ | ⟨b, cap, cur, rfl, hb, hh, hn, hc, hs, ht⟩
 ·exact .inl ⟨rfl, List.eq_nil_of_length_eq_zero h3⟩
 ·refine .inr ⟨b, cap, cur, rfl, hb, h.1 b (by simp [Value.ownBlock]), hh, hn, hc, by rw [hs, Nat.mul_one], fun j hj => ?_⟩
  rw [blk_cell hh j]
  have e : (cur.toList.take (xs.length * 1))[j]? = (encs (Value.int .i64) xs)[j]? := by rw [ht]
  rw [Nat.mul_one, List.getElem?_take, if_pos hj, Array.getElem?_toList] at e
  rw [e]
  unfold encs
  rw [List.getElem?_map, List.getElem?_eq_getElem hj, List.getD_eq_getElem?_getD, List.getElem?_eq_getElem hj]
  rfl
section
variable {w w' : World} {base b cap i vb : Nat} {ok : Nat → Prop} {cur : Array Value} {xs : List Int} {k : Int}
/-- In place: what lies behind i moved on by one, k put in. -/
theorem ins_shift (hh : w.heap[b]? = some (.cells cur 3 (0, 0))) (hs : cur.size = cap) (hn : xs.length + 1 ≤ cap) (hc : cap ≤ maxLen) (hb : base ≤ b) (hok : ok b) (hi : i ≤ xs.length) (hcell : ∀ j, j < xs.length → w.cell? ⟨b, j, none⟩ = some (.int .i64 (xs.getD j 0)))
  (vs : List Value) (hvs : vs = (xs.drop i).map (Value.int .i64)) : Kd.R (Kd.int .i64) 3 ((w.setCells b (i + 1) vs).setCells b i [.int .i64 k]) base ok (.slice (some ⟨b, 0, none⟩) (xs.length + 1) cap) (xs.take i ++ k :: xs.drop i) ∧ w.grownBy ((w.setCells b (i + 1) vs).setCells b i [.int .i64 k]) (some b) := by
 subst hvs
 have hsome : ∀ (W : World) (cs : Array Value), W.heap[b]? = some (.cells cs 3 (0, 0)) → cs.size = cap → ∀ j, j < cap → (W.cell? ⟨b, j, none⟩).isSome = true := by
  intro W cs h1 h2 j hj
  rw [blk_cell h1 j, Array.getElem?_eq_getElem (by omega)]
  rfl
 obtain ⟨c1, h1, s1⟩ := sets_blk ((xs.drop i).map (Value.int .i64)) (i + 1) w cur hh
 obtain ⟨c2, h2, s2⟩ := sets_blk [.int .i64 k] i (w.setCells b (i + 1) ((xs.drop i).map (Value.int .i64))) c1 h1
 refine ⟨row_of_cells h2 hb hok (ins_length xs i k hi) hn hc (by omega) (fun j hj => ?_), ?_⟩
 ·rw [ins_at xs i k hi j hj]
  rw [ins_length xs i k hi] at hj
  by_cases e : j = i
  ·subst e
   rw [if_neg (Nat.lt_irrefl _), if_pos rfl]
   exact World.cell?_setCells_in b [.int .i64 k] j _ (fun q hq => hsome _ c1 h1 (by omega) (j + q) (by simp at hq; omega)) 0 (by simp)
  ·rw [World.cell?_setCells_out b [.int .i64 k] i _ _ (fun _ _ => by show j < i ∨ i + 1 ≤ j; omega)]
   by_cases hj2 : j < i
   ·rw [if_pos hj2, World.cell?_setCells_out b _ (i + 1) w _ (fun _ _ => by show j < i + 1 ∨ _; omega)]
    exact hcell j (by omega)
   ·rw [if_neg hj2, if_neg e]
    have hq : j - (i + 1) < ((xs.drop i).map (Value.int .i64)).length := by rw [List.length_map, List.length_drop]; omega
    have := World.cell?_setCells_in b ((xs.drop i).map (Value.int .i64)) (i + 1) w (fun q hq2 => hsome w cur hh hs (i + 1 + q) (by rw [List.length_map, List.length_drop] at hq2; omega)) (j - (i + 1)) hq
    rw [show i + 1 + (j - (i + 1)) = j by omega] at this
    rw [this, List.getElem_map, List.getElem_drop, List.getD_eq_getElem?_getD, List.getElem?_eq_getElem (by omega)]
    congr 2
    show _ = xs[j - 1]
    congr 1
    omega
 ·obtain ⟨o1, t1, p1⟩ := sets_same (b := b) ((xs.drop i).map (Value.int .i64)) (i + 1) w
  obtain ⟨o2, t2, p2⟩ := sets_same (b := b) [.int .i64 k] i (w.setCells b (i + 1) ((xs.drop i).map (Value.int .i64)))
  refine ⟨o2.trans o1, t2.trans t1, p2.trans p1, by rw [sets_size, sets_size]; exact Nat.le_refl _, fun q _ hne => ?_⟩
  have hqb : q ≠ b := fun e => hne (by rw [e])
  rw [sets_far hqb, sets_far hqb]
/-- In a new block, whose first i cells hold what they held: k put in, then what lies behind it. -/
theorem ins_fresh {W : World} (hh : W.heap[b]? = some (.cells cur 3 (0, 0))) (hs : cur.size = cap) (hn : xs.length + 1 ≤ cap) (hc : cap ≤ maxLen) (hb : base ≤ b) (hok : ok b) (hi : i ≤ xs.length) (hcell : ∀ j, j < i → W.cell? ⟨b, j, none⟩ = some (.int .i64 (xs.getD j 0))) :
  Kd.R (Kd.int .i64) 3 ((W.setCells b i [.int .i64 k]).drew.setCells b (i + 1) ((xs.drop i).map (Value.int .i64))) base ok (.slice (some ⟨b, 0, none⟩) (xs.length + 1) cap) (xs.take i ++ k :: xs.drop i) := by
 have hsome : ∀ (W : World) (cs : Array Value), W.heap[b]? = some (.cells cs 3 (0, 0)) → cs.size = cap → ∀ j, j < cap → (W.cell? ⟨b, j, none⟩).isSome = true := by
  intro W cs h1 h2 j hj
  rw [blk_cell h1 j, Array.getElem?_eq_getElem (by omega)]
  rfl
 obtain ⟨c1, h1, s1⟩ := sets_blk [.int .i64 k] i W cur hh
 have h1' : (W.setCells b i [.int .i64 k]).drew.heap[b]? = some (.cells c1 3 (0, 0)) := h1
 obtain ⟨c2, h2, s2⟩ := sets_blk ((xs.drop i).map (Value.int .i64)) (i + 1) (W.setCells b i [.int .i64 k]).drew c1 h1'
 refine row_of_cells h2 hb hok (ins_length xs i k hi) hn hc (by omega) (fun j hj => ?_)
 rw [ins_at xs i k hi j hj]
 rw [ins_length xs i k hi] at hj
 by_cases hj2 : j ≤ i
 ·rw [World.cell?_setCells_out b _ (i + 1) _ _ (fun _ _ => by show j < i + 1 ∨ _; omega)]
  show (W.setCells b i [.int .i64 k]).cell? ⟨b, j, none⟩ = _
  by_cases e : j = i
  ·subst e
   rw [if_neg (Nat.lt_irrefl _), if_pos rfl]
   exact World.cell?_setCells_in b [.int .i64 k] j _ (fun q hq => hsome _ cur hh hs (j + q) (by simp at hq; omega)) 0 (by simp)
  ·rw [World.cell?_setCells_out b [.int .i64 k] i _ _ (fun _ _ => by show j < i ∨ i + 1 ≤ j; omega), if_pos (by omega)]
   exact hcell j (by omega)
 ·rw [if_neg (by omega), if_neg (by omega)]
  have hq : j - (i + 1) < ((xs.drop i).map (Value.int .i64)).length := by rw [List.length_map, List.length_drop]; omega
  have := World.cell?_setCells_in b ((xs.drop i).map (Value.int .i64)) (i + 1) (W.setCells b i [.int .i64 k]).drew (fun q hq2 => hsome _ c1 h1' (by omega) (i + 1 + q) (by rw [List.length_map, List.length_drop] at hq2; omega)) (j - (i + 1)) hq
  rw [show i + 1 + (j - (i + 1)) = j by omega] at this
  rw [this, List.getElem_map, List.getElem_drop, List.getD_eq_getElem?_getD, List.getElem?_eq_getElem (by omega)]
  congr 2
  show _ = xs[j - 1]
  congr 1
  omega
end
theorem AppendOwn_size (n : Nat) : (Builtin.zeroCells (Value.int .i64 0).cells n).size = n := by rw [size_zeroCells]; show n * 1 = n; omega
theorem alloc_size (w : World) (o : Obj) : w.heap.size < (w.alloc o).heap.size := by
 show w.heap.size < (w.heap.push o).size
 rw [Array.size_push]; omega
theorem app_at (l : List Value) (Z : Array Value) (j : Nat) (h : j < l.length) : (l.toArray ++ Z)[j]? = some l[j] := by
 rw [Array.getElem?_append_left (by rw [List.size_toArray]; exact h), List.getElem?_toArray, List.getElem?_eq_getElem h]
/-- slices.Insert(s, i, k): the row with k put in at i; it is the old block, or a new one; no other block is touched. -/
theorem insert_calls {P : Program} {ρ : Ren} (L : Lays2.n21 P ρ) (h3 : ρ.t 3 = 3) {w : World} {base : Nat} {ok : Nat → Prop} {v : Value} {xs : List Int} {i : Nat} {k : Int} {vb : Nat} (hi : i ≤ xs.length) (hl : xs.length < 17592186044415) (HO : Kd.R (Kd.int .i64) 3 w base ok v xs)
  (hbase : base ≤ w.heap.size) (hv : w.heap[vb]? = some (.cells #[.int .i64 k] 3 (0, 0))) (hne : some vb ≠ v.ownBlock) (hok : ∀ q, w.heap.size ≤ q → ok q) :
  Calls P (ρ.f 21) #[v, .int .i64 i, .slice (some ⟨vb, 0, none⟩) 1 1] w fun e w' => ∃ v1, e = .returned v1 ∧ Kd.R (Kd.int .i64) 3 w' base ok v1 (xs.take i ++ k :: xs.drop i) ∧ (v1.ownBlock = v.ownBlock ∨ ∃ b, v1.ownBlock = some b ∧ w.heap.size ≤ b) ∧
   (∀ q, q < w.heap.size → some q ≠ v.ownBlock → w'.heap[q]? = w.heap[q]?) ∧ w.heap.size ≤ w'.heap.size ∧ w'.os = w.os ∧ w'.tape = w.tape ∧ w'.output = w.output := by
 have hvs : ∀ j u, ([.int .i64 k] : List Value)[j]? = some u → w.cell? ⟨vb, 0 + j, none⟩ = some u := by
  intro j u hj
  rw [Nat.zero_add, blk_cell hv j]
  rw [show (#[Value.int .i64 k] : Array Value) = [Value.int .i64 k].toArray from rfl, List.getElem?_toArray]
  exact hj
 have h1v : ∀ u ∈ ([.int .i64 k] : List Value), u.oneCell' = true := by intro u hu; rw [List.mem_singleton] at hu; subst hu; rfl
 have hml : xs.length + 1 ≤ maxLen := by unfold maxLen; omega
 rcases own_form HO with ⟨rfl, rfl⟩ | ⟨b, cap, cur, rfl, hb, hbok, hh, hn, hc, hs, hcell⟩
 ·obtain rfl : i = 0 := by simpa using hi
  have hg := grownCap_ge w (0 + 1) 0 (ρ.t 3)
  have hgl := grownCap_le_maxLen w (0 + 1) 0 (ρ.t 3) (by unfold maxLen; omega)
  refine (Any2.slices_Insert_int_end_grow L none 0 0 vb 0 1 1 [] [.int .i64 k] w (by omega) (Nat.le_refl _) (by omega) (by omega) rfl rfl (fun _ => rfl) (fun a ha => by cases ha) hvs h1v).mono ?_
  rintro e w' ⟨rfl, rfl⟩
  rw [h3] at hg hgl ⊢
  generalize hG : grownCap w (0 + 1) 0 3 = G at *
  have hh' : (w.drew.alloc (.cells (([] ++ [Value.int .i64 k]).toArray ++ Builtin.zeroCells (Value.int .i64 0).cells (G - (0 + 1))) 3 (0, 0))).heap[w.heap.size]? = _ := blk_new w.drew _
  refine ⟨_, rfl, row_of_cells (zs := [k]) hh' hbase (hok _ (Nat.le_refl _)) rfl hg hgl ?_ (fun j hj => ?_), .inr ⟨w.heap.size, by simp [Value.ownBlock], Nat.le_refl _⟩, fun q hq _ => (Below.heap_alloc w.drew _ q hq), ?_, rfl, rfl, rfl⟩
  ·rw [Array.size_append, AppendOwn_size]; show 1 + _ = G; omega
  ·obtain rfl : j = 0 := by simpa using hj
   rw [blk_cell hh' 0]
   exact app_at ([] ++ [.int .i64 k]) _ 0 (by simp)
  ·exact Nat.le_of_lt (alloc_size w.drew _)
 ·have hxl : (xs.map (Value.int .i64)).length = xs.length := List.length_map ..
  have hcs : ∀ j u, (xs.map (Value.int .i64))[j]? = some u → w.cell? ⟨b, 0 + j, none⟩ = some u := by
   intro j u hj
   rw [List.getElem?_map] at hj
   obtain ⟨q, hq, rfl⟩ := Option.map_eq_some_iff.1 hj
   obtain ⟨hjl, hqe⟩ := List.getElem?_eq_some_iff.1 hq
   rw [Nat.zero_add, hcell j hjl, List.getD_eq_getElem?_getD, hq]
   rfl
  have h1c : ∀ u ∈ xs.map (Value.int .i64), u.oneCell' = true := by
   intro u hu
   obtain ⟨q, _, rfl⟩ := List.mem_map.1 hu
   rfl
  have hdrop : (xs.map (Value.int .i64)).drop i = (xs.drop i).map (Value.int .i64) := (List.map_drop ..).symm
  have hvb : vb ≠ b := fun e => hne (by rw [e]; simp [Value.ownBlock])
  have hbl : b < w.heap.size := blk_lt hh
  have hsome : ∀ j, j < cap → (w.cell? ⟨b, j, none⟩).isSome = true := by
   intro j hj
   rw [blk_cell hh j, Array.getElem?_eq_getElem (by omega)]
   rfl
  have hc63 : cap ≤ 9223372036854775807 := hc
  by_cases hroom : xs.length + 1 ≤ cap
  ·by_cases hin : i < xs.length
   ·refine (Any2.slices_Insert_int_shift L b 0 xs.length cap i vb 0 1 1 (xs.map (Value.int .i64)) [.int .i64 k] w hin (by omega) hroom hc63 hvb hxl rfl hcs (fun j hj => by rw [Nat.zero_add]; exact hsome j (by omega)) (fun j _ => blk_frozen hh _) hvs h1c h1v 3 3 1 cur.size (by simp [World.shape?, hv]) (by simp [World.shape?, hh]) (by omega) (blk_frozen hv 0) (blk_frozen hv 1)).mono ?_
    rintro e w' ⟨rfl, rfl⟩
    simp only [Nat.zero_add, hdrop]
    obtain ⟨r1, r2⟩ := ins_shift (w := w.drew) (k := k) (i := i) hh hs hroom hc hb hbok hi hcell _ rfl
    exact ⟨_, rfl, r1, .inl (by simp [Value.ownBlock]), fun q hq hq2 => r2.block q hq (by simpa [Value.ownBlock] using hq2), r2.size, r2.os, r2.tape, r2.output⟩
   ·obtain rfl : i = xs.length := by omega
    refine (Any2.slices_Insert_int_end_room L b 0 xs.length cap vb 0 1 1 [.int .i64 k] w (by omega) hroom hc63 rfl (fun j hj => by rw [Nat.zero_add]; exact hsome _ (by omega)) (fun j _ => blk_frozen hh _) hvs h1v).mono ?_
    rintro e w' ⟨rfl, rfl⟩
    simp only [Nat.zero_add]
    obtain ⟨r1, r2⟩ := ins_shift (w := w) (k := k) (i := xs.length) hh hs hroom hc hb hbok hi hcell [] (by rw [List.drop_length]; rfl)
    exact ⟨_, rfl, r1, .inl (by simp [Value.ownBlock]), fun q hq hq2 => r2.block q hq (by simpa [Value.ownBlock] using hq2), r2.size, r2.os, r2.tape, r2.output⟩
  ·have hg := grownCap_ge w (xs.length + 1) cap (ρ.t 3)
   have hgl := grownCap_le_maxLen w (xs.length + 1) cap (ρ.t 3) hml
   by_cases hin : i < xs.length
   ·refine (Any2.slices_Insert_int_grow L b 0 xs.length cap i vb 0 1 1 (xs.map (Value.int .i64)) [.int .i64 k] w hin (by omega) hn (by omega) (by omega) hxl rfl hcs hvs h1c h1v).mono ?_
    rintro e w' ⟨rfl, rfl⟩
    rw [h3] at hg hgl ⊢
    generalize grownCap w (xs.length + 1) cap 3 = G at *
    rw [hdrop]
    have hh' := blk_new w (.cells (((xs.map (Value.int .i64)).take i).toArray ++ Builtin.zeroCells (Value.int .i64 0).cells (xs.length + 1 - i) ++ Builtin.zeroCells (Value.int .i64 0).cells (G - (xs.length + 1))) 3 (0, 0))
    refine ⟨_, rfl, ins_fresh (W := (w.alloc _).drew) (base := base) (ok := ok) (k := k) hh' ?_ hg hgl hbase (hok _ (Nat.le_refl _)) hi (fun j hj => ?_), .inr ⟨w.heap.size, by simp [Value.ownBlock], Nat.le_refl _⟩, fun q hq _ => ?_, ?_, ?_, ?_, ?_⟩
    ·rw [Array.size_append, Array.size_append, AppendOwn_size, AppendOwn_size, List.size_toArray, List.length_take, hxl]; omega
    ·rw [show ((w.alloc _).drew.cell? ⟨w.heap.size, j, none⟩) = _ from blk_cell hh' j, Array.append_assoc, app_at _ _ j (by rw [List.length_take, hxl]; omega), List.getElem_take, List.getElem_map, List.getD_eq_getElem?_getD, List.getElem?_eq_getElem (by omega)]
     rfl
    ·rw [sets_far (by omega)]
     show ((w.alloc _).drew.setCells w.heap.size i [.int .i64 k]).heap[q]? = _
     rw [sets_far (by omega)]
     exact Below.heap_alloc w _ q hq
    ·rw [sets_size]
     show _ ≤ ((w.alloc _).drew.setCells w.heap.size i [.int .i64 k]).heap.size
     rw [sets_size]
     exact Nat.le_of_lt (alloc_size w _)
    ·exact (sets_same _ _ _).1.trans (sets_same (b := w.heap.size) [.int .i64 k] i _).1
    ·exact (sets_same _ _ _).2.1.trans (sets_same (b := w.heap.size) [.int .i64 k] i _).2.1
    ·exact (sets_same _ _ _).2.2.trans (sets_same (b := w.heap.size) [.int .i64 k] i _).2.2
   ·obtain rfl : i = xs.length := by omega
    refine (Any2.slices_Insert_int_end_grow L (some ⟨b, 0, none⟩) xs.length cap vb 0 1 1 (xs.map (Value.int .i64)) [.int .i64 k] w (by omega) hn (by omega) (by omega) hxl rfl (fun h => by cases h) (fun a ha j u hj => by
     cases ha
     rw [Addr.add_lit]
     exact hcs j u hj) hvs h1v).mono ?_
    rintro e w' ⟨rfl, rfl⟩
    rw [h3] at hg hgl ⊢
    generalize grownCap w (xs.length + 1) cap 3 = G at *
    have hh' : (w.drew.alloc (.cells ((xs.map (Value.int .i64) ++ [Value.int .i64 k]).toArray ++ Builtin.zeroCells (Value.int .i64 0).cells (G - (xs.length + 1))) 3 (0, 0))).heap[w.heap.size]? = _ := blk_new w.drew _
    refine ⟨_, rfl, row_of_cells hh' hbase (hok _ (Nat.le_refl _)) (ins_length xs _ k hi) hg hgl ?_ (fun j hj => ?_), .inr ⟨w.heap.size, by simp [Value.ownBlock], Nat.le_refl _⟩, fun q hq _ => Below.heap_alloc w.drew _ q hq, Nat.le_of_lt (alloc_size w.drew _), rfl, rfl, rfl⟩
    ·rw [Array.size_append, AppendOwn_size, List.size_toArray, List.length_append, hxl]; show xs.length + 1 + _ = G; omega
    ·have hjl := hj
     rw [ins_length xs _ k hi] at hjl
     rw [blk_cell hh' j, app_at _ _ j (by rw [List.length_append, hxl]; exact hjl), ins_at xs _ k hi j hj]
     by_cases e : j < xs.length
     ·rw [if_pos e, List.getElem_append_left (by rw [hxl]; exact e), List.getElem_map, List.getD_eq_getElem?_getD, List.getElem?_eq_getElem e]
      rfl
     ·obtain rfl : j = xs.length := by omega
      rw [if_neg (Nat.lt_irrefl _), if_pos rfl, List.getElem_append_right (by rw [hxl]; exact Nat.le_refl _)]
      simp
/-- The kids of item i, read; what a call makes of them in their own block or in a new one, stored. -/
theorem S_kids_store {w : World} {base : Nat} {ok : Nat → Prop} {g n cap : Nat} {xs : List S53} (hS : Kd.S k53 53 w base ok (.slice (some ⟨g, 0, none⟩) n cap) xs) (i : Int) (h0 : 0 ≤ i) (h1 : i < n) (hok : ∀ k, w.heap.size ≤ k → ok k) (hg : g < w.heap.size) :
  ∃ (A6 : Option Addr) (c6 : Nat), w.cell? ⟨g, i.toNat * 7 + 6, none⟩ = some (.slice A6 (rd_T53 xs i).f6.length c6) ∧ (∀ j, w.frozen? ⟨g, i.toNat * 7 + j, none⟩ = false) ∧ (rd_T53 xs i).f6.length ≤ c6 ∧
   Kd.R (Kd.int .i64) 3 w base (fun k => (some k = (.slice A6 (rd_T53 xs i).f6.length c6 : Value).ownBlock ∧ ok k ∧ k ≠ g) ∨ w.heap.size ≤ k) (.slice A6 (rd_T53 xs i).f6.length c6) (rd_T53 xs i).f6 ∧
   ∀ (w1 : World) (v1 : Value) (r2 : List Int), Kd.R (Kd.int .i64) 3 w1 base (fun k => (some k = (.slice A6 (rd_T53 xs i).f6.length c6 : Value).ownBlock ∧ ok k ∧ k ≠ g) ∨ w.heap.size ≤ k) v1 r2 → Kept w w1 (fun k => some k = (.slice A6 (rd_T53 xs i).f6.length c6 : Value).ownBlock) →
    Kd.S k53 53 (w1.setCell ⟨g, i.toNat * 7 + 6, none⟩ v1) base ok (.slice (some ⟨g, 0, none⟩) n cap) (xs.set i.toNat (⟨(rd_T53 xs i).f0, (rd_T53 xs i).f1, (rd_T53 xs i).f2, (rd_T53 xs i).f3, (rd_T53 xs i).f4, (rd_T53 xs i).f5, r2⟩ : S53)) ∧ w1.grownBy (w1.setCell ⟨g, i.toNat * 7 + 6, none⟩ v1) (some g) := by
 obtain ⟨oki, c, hcl, hM, hcc, hfr, hoki, hH⟩ := Kd.S_elem hS z53 i h0 h1
 obtain ⟨v3, v6, rfl, g3, g6⟩ := k53_openM hM
 obtain ⟨A6, c6, rfl⟩ := Kd.R_slice g6
 have hle := (Kd.R_reads' g6).2.1
 refine ⟨A6, c6, hcc 6 _ rfl, hfr, hle, Kd.R_mono (Kd.R_tight2 rfl g6) (fun k hk => Or.inl ⟨hk.1, hoki k hk.2⟩), fun w1 v1 r2 hr hk => ?_⟩
 have g3' := other_type (S := fun _ => True) rfl rfl (by decide) g3 g6 (hk.mono (fun k h => ⟨h, trivial⟩))
 have hH1 := Kd.H_step (w1 := w1) (Kd.H_widen hH) (fun k _ hn hlt => hk.2 k hlt (fun hp => hn (Or.inl (g6.1 k hp.symm))))
 obtain ⟨_, hone⟩ := Kd.R_val hr
 obtain ⟨h3, h4⟩ := Kd.H_seg hH1 h0 h1 (seg := [v1]) (j := 6) (by show 6 + 1 ≤ 7; omega) (fun q hq => by rw [List.mem_singleton] at hq; subst hq; exact hone)
 refine ⟨?_, h4⟩
 have G6 := Kd.R_far hr (p := ⟨g, i.toNat * 7 + 6, none⟩) (fun k hk => hk.elim (fun h => h.2.2) (fun h => by show k ≠ g; omega)) v1
 have G3 := Kd.R_far g3' (p := ⟨g, i.toNat * 7 + 6, none⟩) (fun k hk => (hoki k hk).2) v1
 have hM2 := k53_mkM (w1.setCell ⟨g, i.toNat * 7 + 6, none⟩ v1) base (fun k => oki k ∨ ok k ∧ w.heap.size ≤ k) (⟨(rd_T53 xs i).f0, (rd_T53 xs i).f1, (rd_T53 xs i).f2, (rd_T53 xs i).f3, (rd_T53 xs i).f4, (rd_T53 xs i).f5, r2⟩ : S53) (Kd.R_mono G3 (fun k hk => Or.inl hk)) (Kd.R_mono G6 (fun k hk => hk.elim (fun h => Or.inl (g6.1 k h.1.symm)) (fun h => Or.inr ⟨hok k h, h⟩)))
 exact Kd.H_back h3 hM2 (fun k hk => hk)
/-- Where a number goes in: at its place, or last where the place is out of range. -/
def hang_at (at_ : Int) (n : Nat) : Nat := if 0 ≤ at_ ∧ at_ ≤ (n : Int) then at_.toNat else n
def impl_hang.f (l0 : List S53) (a1 a2 : Int) (a3_0 a3_1 : Int) (a3_2 : ByteArray) (l3_3 : List S56) (a3_4 : ByteArray) : Option (List S53 × Int) :=
 (impl_copyAttrs.f l3_3).bind fun t => if l0.length < 1353245080339 ∧ 0 ≤ a1 ∧ a1 < ((l0 ++ [(⟨a3_0, a3_1, a3_2, t, a3_4, a1, ([] : List Int)⟩ : S53)]).length : Int) ∧ (rd_T53 (l0 ++ [(⟨a3_0, a3_1, a3_2, t, a3_4, a1, ([] : List Int)⟩ : S53)]) a1).f6.length < 17592186044415 then
  some ((l0 ++ [(⟨a3_0, a3_1, a3_2, t, a3_4, a1, ([] : List Int)⟩ : S53)]).set a1.toNat ⟨(rd_T53 (l0 ++ [(⟨a3_0, a3_1, a3_2, t, a3_4, a1, ([] : List Int)⟩ : S53)]) a1).f0, (rd_T53 (l0 ++ [(⟨a3_0, a3_1, a3_2, t, a3_4, a1, ([] : List Int)⟩ : S53)]) a1).f1, (rd_T53 (l0 ++ [(⟨a3_0, a3_1, a3_2, t, a3_4, a1, ([] : List Int)⟩ : S53)]) a1).f2, (rd_T53 (l0 ++ [(⟨a3_0, a3_1, a3_2, t, a3_4, a1, ([] : List Int)⟩ : S53)]) a1).f3, (rd_T53 (l0 ++ [(⟨a3_0, a3_1, a3_2, t, a3_4, a1, ([] : List Int)⟩ : S53)]) a1).f4, (rd_T53 (l0 ++ [(⟨a3_0, a3_1, a3_2, t, a3_4, a1, ([] : List Int)⟩ : S53)]) a1).f5, (rd_T53 (l0 ++ [(⟨a3_0, a3_1, a3_2, t, a3_4, a1, ([] : List Int)⟩ : S53)]) a1).f6.take (hang_at a2 (rd_T53 (l0 ++ [(⟨a3_0, a3_1, a3_2, t, a3_4, a1, ([] : List Int)⟩ : S53)]) a1).f6.length) ++ (l0.length : Int) :: (rd_T53 (l0 ++ [(⟨a3_0, a3_1, a3_2, t, a3_4, a1, ([] : List Int)⟩ : S53)]) a1).f6.drop (hang_at a2 (rd_T53 (l0 ++ [(⟨a3_0, a3_1, a3_2, t, a3_4, a1, ([] : List Int)⟩ : S53)]) a1).f6.length)⟩, (l0.length : Int)) else none
theorem impl_hang.calls (P0_ : Nat → Prop) (v0 : Value) (l0 : List S53) (a1 a2 : Int) (a3_0 a3_1 : Int) (a3_2 : ByteArray) (A3_3 : Option Addr) (c3_3 : Nat) (l3_3 : List S56) (a3_4 : ByteArray) (a3_5 : Int) (A3_6 : Option Addr) (n3_6 c3_6 : Nat) (r1 : List S53) (r2 : Int) (w0 w : World) (hB : Below w0.heap.size w0 w) (ho : Kd.S k53 53 w w0.heap.size P0_ v0 l0) (hr3 : Kd.C k56 w A3_3 l3_3.length l3_3) (hc3 : l3_3.length ≤ c3_3) (h : impl_hang.f l0 a1 a2 a3_0 a3_1 a3_2 l3_3 a3_4 = some (r1, r2)) :
  Calls Tryz.prog 98 #[v0, .int .i64 a1, .int .i64 a2, .agg #[.int .i64 a3_0, .int .i64 a3_1, .string a3_2, .slice A3_3 l3_3.length c3_3, .string a3_4, .int .i64 a3_5, .slice A3_6 n3_6 c3_6]] w fun e w' => ∃ v1_ : Value, e = .returned (.tuple #[v1_, .int .i64 r2]) ∧ Kd.S k53 53 w' w0.heap.size (fun k => P0_ k ∨ w.heap.size ≤ k) v1_ r1 ∧ Below w0.heap.size w0 w' ∧ Kept w w' P0_ := by
 unfold impl_hang.f at h
 replace h := Option.bind_eq_some_iff.mp h
 obtain ⟨t, A60, h⟩ := h
 generalize hx : (⟨a3_0, a3_1, a3_2, t, a3_4, a1, ([] : List Int)⟩ : S53) = x at h
 generalize hy : l0 ++ [x] = y at h
 split at h
 case isFalse => exact absurd h (by simp)
 case isTrue hc =>
 obtain ⟨cl, p1, q1, c6⟩ := hc
 have cle : (y.length : Int) = l0.length + 1 := by rw [← hy]; simp
 have CLE := am cle
 clear cle
 have A6 := am A60
 clear A60
 have CL := am cl
 have C6 := am c6
 clear cl c6
 have HX := am hx
 have HY := am hy
 clear hx hy
 obtain ⟨A0, c0, rfl⟩ := Kd.S_slice ho
 have HS : Aside0 (Kd.S k53 53 w w0.heap.size (fun k => P0_ k ∧ k < w.heap.size) (.slice A0 l0.length c0) l0) := ⟨Kd.S_mono (Kd.S_bound ho) (fun k hk => ⟨hk.1, hk.2.2.1⟩)⟩
 have HL := am (Kd.S_lt ho)
 have HB := am hB
 have HW0 := am hB.size
 have HK := am (Kept.refl w P0_)
 have HR3 := am hr3
 have HC3 := am hc3
 clear ho hB hr3 hc3
 have P1 := am p1
 have Q1 := am q1
 clear p1 q1
 by_cases cin : 0 ≤ a2 ∧ a2 ≤ ((rd_T53 y a1).f6.length : Int)
 ·obtain ⟨n2, rfl⟩ : ∃ n : Nat, a2 = (n : Int) := ⟨a2.toNat, by omega⟩
  have HI := am (show n2 ≤ (rd_T53 y a1).f6.length by omega)
  have HIN := am (show impl_inRange.f (n2 : Int) 0 ((rd_T53 y a1).f6.length : Int) = some true by unfold impl_inRange.f; rw [if_pos cin.1, decide_eq_true cin.2])
  rw [show hang_at (n2 : Int) (rd_T53 y a1).f6.length = n2 by unfold hang_at; rw [if_pos cin]; rfl] at h
  clear cin
  simp only [Option.some.injEq, Prod.mk.injEq] at h
  obtain ⟨rfl, rfl⟩ := h
  obtain ⟨r6, hr6_⟩ : ∃ r : List Int, r = (rd_T53 y a1).f6.take n2 ++ (l0.length : Int) :: (rd_T53 y a1).f6.drop n2 := ⟨_, rfl⟩
  rw [← hr6_]
  have HRR := am hr6_
  clear hr6_
  go_enter Tryz.func98, Tryz.ntmps98
  go_wp2_with (first | ((with_reducible refine gd_ 7 ?_); refine bx_ 7 (cs := #[.int .i64 a3_0, .int .i64 a3_1, .string a3_2, .slice A3_3 l3_3.length c3_3, .string a3_4, .int .i64 a3_5, .slice A3_6 n3_6 c3_6]) 53 ?_; intro gb hg w1 hbox hb; have GE := am (show w.heap.size ≤ gb by rw [hg]; exact HK.out.1); replace HS := am (Kd.S_below HS.out hb); replace HB := am (below_step HB.out hb); replace HK := am (Kept.below HK.out hb); replace HR3 := am (Kd.C_below HR3.out hb); have BK := am hbox; clear hb hbox hg; obtain ⟨hczz_0, hczz_1, hczz_2, hczz_3, hczz_4, hczz_5, hczz_6⟩ := cl7 BK; obtain ⟨hfzz_0, hfzz_1, hfzz_2, hfzz_3, hfzz_4, hfzz_5, hfzz_6⟩ := fz7 BK) | ((with_reducible refine gf_ 86 ?_); refine gx_ Tryz.func86 (impl_copyAttrs.calls _ _ l3_3 t _ HR3.out HC3.out A6.out) ?_; rintro v3 w2 ⟨ho0, hb⟩; obtain ⟨Ao, co, eo⟩ := Kd.R_slice ho0; subst eo; have HA : Aside0 (Kd.R k56 56 w2 w0.heap.size (fun k => w.heap.size ≤ k ∧ k ≠ gb) (.slice Ao t.length co) t) := ⟨Kd.R_lower (Kd.R_mono (Kd.R_bound ho0) (fun k hk => ⟨Nat.le_trans HK.out.1 hk.2.1, fun e_ => by have := blk_lt BK.out; have := hk.2.1; omega⟩)) (below_size HB.out)⟩; replace HS := am (Kd.S_below HS.out hb); replace HB := am (below_step HB.out hb); replace HK := am (Kept.below HK.out hb); replace BK := am (blk_below BK.out hb); clear ho0 hb HR3; obtain ⟨hcza_0, hcza_1, hcza_2, hcza_3, hcza_4, hcza_5, hcza_6⟩ := cl7 BK; obtain ⟨hfza_0, hfza_1, hfza_2, hfza_3, hfza_4, hfza_5, hfza_6⟩ := fz7 BK) | ((with_reducible refine gate_store (t := 3) (p := 18) rfl ?_); refine store_event (t := 3) (p := 18) (v := ?vo18) (w1 := (w2.setCell ⟨gb, 5, none⟩ (.int .i64 a1))) ?hg ?ho ?hn ?hr ?_; (case ho => rfl); (case hg => rfl); (case hn => rfl); (case hr => first | (go_simp; done) | (go_simp; rfl)); intro w3 hw; replace HA : Aside0 (Kd.R k56 56 w3 w0.heap.size (fun k => w.heap.size ≤ k ∧ k ≠ gb) (.slice Ao t.length co) t) := ⟨by rw [hw]; exact Kd.R_far HA.out (p := ⟨gb, 5, none⟩) (fun _ hk => hk.2) _⟩; replace HS : Aside0 (Kd.S k53 53 w3 w0.heap.size (fun k => P0_ k ∧ k < w.heap.size) (.slice A0 l0.length c0) l0) := ⟨by rw [hw]; exact Kd.S_far HS.out (p := ⟨gb, 5, none⟩) (fun k hk e_ => by have h1_ := hk.2; have h2_ := GE.out; rw [show k = gb from e_] at h1_; omega) _⟩; replace BK : Aside0 (w3.heap[gb]? = some (.cells #[.int .i64 a3_0, .int .i64 a3_1, .string a3_2, .slice A3_3 l3_3.length c3_3, .string a3_4, .int .i64 a1, .slice A3_6 n3_6 c3_6] 53 (0, 0))) := ⟨by rw [hw]; exact blk_put (cs := #[.int .i64 a3_0, .int .i64 a3_1, .string a3_2, .slice A3_3 l3_3.length c3_3, .string a3_4, .int .i64 a3_5, .slice A3_6 n3_6 c3_6]) BK.out 5 _ rfl⟩; replace HB : Aside0 (Below w0.heap.size w0 w3) := ⟨by rw [hw]; exact below_set HB.out (Nat.le_trans HW0.out GE.out)⟩; replace HK : Aside0 (Kept w w3 P0_) := ⟨by rw [hw]; exact Kept.setCell HK.out (Or.inr GE.out) _⟩; clear hw; obtain ⟨hczb0_0, hczb0_1, hczb0_2, hczb0_3, hczb0_4, hczb0_5, hczb0_6⟩ := cl7 BK; obtain ⟨hfzb0_0, hfzb0_1, hfzb0_2, hfzb0_3, hfzb0_4, hfzb0_5, hfzb0_6⟩ := fz7 BK) | ((with_reducible refine gate_store (t := 23) (p := 19) rfl ?_); refine store_event (t := 23) (p := 19) (v := ?vo19) (w1 := (w3.setCell ⟨gb, 6, none⟩ (.slice none 0 0))) ?hg ?ho ?hn ?hr ?_; (case ho => rfl); (case hg => rfl); (case hn => rfl); (case hr => first | (go_simp; done) | (go_simp; rfl)); intro w4 hw; replace HA : Aside0 (Kd.R k56 56 w4 w0.heap.size (fun k => w.heap.size ≤ k ∧ k ≠ gb) (.slice Ao t.length co) t) := ⟨by rw [hw]; exact Kd.R_far HA.out (p := ⟨gb, 6, none⟩) (fun _ hk => hk.2) _⟩; replace HS : Aside0 (Kd.S k53 53 w4 w0.heap.size (fun k => P0_ k ∧ k < w.heap.size) (.slice A0 l0.length c0) l0) := ⟨by rw [hw]; exact Kd.S_far HS.out (p := ⟨gb, 6, none⟩) (fun k hk e_ => by have h1_ := hk.2; have h2_ := GE.out; rw [show k = gb from e_] at h1_; omega) _⟩; replace BK : Aside0 (w4.heap[gb]? = some (.cells #[.int .i64 a3_0, .int .i64 a3_1, .string a3_2, .slice A3_3 l3_3.length c3_3, .string a3_4, .int .i64 a1, .slice none 0 0] 53 (0, 0))) := ⟨by rw [hw]; exact blk_put (cs := #[.int .i64 a3_0, .int .i64 a3_1, .string a3_2, .slice A3_3 l3_3.length c3_3, .string a3_4, .int .i64 a1, .slice A3_6 n3_6 c3_6]) BK.out 6 _ rfl⟩; replace HB : Aside0 (Below w0.heap.size w0 w4) := ⟨by rw [hw]; exact below_set HB.out (Nat.le_trans HW0.out GE.out)⟩; replace HK : Aside0 (Kept w w4 P0_) := ⟨by rw [hw]; exact Kept.setCell HK.out (Or.inr GE.out) _⟩; clear hw; obtain ⟨hczb1_0, hczb1_1, hczb1_2, hczb1_3, hczb1_4, hczb1_5, hczb1_6⟩ := cl7 BK; obtain ⟨hfzb1_0, hfzb1_1, hfzb1_2, hfzb1_3, hfzb1_4, hfzb1_5, hfzb1_6⟩ := fz7 BK) | ((with_reducible refine gate_store (t := 34) (p := 20) rfl ?_); refine store_event (t := 34) (p := 20) (v := ?vo20) (w1 := (w4.setCell ⟨gb, 3, none⟩ (.slice Ao t.length co))) ?hg ?ho ?hn ?hr ?_; (case ho => rfl); (case hg => rfl); (case hn => rfl); (case hr => first | (go_simp; done) | (go_simp; rfl)); intro w5 hw; replace HA : Aside0 (Kd.R k56 56 w5 w0.heap.size (fun k => w.heap.size ≤ k ∧ k ≠ gb) (.slice Ao t.length co) t) := ⟨by rw [hw]; exact Kd.R_far HA.out (p := ⟨gb, 3, none⟩) (fun _ hk => hk.2) _⟩; replace HS : Aside0 (Kd.S k53 53 w5 w0.heap.size (fun k => P0_ k ∧ k < w.heap.size) (.slice A0 l0.length c0) l0) := ⟨by rw [hw]; exact Kd.S_far HS.out (p := ⟨gb, 3, none⟩) (fun k hk e_ => by have h1_ := hk.2; have h2_ := GE.out; rw [show k = gb from e_] at h1_; omega) _⟩; replace BK : Aside0 (w5.heap[gb]? = some (.cells #[.int .i64 a3_0, .int .i64 a3_1, .string a3_2, .slice Ao t.length co, .string a3_4, .int .i64 a1, .slice none 0 0] 53 (0, 0))) := ⟨by rw [hw]; exact blk_put (cs := #[.int .i64 a3_0, .int .i64 a3_1, .string a3_2, .slice A3_3 l3_3.length c3_3, .string a3_4, .int .i64 a1, .slice none 0 0]) BK.out 3 _ rfl⟩; replace HB : Aside0 (Below w0.heap.size w0 w5) := ⟨by rw [hw]; exact below_set HB.out (Nat.le_trans HW0.out GE.out)⟩; replace HK : Aside0 (Kept w w5 P0_) := ⟨by rw [hw]; exact Kept.setCell HK.out (Or.inr GE.out) _⟩; clear hw; obtain ⟨hczb2_0, hczb2_1, hczb2_2, hczb2_3, hczb2_4, hczb2_5, hczb2_6⟩ := cl7 BK; obtain ⟨hfzb2_0, hfzb2_1, hfzb2_2, hfzb2_3, hfzb2_4, hfzb2_5, hfzb2_6⟩ := fz7 BK) | ((with_reducible refine gate_builtin (b := .append) (xs := #[.tmp 21, .tmp 23]) rfl ?_); at_builtin; refine Kd.S_append k53 (w0 := w0) w0.heap.size rfl (.tmp 21) (.tmp 23) 29 53 (.agg #[(.int .i64 0), (.int .i64 0), (.string ⟨#[]⟩), (.slice none 0 0), (.string ⟨#[]⟩), (.int .i64 0), (.slice none 0 0)]) 104 rfl Tryz.underlying29 info53 rfl (by decide) (by omega) (.slice A0 l0.length c0) l0 x [.int .i64 a3_0, .int .i64 a3_1, .string a3_2, .slice Ao t.length co, .string a3_4, .int .i64 a1, .slice none 0 0] (fun k => P0_ k ∨ w.heap.size ≤ k) (fun k => some k = (.slice Ao t.length co : Value).ownBlock) rfl rfl ?aP ?aK ?aF ?aO ?aB ?aS ?aL ?_; (case aP => rw [← HX.out]; exact k53_mkM _ _ _ (⟨a3_0, a3_1, a3_2, t, a3_4, a1, ([] : List Int)⟩ : S53) (Kd.R_tight rfl HA.out) (Kd.R_nil _ _ _ _ _)); (case aK => exact fun k hk => ⟨Or.inr (HA.out.1 k hk.symm).1, fun e_ => by have h1_ := HL.out k e_.symm; have h2_ := (HA.out.1 k hk.symm).1; omega⟩); (case aB => exact HB.out); (case aF => exact fun k hk => Or.inr (Nat.le_trans HK.out.1 hk)); (case aO => exact Kd.S_mono HS.out (fun k hk => ⟨Or.inl hk.1, fun e_ => by have h1_ := hk.2; have h2_ := (HA.out.1 k e_.symm).1; omega⟩)); (case aS => exact below_size HB.out); (case aL => have := CL.out; omega); intro v6 w6 ho hb hg hat; rw [HY.out] at ho; replace HK := am (Kept.of_grown (S := P0_) hg HK.out (fun k e_ => Or.inl ((Kd.S_R HS.out).1 k e_).1)); replace HB := am hb; have HO := am ho; clear hg hb ho hat BK HA HS; obtain ⟨g, cap, eg, gb2, gl, cells, HG⟩ := Kd.S_form HO.out (by have := CLE.out; omega); subst eg; have HGP := am ((Kd.S_R HO.out).1 g rfl); have GB := am gb2; have GL := am gl; clear gb2 gl HG; obtain ⟨A6_, c6_, hx6, hf6, hl6, hr6, hback⟩ := S_kids_store HO.out a1 P1.out Q1.out (fun k hk => Or.inr (Nat.le_trans HK.out.1 hk)) GL.out; have HR6 := am hr6; have HBK := am hback; have HF6 := am (hf6 6); have HX6 := am hx6; clear hr6 hback hf6; have p1_ := eq_true P1.out; have q1_ := eq_true Q1.out) | ((with_reducible refine gf_ 87 ?_); refine gc_ Tryz.func87 (impl_inRange.calls (n2 : Int) 0 ((rd_T53 y a1).f6.length : Int) true _ HIN.out) ?_; rintro w' ⟨nd, rfl⟩; (try (rw [drewN_self w6]))) | ((with_reducible refine gate_callee (f := 111) rfl ?_); refine goesL_ (some 43) rfl rfl Tryz.func111 (by kernel_rfl) rfl #[.slice A6_ (rd_T53 y a1).f6.length c6_, .int .i64 (n2 : Int), .slice (some ⟨w6.heap.size, 0, none⟩) 1 1] rfl ab5 ?_; refine Calls.mono (insert_calls Tryz.slices_Insert_laid rfl (xs := (rd_T53 y a1).f6) (i := n2) (k := (l0.length : Int)) (vb := w6.heap.size) (base := w0.heap.size) (ok := (fun k => (some k = (.slice A6_ (rd_T53 y a1).f6.length c6_ : Value).ownBlock ∧ (P0_ k ∨ w.heap.size ≤ k) ∧ k ≠ g) ∨ w6.heap.size ≤ k)) ?i1 C6.out ?i2 ?i3 ?i4 ?i5 ?i6) ?_; (case i1 => exact HI.out); (case i2 => (with_reducible repeat (first | apply Kd.R_alloc | apply Kd.R_drewN | apply Kd.R_drew)); exact HR6.out); (case i3 => exact Nat.le_trans (below_size HB.out) (Nat.le_of_lt (alloc_size _ _))); (case i4 => exact blk_new _ _); (case i5 => exact fun e_ => by have := Kd.R_lt HR6.out _ e_.symm; omega); (case i6 => exact fun q hq => Or.inr (Nat.le_trans (Nat.le_of_lt (alloc_size _ _)) hq)); rintro e w8 ⟨v8, rfl, hR, hown, hfr, hsz, hos, htp, hou⟩; refine ⟨_, rfl, ?_⟩; rw [← HRR.out] at hR; obtain ⟨Av, cv, ev⟩ := Kd.R_slice hR; subst ev; have h68 : w6.heap.size ≤ w8.heap.size := Nat.le_trans (Nat.le_of_lt (alloc_size _ _)) hsz; have h6 : ∀ q, q < w6.heap.size → some q ≠ (.slice A6_ (rd_T53 y a1).f6.length c6_ : Value).ownBlock → w8.heap[q]? = w6.heap[q]? := (fun q hq hne => (hfr q (Nat.lt_trans hq (alloc_size _ _)) hne).trans (Below.heap_alloc _ _ q hq)); have hK6 : Kept w6 w8 (fun k => some k = (.slice A6_ (rd_T53 y a1).f6.length c6_ : Value).ownBlock) := ⟨h68, fun q hq hne => h6 q hq hne⟩; have HST := am (HBK.out w8 _ _ hR hK6); have gne : some g ≠ (.slice A6_ (rd_T53 y a1).f6.length c6_ : Value).ownBlock := (fun e_ => (HR6.out.1 g e_.symm).elim (fun h_ => h_.2.2 rfl) (fun h_ => by have := GL.out; omega)); have hg8 := h6 g GL.out gne; have hx8 : w8.cell? ⟨g, a1.toNat * 7 + 6, none⟩ = some (.slice A6_ (rd_T53 y a1).f6.length c6_) := cell_kept HX6.out hK6 gne; have hf8 : w8.frozen? ⟨g, a1.toNat * 7 + 6, none⟩ = false := (by have := HF6.out; unfold World.frozen? at this ⊢; rw [hg8]; exact this); replace HK := am (Kept.then_ HK.out hK6 (fun k e_ => (HR6.out.1 k e_.symm).elim (fun h_ => h_.2.1) (fun h_ => Or.inr (Nat.le_trans HK.out.1 h_)))); replace HB : Aside0 (Below w0.heap.size w0 w8) := ⟨⟨hos.trans HB.out.os, htp.trans HB.out.tape, hou.trans HB.out.output, Nat.le_trans HB.out.size h68, fun q hq => (h6 q (Nat.lt_of_lt_of_le hq (below_size HB.out)) (fun e_ => by have := Kd.R_base HR6.out q e_.symm; omega)).trans (HB.out.block q hq)⟩⟩; clear hown hfr hsz hos htp hou h6 hK6 hg8 hR) | ((with_reducible refine gate_store (t := 23) (p := 45) rfl ?_); refine store_event (t := 23) (p := 45) (v := ?vo45) (w1 := (w8.setCell ⟨g, a1.toNat * 7 + 6, none⟩ (.slice Av r6.length cv))) ?hg ?ho ?hn ?hr ?_; (case ho => rfl); (case hg => rfl); (case hn => rfl); (case hr => first | (go_simp; done) | (go_simp; rfl)); intro w9 hw; have HZ : Aside0 (Below w0.heap.size w0 w9) := ⟨by rw [hw]; exact below_set HB.out GB.out⟩; have HKZ : Aside0 (Kept w w9 P0_) := ⟨by rw [hw]; exact Kept.setCell HK.out HGP.out _⟩; rw [← hw] at HST; clear hw))
  go_ret2
  exact ⟨_, by first | rfl | (simp [errW_none, errW_some] <;> rfl), HST.out.1, HZ.out, HKZ.out⟩
 ·have HI := am (Nat.le_refl (rd_T53 y a1).f6.length)
  have HIN := am (show impl_inRange.f a2 0 ((rd_T53 y a1).f6.length : Int) = some false by unfold impl_inRange.f; by_cases c0_ : 0 ≤ a2; (rw [if_pos c0_, decide_eq_false (fun h_ => cin ⟨c0_, h_⟩)]); (rw [if_neg c0_]))
  rw [show hang_at a2 (rd_T53 y a1).f6.length = (rd_T53 y a1).f6.length by unfold hang_at; rw [if_neg cin]] at h
  clear cin
  simp only [Option.some.injEq, Prod.mk.injEq] at h
  obtain ⟨rfl, rfl⟩ := h
  obtain ⟨r6, hr6_⟩ : ∃ r : List Int, r = (rd_T53 y a1).f6.take (rd_T53 y a1).f6.length ++ (l0.length : Int) :: (rd_T53 y a1).f6.drop (rd_T53 y a1).f6.length := ⟨_, rfl⟩
  rw [← hr6_]
  have HRR := am hr6_
  clear hr6_
  go_enter Tryz.func98, Tryz.ntmps98
  go_wp2_with (first | ((with_reducible refine gd_ 7 ?_); refine bx_ 7 (cs := #[.int .i64 a3_0, .int .i64 a3_1, .string a3_2, .slice A3_3 l3_3.length c3_3, .string a3_4, .int .i64 a3_5, .slice A3_6 n3_6 c3_6]) 53 ?_; intro gb hg w1 hbox hb; have GE := am (show w.heap.size ≤ gb by rw [hg]; exact HK.out.1); replace HS := am (Kd.S_below HS.out hb); replace HB := am (below_step HB.out hb); replace HK := am (Kept.below HK.out hb); replace HR3 := am (Kd.C_below HR3.out hb); have BK := am hbox; clear hb hbox hg; obtain ⟨hczz_0, hczz_1, hczz_2, hczz_3, hczz_4, hczz_5, hczz_6⟩ := cl7 BK; obtain ⟨hfzz_0, hfzz_1, hfzz_2, hfzz_3, hfzz_4, hfzz_5, hfzz_6⟩ := fz7 BK) | ((with_reducible refine gf_ 86 ?_); refine gx_ Tryz.func86 (impl_copyAttrs.calls _ _ l3_3 t _ HR3.out HC3.out A6.out) ?_; rintro v3 w2 ⟨ho0, hb⟩; obtain ⟨Ao, co, eo⟩ := Kd.R_slice ho0; subst eo; have HA : Aside0 (Kd.R k56 56 w2 w0.heap.size (fun k => w.heap.size ≤ k ∧ k ≠ gb) (.slice Ao t.length co) t) := ⟨Kd.R_lower (Kd.R_mono (Kd.R_bound ho0) (fun k hk => ⟨Nat.le_trans HK.out.1 hk.2.1, fun e_ => by have := blk_lt BK.out; have := hk.2.1; omega⟩)) (below_size HB.out)⟩; replace HS := am (Kd.S_below HS.out hb); replace HB := am (below_step HB.out hb); replace HK := am (Kept.below HK.out hb); replace BK := am (blk_below BK.out hb); clear ho0 hb HR3; obtain ⟨hcza_0, hcza_1, hcza_2, hcza_3, hcza_4, hcza_5, hcza_6⟩ := cl7 BK; obtain ⟨hfza_0, hfza_1, hfza_2, hfza_3, hfza_4, hfza_5, hfza_6⟩ := fz7 BK) | ((with_reducible refine gate_store (t := 3) (p := 18) rfl ?_); refine store_event (t := 3) (p := 18) (v := ?vo18) (w1 := (w2.setCell ⟨gb, 5, none⟩ (.int .i64 a1))) ?hg ?ho ?hn ?hr ?_; (case ho => rfl); (case hg => rfl); (case hn => rfl); (case hr => first | (go_simp; done) | (go_simp; rfl)); intro w3 hw; replace HA : Aside0 (Kd.R k56 56 w3 w0.heap.size (fun k => w.heap.size ≤ k ∧ k ≠ gb) (.slice Ao t.length co) t) := ⟨by rw [hw]; exact Kd.R_far HA.out (p := ⟨gb, 5, none⟩) (fun _ hk => hk.2) _⟩; replace HS : Aside0 (Kd.S k53 53 w3 w0.heap.size (fun k => P0_ k ∧ k < w.heap.size) (.slice A0 l0.length c0) l0) := ⟨by rw [hw]; exact Kd.S_far HS.out (p := ⟨gb, 5, none⟩) (fun k hk e_ => by have h1_ := hk.2; have h2_ := GE.out; rw [show k = gb from e_] at h1_; omega) _⟩; replace BK : Aside0 (w3.heap[gb]? = some (.cells #[.int .i64 a3_0, .int .i64 a3_1, .string a3_2, .slice A3_3 l3_3.length c3_3, .string a3_4, .int .i64 a1, .slice A3_6 n3_6 c3_6] 53 (0, 0))) := ⟨by rw [hw]; exact blk_put (cs := #[.int .i64 a3_0, .int .i64 a3_1, .string a3_2, .slice A3_3 l3_3.length c3_3, .string a3_4, .int .i64 a3_5, .slice A3_6 n3_6 c3_6]) BK.out 5 _ rfl⟩; replace HB : Aside0 (Below w0.heap.size w0 w3) := ⟨by rw [hw]; exact below_set HB.out (Nat.le_trans HW0.out GE.out)⟩; replace HK : Aside0 (Kept w w3 P0_) := ⟨by rw [hw]; exact Kept.setCell HK.out (Or.inr GE.out) _⟩; clear hw; obtain ⟨hczb0_0, hczb0_1, hczb0_2, hczb0_3, hczb0_4, hczb0_5, hczb0_6⟩ := cl7 BK; obtain ⟨hfzb0_0, hfzb0_1, hfzb0_2, hfzb0_3, hfzb0_4, hfzb0_5, hfzb0_6⟩ := fz7 BK) | ((with_reducible refine gate_store (t := 23) (p := 19) rfl ?_); refine store_event (t := 23) (p := 19) (v := ?vo19) (w1 := (w3.setCell ⟨gb, 6, none⟩ (.slice none 0 0))) ?hg ?ho ?hn ?hr ?_; (case ho => rfl); (case hg => rfl); (case hn => rfl); (case hr => first | (go_simp; done) | (go_simp; rfl)); intro w4 hw; replace HA : Aside0 (Kd.R k56 56 w4 w0.heap.size (fun k => w.heap.size ≤ k ∧ k ≠ gb) (.slice Ao t.length co) t) := ⟨by rw [hw]; exact Kd.R_far HA.out (p := ⟨gb, 6, none⟩) (fun _ hk => hk.2) _⟩; replace HS : Aside0 (Kd.S k53 53 w4 w0.heap.size (fun k => P0_ k ∧ k < w.heap.size) (.slice A0 l0.length c0) l0) := ⟨by rw [hw]; exact Kd.S_far HS.out (p := ⟨gb, 6, none⟩) (fun k hk e_ => by have h1_ := hk.2; have h2_ := GE.out; rw [show k = gb from e_] at h1_; omega) _⟩; replace BK : Aside0 (w4.heap[gb]? = some (.cells #[.int .i64 a3_0, .int .i64 a3_1, .string a3_2, .slice A3_3 l3_3.length c3_3, .string a3_4, .int .i64 a1, .slice none 0 0] 53 (0, 0))) := ⟨by rw [hw]; exact blk_put (cs := #[.int .i64 a3_0, .int .i64 a3_1, .string a3_2, .slice A3_3 l3_3.length c3_3, .string a3_4, .int .i64 a1, .slice A3_6 n3_6 c3_6]) BK.out 6 _ rfl⟩; replace HB : Aside0 (Below w0.heap.size w0 w4) := ⟨by rw [hw]; exact below_set HB.out (Nat.le_trans HW0.out GE.out)⟩; replace HK : Aside0 (Kept w w4 P0_) := ⟨by rw [hw]; exact Kept.setCell HK.out (Or.inr GE.out) _⟩; clear hw; obtain ⟨hczb1_0, hczb1_1, hczb1_2, hczb1_3, hczb1_4, hczb1_5, hczb1_6⟩ := cl7 BK; obtain ⟨hfzb1_0, hfzb1_1, hfzb1_2, hfzb1_3, hfzb1_4, hfzb1_5, hfzb1_6⟩ := fz7 BK) | ((with_reducible refine gate_store (t := 34) (p := 20) rfl ?_); refine store_event (t := 34) (p := 20) (v := ?vo20) (w1 := (w4.setCell ⟨gb, 3, none⟩ (.slice Ao t.length co))) ?hg ?ho ?hn ?hr ?_; (case ho => rfl); (case hg => rfl); (case hn => rfl); (case hr => first | (go_simp; done) | (go_simp; rfl)); intro w5 hw; replace HA : Aside0 (Kd.R k56 56 w5 w0.heap.size (fun k => w.heap.size ≤ k ∧ k ≠ gb) (.slice Ao t.length co) t) := ⟨by rw [hw]; exact Kd.R_far HA.out (p := ⟨gb, 3, none⟩) (fun _ hk => hk.2) _⟩; replace HS : Aside0 (Kd.S k53 53 w5 w0.heap.size (fun k => P0_ k ∧ k < w.heap.size) (.slice A0 l0.length c0) l0) := ⟨by rw [hw]; exact Kd.S_far HS.out (p := ⟨gb, 3, none⟩) (fun k hk e_ => by have h1_ := hk.2; have h2_ := GE.out; rw [show k = gb from e_] at h1_; omega) _⟩; replace BK : Aside0 (w5.heap[gb]? = some (.cells #[.int .i64 a3_0, .int .i64 a3_1, .string a3_2, .slice Ao t.length co, .string a3_4, .int .i64 a1, .slice none 0 0] 53 (0, 0))) := ⟨by rw [hw]; exact blk_put (cs := #[.int .i64 a3_0, .int .i64 a3_1, .string a3_2, .slice A3_3 l3_3.length c3_3, .string a3_4, .int .i64 a1, .slice none 0 0]) BK.out 3 _ rfl⟩; replace HB : Aside0 (Below w0.heap.size w0 w5) := ⟨by rw [hw]; exact below_set HB.out (Nat.le_trans HW0.out GE.out)⟩; replace HK : Aside0 (Kept w w5 P0_) := ⟨by rw [hw]; exact Kept.setCell HK.out (Or.inr GE.out) _⟩; clear hw; obtain ⟨hczb2_0, hczb2_1, hczb2_2, hczb2_3, hczb2_4, hczb2_5, hczb2_6⟩ := cl7 BK; obtain ⟨hfzb2_0, hfzb2_1, hfzb2_2, hfzb2_3, hfzb2_4, hfzb2_5, hfzb2_6⟩ := fz7 BK) | ((with_reducible refine gate_builtin (b := .append) (xs := #[.tmp 21, .tmp 23]) rfl ?_); at_builtin; refine Kd.S_append k53 (w0 := w0) w0.heap.size rfl (.tmp 21) (.tmp 23) 29 53 (.agg #[(.int .i64 0), (.int .i64 0), (.string ⟨#[]⟩), (.slice none 0 0), (.string ⟨#[]⟩), (.int .i64 0), (.slice none 0 0)]) 104 rfl Tryz.underlying29 info53 rfl (by decide) (by omega) (.slice A0 l0.length c0) l0 x [.int .i64 a3_0, .int .i64 a3_1, .string a3_2, .slice Ao t.length co, .string a3_4, .int .i64 a1, .slice none 0 0] (fun k => P0_ k ∨ w.heap.size ≤ k) (fun k => some k = (.slice Ao t.length co : Value).ownBlock) rfl rfl ?aP ?aK ?aF ?aO ?aB ?aS ?aL ?_; (case aP => rw [← HX.out]; exact k53_mkM _ _ _ (⟨a3_0, a3_1, a3_2, t, a3_4, a1, ([] : List Int)⟩ : S53) (Kd.R_tight rfl HA.out) (Kd.R_nil _ _ _ _ _)); (case aK => exact fun k hk => ⟨Or.inr (HA.out.1 k hk.symm).1, fun e_ => by have h1_ := HL.out k e_.symm; have h2_ := (HA.out.1 k hk.symm).1; omega⟩); (case aB => exact HB.out); (case aF => exact fun k hk => Or.inr (Nat.le_trans HK.out.1 hk)); (case aO => exact Kd.S_mono HS.out (fun k hk => ⟨Or.inl hk.1, fun e_ => by have h1_ := hk.2; have h2_ := (HA.out.1 k e_.symm).1; omega⟩)); (case aS => exact below_size HB.out); (case aL => have := CL.out; omega); intro v6 w6 ho hb hg hat; rw [HY.out] at ho; replace HK := am (Kept.of_grown (S := P0_) hg HK.out (fun k e_ => Or.inl ((Kd.S_R HS.out).1 k e_).1)); replace HB := am hb; have HO := am ho; clear hg hb ho hat BK HA HS; obtain ⟨g, cap, eg, gb2, gl, cells, HG⟩ := Kd.S_form HO.out (by have := CLE.out; omega); subst eg; have HGP := am ((Kd.S_R HO.out).1 g rfl); have GB := am gb2; have GL := am gl; clear gb2 gl HG; obtain ⟨A6_, c6_, hx6, hf6, hl6, hr6, hback⟩ := S_kids_store HO.out a1 P1.out Q1.out (fun k hk => Or.inr (Nat.le_trans HK.out.1 hk)) GL.out; have HR6 := am hr6; have HBK := am hback; have HF6 := am (hf6 6); have HX6 := am hx6; clear hr6 hback hf6; have p1_ := eq_true P1.out; have q1_ := eq_true Q1.out) | ((with_reducible refine gf_ 87 ?_); refine gc_ Tryz.func87 (impl_inRange.calls a2 0 ((rd_T53 y a1).f6.length : Int) false _ HIN.out) ?_; rintro w' ⟨nd, rfl⟩; (try (rw [drewN_self w6]))) | ((with_reducible refine gate_callee (f := 111) rfl ?_); refine goesL_ (some 43) rfl rfl Tryz.func111 (by kernel_rfl) rfl #[.slice A6_ (rd_T53 y a1).f6.length c6_, .int .i64 ((rd_T53 y a1).f6.length : Int), .slice (some ⟨w6.heap.size, 0, none⟩) 1 1] rfl ab5 ?_; refine Calls.mono (insert_calls Tryz.slices_Insert_laid rfl (xs := (rd_T53 y a1).f6) (i := (rd_T53 y a1).f6.length) (k := (l0.length : Int)) (vb := w6.heap.size) (base := w0.heap.size) (ok := (fun k => (some k = (.slice A6_ (rd_T53 y a1).f6.length c6_ : Value).ownBlock ∧ (P0_ k ∨ w.heap.size ≤ k) ∧ k ≠ g) ∨ w6.heap.size ≤ k)) ?i1 C6.out ?i2 ?i3 ?i4 ?i5 ?i6) ?_; (case i1 => exact HI.out); (case i2 => (with_reducible repeat (first | apply Kd.R_alloc | apply Kd.R_drewN | apply Kd.R_drew)); exact HR6.out); (case i3 => exact Nat.le_trans (below_size HB.out) (Nat.le_of_lt (alloc_size _ _))); (case i4 => exact blk_new _ _); (case i5 => exact fun e_ => by have := Kd.R_lt HR6.out _ e_.symm; omega); (case i6 => exact fun q hq => Or.inr (Nat.le_trans (Nat.le_of_lt (alloc_size _ _)) hq)); rintro e w8 ⟨v8, rfl, hR, hown, hfr, hsz, hos, htp, hou⟩; refine ⟨_, rfl, ?_⟩; rw [← HRR.out] at hR; obtain ⟨Av, cv, ev⟩ := Kd.R_slice hR; subst ev; have h68 : w6.heap.size ≤ w8.heap.size := Nat.le_trans (Nat.le_of_lt (alloc_size _ _)) hsz; have h6 : ∀ q, q < w6.heap.size → some q ≠ (.slice A6_ (rd_T53 y a1).f6.length c6_ : Value).ownBlock → w8.heap[q]? = w6.heap[q]? := (fun q hq hne => (hfr q (Nat.lt_trans hq (alloc_size _ _)) hne).trans (Below.heap_alloc _ _ q hq)); have hK6 : Kept w6 w8 (fun k => some k = (.slice A6_ (rd_T53 y a1).f6.length c6_ : Value).ownBlock) := ⟨h68, fun q hq hne => h6 q hq hne⟩; have HST := am (HBK.out w8 _ _ hR hK6); have gne : some g ≠ (.slice A6_ (rd_T53 y a1).f6.length c6_ : Value).ownBlock := (fun e_ => (HR6.out.1 g e_.symm).elim (fun h_ => h_.2.2 rfl) (fun h_ => by have := GL.out; omega)); have hg8 := h6 g GL.out gne; have hx8 : w8.cell? ⟨g, a1.toNat * 7 + 6, none⟩ = some (.slice A6_ (rd_T53 y a1).f6.length c6_) := cell_kept HX6.out hK6 gne; have hf8 : w8.frozen? ⟨g, a1.toNat * 7 + 6, none⟩ = false := (by have := HF6.out; unfold World.frozen? at this ⊢; rw [hg8]; exact this); replace HK := am (Kept.then_ HK.out hK6 (fun k e_ => (HR6.out.1 k e_.symm).elim (fun h_ => h_.2.1) (fun h_ => Or.inr (Nat.le_trans HK.out.1 h_)))); replace HB : Aside0 (Below w0.heap.size w0 w8) := ⟨⟨hos.trans HB.out.os, htp.trans HB.out.tape, hou.trans HB.out.output, Nat.le_trans HB.out.size h68, fun q hq => (h6 q (Nat.lt_of_lt_of_le hq (below_size HB.out)) (fun e_ => by have := Kd.R_base HR6.out q e_.symm; omega)).trans (HB.out.block q hq)⟩⟩; clear hown hfr hsz hos htp hou h6 hK6 hg8 hR) | ((with_reducible refine gate_store (t := 23) (p := 45) rfl ?_); refine store_event (t := 23) (p := 45) (v := ?vo45) (w1 := (w8.setCell ⟨g, a1.toNat * 7 + 6, none⟩ (.slice Av r6.length cv))) ?hg ?ho ?hn ?hr ?_; (case ho => rfl); (case hg => rfl); (case hn => rfl); (case hr => first | (go_simp; done) | (go_simp; rfl)); intro w9 hw; have HZ : Aside0 (Below w0.heap.size w0 w9) := ⟨by rw [hw]; exact below_set HB.out GB.out⟩; have HKZ : Aside0 (Kept w w9 P0_) := ⟨by rw [hw]; exact Kept.setCell HK.out HGP.out _⟩; rw [← hw] at HST; clear hw))
  go_ret2
  exact ⟨_, by first | rfl | (simp [errW_none, errW_some] <;> rfl), HST.out.1, HZ.out, HKZ.out⟩
def impl_Page_tagAt.f (k : Nat) (s0 : List S53) (s1 s2 : List Int) (h b up at_ : Int) (a1 : Int) (a2 : ByteArray) (l3 : List S56) (a4 : ByteArray) (a5 : Int) (op : Bool) : Option (Int × List S53 × List Int) :=
 (impl_Page_hasRoom.f s0 s1 s2 h b).bind fun t => if t.1 = true then (impl_itemOk.f k 2 a1 a2 l3 a4 a5 []).bind fun u => if u = true then (impl_hang.f s0 up at_ 2 a1 a2 l3 a4).bind fun z => if op = true ∧ (s1.length : Int) < 40 then some (z.2, z.1, s1 ++ [z.2]) else some (z.2, z.1, s1) else some (0, s0, s1) else some (0, s0, s1)
theorem impl_Page_tagAt.calls (k : Nat) (U : Nat → Prop) (g : Nat) (s0 : List S53) (s1 s2 : List Int) (h b up at_ : Int) (a0 a1 : Int) (a2 : ByteArray) (A3 : Option Addr) (c3 : Nat) (l3 : List S56) (a4 : ByteArray) (a5 : Int) (op : Bool) (r0 : Int) (r1 : List S53) (r2 : List Int) (w0 w : World) (hP : PgS w0.heap.size w U g s0 s1 s2 h b) (hB : Below w0.heap.size w0 w) (hr3 : Kd.C k56 w A3 l3.length l3) (hc3 : l3.length ≤ c3) (H : impl_Page_tagAt.f k s0 s1 s2 h b up at_ a1 a2 l3 a4 a5 op = some (r0, r1, r2)) :
  Calls Tryz.prog 67 #[.pointer (some ⟨g, 0, none⟩), .int .i64 up, .int .i64 at_, .agg #[.int .i64 a0, .int .i64 a1, .string a2, .slice A3 l3.length c3, .string a4, .int .i64 a5, .slice none 0 0], .bool op] w fun e w' => e = .returned (.int .i64 r0) ∧ PgS w0.heap.size w' (fun k => U k ∨ w.heap.size ≤ k) g r1 r2 s2 h b ∧ Below w0.heap.size w0 w' ∧ Kept w w' (fun k => U k ∨ k = g) := by
 unfold impl_Page_tagAt.f at H
 obtain ⟨⟨t, t3, t4⟩, ht, H⟩ := Option.bind_eq_some_iff.mp H
 dsimp only at H
 obtain ⟨v0, v1, v2, hg, hgb, hU, hO⟩ := hP
 obtain ⟨A0, c0, A1, c1, A2, c2, rfl, rfl, rfl, R0, R1, R2⟩ := hO.slices
 have HO := am (hO.bound.mono (U' := fun k => U k ∧ k < w.heap.size) (fun k hk => ⟨hk.1, hk.2.2⟩))
 have HU : Aside0 (∀ k, U k ∧ k < w.heap.size → k ≠ g) := ⟨fun k hk => hU k hk.1⟩
 have HUU := am hU
 have HGL := am (blk_lt hg)
 have BG := am hg
 have HGB := am hgb
 have HP : Aside0 (PgS w0.heap.size w (fun k => U k ∧ k < w.heap.size) g s0 s1 s2 h b) := ⟨⟨_, _, _, hg, hgb, HU.out, HO.out⟩⟩
 have HB := am hB
 have HX := am (Below.refl w.heap.size w)
 have HR3 := am hr3
 have HC3 := am hc3
 have AT := am ht
 clear hO hg hgb hU hB hr3 hc3 R0 R1 R2 ht
 have HEND : Aside0 (∀ k, U k ∨ w.heap.size ≤ k → k ≠ g) := ⟨fun k hk => hk.elim (fun q => HUU.out k q) (fun q => by have := HGL.out; omega)⟩
 cases t with
 | false =>
  rw [if_neg (by simp)] at H
  simp only [Option.some.injEq, Prod.mk.injEq] at H
  obtain ⟨rfl, rfl, rfl⟩ := H
  go_enter Tryz.func67, Tryz.ntmps67
  go_wp2_with (first | ((with_reducible refine gd_ 8 ?_); refine bx_ 8 (cs := #[.int .i64 a0, .int .i64 a1, .string a2, .slice A3 l3.length c3, .string a4, .int .i64 a5, .slice none 0 0]) 53 ?_; intro gb hg w1 hbox hb; have GE := am (show w.heap.size ≤ gb by rw [hg]; exact Nat.le_refl _); replace HX := am (below_step HX.out hb); have BK := am hbox; clear hb hbox hg; obtain ⟨hczz_0, hczz_1, hczz_2, hczz_3, hczz_4, hczz_5, hczz_6⟩ := cl7 BK; obtain ⟨hfzz_0, hfzz_1, hfzz_2, hfzz_3, hfzz_4, hfzz_5, hfzz_6⟩ := fz7 BK) | ((with_reducible refine gate_store (t := 3) (p := 12) rfl ?_); refine store_event (t := 3) (p := 12) (v := ?vo4) (w1 := (w1.setCell ⟨gb, 0, none⟩ (.int .i64 2))) ?hg ?ho ?hn ?hr ?_; (case ho => rfl); (case hg => rfl); (case hn => rfl); (case hr => first | (go_simp; done) | (go_simp; rfl)); intro w2 hw; replace HX : Aside0 (Below w.heap.size w w2) := ⟨by rw [hw]; exact below_set HX.out GE.out⟩; replace BK : Aside0 (w2.heap[gb]? = some (.cells #[.int .i64 2, .int .i64 a1, .string a2, .slice A3 l3.length c3, .string a4, .int .i64 a5, .slice none 0 0] 53 (0, 0))) := ⟨by rw [hw]; exact blk_put (cs := #[.int .i64 a0, .int .i64 a1, .string a2, .slice A3 l3.length c3, .string a4, .int .i64 a5, .slice none 0 0]) BK.out 0 _ rfl⟩; clear hw; obtain ⟨hczy_0, hczy_1, hczy_2, hczy_3, hczy_4, hczy_5, hczy_6⟩ := cl7 BK; obtain ⟨hfzy_0, hfzy_1, hfzy_2, hfzy_3, hfzy_4, hfzy_5, hfzy_6⟩ := fz7 BK) | (go_at_call 97; (refine (impl_Page_hasRoom.calls g s0 s1 s2 h b false t3 t4 _ _ (PgS.isS (HP.out.below HX.out)) (Below.refl _ _) AT.out).mono ?_); rintro e w3 ⟨rfl, hi_, hb, hk_⟩; clear hi_ hk_; replace HX := am (below_step HX.out hb); replace BK := am (blk_below BK.out hb); clear hb; obtain ⟨hczx_0, hczx_1, hczx_2, hczx_3, hczx_4, hczx_5, hczx_6⟩ := cl7 BK; obtain ⟨hfzx_0, hfzx_1, hfzx_2, hfzx_3, hfzx_4, hfzx_5, hfzx_6⟩ := fz7 BK))
  go_ret
  exact ⟨rfl, (HP.out.below HX.out).mono (fun k hk => Or.inl hk.1) HEND.out, below_step HB.out HX.out, Kept.of_below HX.out _⟩
 | true =>
  rw [if_pos rfl] at H
  obtain ⟨u, hu, H⟩ := Option.bind_eq_some_iff.mp H
  have AU := am hu
  clear hu
  cases u with
  | false =>
   rw [if_neg (by simp)] at H
   simp only [Option.some.injEq, Prod.mk.injEq] at H
   obtain ⟨rfl, rfl, rfl⟩ := H
   go_enter Tryz.func67, Tryz.ntmps67
   go_wp2_with (first | ((with_reducible refine gd_ 8 ?_); refine bx_ 8 (cs := #[.int .i64 a0, .int .i64 a1, .string a2, .slice A3 l3.length c3, .string a4, .int .i64 a5, .slice none 0 0]) 53 ?_; intro gb hg w1 hbox hb; have GE := am (show w.heap.size ≤ gb by rw [hg]; exact Nat.le_refl _); replace HX := am (below_step HX.out hb); have BK := am hbox; clear hb hbox hg; obtain ⟨hczz_0, hczz_1, hczz_2, hczz_3, hczz_4, hczz_5, hczz_6⟩ := cl7 BK; obtain ⟨hfzz_0, hfzz_1, hfzz_2, hfzz_3, hfzz_4, hfzz_5, hfzz_6⟩ := fz7 BK) | ((with_reducible refine gate_store (t := 3) (p := 12) rfl ?_); refine store_event (t := 3) (p := 12) (v := ?vo4) (w1 := (w1.setCell ⟨gb, 0, none⟩ (.int .i64 2))) ?hg ?ho ?hn ?hr ?_; (case ho => rfl); (case hg => rfl); (case hn => rfl); (case hr => first | (go_simp; done) | (go_simp; rfl)); intro w2 hw; replace HX : Aside0 (Below w.heap.size w w2) := ⟨by rw [hw]; exact below_set HX.out GE.out⟩; replace BK : Aside0 (w2.heap[gb]? = some (.cells #[.int .i64 2, .int .i64 a1, .string a2, .slice A3 l3.length c3, .string a4, .int .i64 a5, .slice none 0 0] 53 (0, 0))) := ⟨by rw [hw]; exact blk_put (cs := #[.int .i64 a0, .int .i64 a1, .string a2, .slice A3 l3.length c3, .string a4, .int .i64 a5, .slice none 0 0]) BK.out 0 _ rfl⟩; clear hw; obtain ⟨hczy_0, hczy_1, hczy_2, hczy_3, hczy_4, hczy_5, hczy_6⟩ := cl7 BK; obtain ⟨hfzy_0, hfzy_1, hfzy_2, hfzy_3, hfzy_4, hfzy_5, hfzy_6⟩ := fz7 BK) | (go_at_call 97; (refine (impl_Page_hasRoom.calls g s0 s1 s2 h b true t3 t4 _ _ (PgS.isS (HP.out.below HX.out)) (Below.refl _ _) AT.out).mono ?_); rintro e w3 ⟨rfl, hi_, hb, hk_⟩; clear hi_ hk_; replace HX := am (below_step HX.out hb); replace BK := am (blk_below BK.out hb); clear hb; obtain ⟨hczx_0, hczx_1, hczx_2, hczx_3, hczx_4, hczx_5, hczx_6⟩ := cl7 BK; obtain ⟨hfzx_0, hfzx_1, hfzx_2, hfzx_3, hfzx_4, hfzx_5, hfzx_6⟩ := fz7 BK) | (go_at_call 90; (refine (impl_itemOk.calls k 2 a1 a2 A3 c3 l3 a4 a5 none 0 [] false _ (Kd.C_below HR3.out HX.out) HC3.out (Kd.C_nil _ _) (Nat.le_refl 0) AU.out).mono ?_); rintro e w4 ⟨rfl, hb⟩; replace HX := am (below_step HX.out hb); replace BK := am (blk_below BK.out hb); clear hb; obtain ⟨hczu_0, hczu_1, hczu_2, hczu_3, hczu_4, hczu_5, hczu_6⟩ := cl7 BK; obtain ⟨hfzu_0, hfzu_1, hfzu_2, hfzu_3, hfzu_4, hfzu_5, hfzu_6⟩ := fz7 BK))
   go_ret
   exact ⟨rfl, (HP.out.below HX.out).mono (fun k hk => Or.inl hk.1) HEND.out, below_step HB.out HX.out, Kept.of_below HX.out _⟩
  | true =>
   rw [if_pos rfl] at H
   obtain ⟨⟨z1, z2⟩, hz, H⟩ := Option.bind_eq_some_iff.mp H
   dsimp only at H
   have AZ := am hz
   have AH := am H
   clear hz H
   go_enter Tryz.func67, Tryz.ntmps67
   go_wp2_with (first | ((with_reducible refine gd_ 8 ?_); refine bx_ 8 (cs := #[.int .i64 a0, .int .i64 a1, .string a2, .slice A3 l3.length c3, .string a4, .int .i64 a5, .slice none 0 0]) 53 ?_; intro gb hg w1 hbox hb; have GE := am (show w.heap.size ≤ gb by rw [hg]; exact Nat.le_refl _); replace HX := am (below_step HX.out hb); have BK := am hbox; clear hb hbox hg; obtain ⟨hczz_0, hczz_1, hczz_2, hczz_3, hczz_4, hczz_5, hczz_6⟩ := cl7 BK; obtain ⟨hfzz_0, hfzz_1, hfzz_2, hfzz_3, hfzz_4, hfzz_5, hfzz_6⟩ := fz7 BK) | ((with_reducible refine gate_store (t := 3) (p := 12) rfl ?_); refine store_event (t := 3) (p := 12) (v := ?vo4) (w1 := (w1.setCell ⟨gb, 0, none⟩ (.int .i64 2))) ?hg ?ho ?hn ?hr ?_; (case ho => rfl); (case hg => rfl); (case hn => rfl); (case hr => first | (go_simp; done) | (go_simp; rfl)); intro w2 hw; replace HX : Aside0 (Below w.heap.size w w2) := ⟨by rw [hw]; exact below_set HX.out GE.out⟩; replace BK : Aside0 (w2.heap[gb]? = some (.cells #[.int .i64 2, .int .i64 a1, .string a2, .slice A3 l3.length c3, .string a4, .int .i64 a5, .slice none 0 0] 53 (0, 0))) := ⟨by rw [hw]; exact blk_put (cs := #[.int .i64 a0, .int .i64 a1, .string a2, .slice A3 l3.length c3, .string a4, .int .i64 a5, .slice none 0 0]) BK.out 0 _ rfl⟩; clear hw; obtain ⟨hczy_0, hczy_1, hczy_2, hczy_3, hczy_4, hczy_5, hczy_6⟩ := cl7 BK; obtain ⟨hfzy_0, hfzy_1, hfzy_2, hfzy_3, hfzy_4, hfzy_5, hfzy_6⟩ := fz7 BK) | (go_at_call 97; (refine (impl_Page_hasRoom.calls g s0 s1 s2 h b true t3 t4 _ _ (PgS.isS (HP.out.below HX.out)) (Below.refl _ _) AT.out).mono ?_); rintro e w3 ⟨rfl, hi_, hb, hk_⟩; clear hi_ hk_; replace HX := am (below_step HX.out hb); replace BK := am (blk_below BK.out hb); clear hb; obtain ⟨hczx_0, hczx_1, hczx_2, hczx_3, hczx_4, hczx_5, hczx_6⟩ := cl7 BK; obtain ⟨hfzx_0, hfzx_1, hfzx_2, hfzx_3, hfzx_4, hfzx_5, hfzx_6⟩ := fz7 BK) | (go_at_call 90; (refine (impl_itemOk.calls k 2 a1 a2 A3 c3 l3 a4 a5 none 0 [] true _ (Kd.C_below HR3.out HX.out) HC3.out (Kd.C_nil _ _) (Nat.le_refl 0) AU.out).mono ?_); rintro e w4 ⟨rfl, hb⟩; replace HX := am (below_step HX.out hb); replace BK := am (blk_below BK.out hb); clear hb; obtain ⟨hczu_0, hczu_1, hczu_2, hczu_3, hczu_4, hczu_5, hczu_6⟩ := cl7 BK; obtain ⟨hfzu_0, hfzu_1, hfzu_2, hfzu_3, hfzu_4, hfzu_5, hfzu_6⟩ := fz7 BK))
   have HXd := am (below_drew1 HX.out)
   have BKd := am (blk_drew BK.out)
   refine start_ (n := 16) (S := fun w' => w'.cell? ⟨gb, 0, none⟩ = some (.int .i64 2) ∧ w'.cell? ⟨gb, 1, none⟩ = some (.int .i64 a1) ∧ w'.cell? ⟨gb, 2, none⟩ = some (.string a2) ∧ w'.cell? ⟨gb, 3, none⟩ = some (.slice A3 l3.length c3) ∧ w'.cell? ⟨gb, 4, none⟩ = some (.string a4) ∧ w'.cell? ⟨gb, 5, none⟩ = some (.int .i64 a5) ∧ w'.cell? ⟨gb, 6, none⟩ = some (.slice none 0 0) ∧ w'.cell? ⟨g, 0, none⟩ = some (.slice A0 s0.length c0)) (ds := [14]) #[false, false, false, false, false, false, false, false, false, false, false, false, false, false, false, false] (by kernel_rfl) rfl rfl ⟨(blk_cell BK.out 0).trans rfl, (blk_cell BK.out 1).trans rfl, (blk_cell BK.out 2).trans rfl, (blk_cell BK.out 3).trans rfl, (blk_cell BK.out 4).trans rfl, (blk_cell BK.out 5).trans rfl, (blk_cell BK.out 6).trans rfl, (blk_cell (blk_below BG.out HX.out) 0).trans rfl⟩ (fun hHeld => ?_)
   clear HX BK hczu_0 hczu_1 hczu_2 hczu_3 hczu_4 hczu_5 hczu_6 hfzu_0 hfzu_1 hfzu_2 hfzu_3 hfzu_4 hfzu_5 hfzu_6
   have HX := HXd
   have BK := BKd
   clear HXd BKd
   generalize World.drew _ = w5 at HX BK hHeld ⊢
   refine pk_ 0 22 ?_
   refine pk_ 1 23 ?_
   refine pk_ 2 24 ?_
   refine pk_ 3 25 ?_
   refine pk_ 5 27 ?_
   refine pk_ 6 28 ?_
   refine tk3_ 4 26 hHeld ?_
   refine tk3_ 7 29 hHeld ?_
   refine one_ (i := 8) (N := some 30) #[true, true, true, true, true, true, true, true, true, false, false, false, false, false, false, false] rfl rfl (by kernel_rfl) (by decide) (fun K hK => ?_)
   obtain ⟨P0, hP0, hs0, hback⟩ := OwnP.items (HO.out.below HX.out)
   have HP0 := am hP0
   have HBK := am hback
   clear hP0 hback
   refine goes_ Tryz.func98 (by kernel_rfl) rfl #[.slice A0 s0.length c0, .int .i64 up, .int .i64 at_, .agg #[.int .i64 2, .int .i64 a1, .string a2, .slice A3 l3.length c3, .string a4, .int .i64 a5, .slice none 0 0]] (by rfl) rfl rfl ab5 ?_
   refine (impl_hang.calls P0 _ s0 up at_ 2 a1 a2 A3 c3 l3 a4 a5 none 0 0 z1 z2 w0 _ (below_step HB.out HX.out) hs0 (Kd.C_below HR3.out HX.out) HC3.out AZ.out).mono ?_
   rintro e w7 ⟨v7, rfl, hs7, hb7, hk7⟩
   refine ⟨_, rfl, ?_⟩
   clear hHeld hs0
   obtain ⟨Av, cv, rfl⟩ := Kd.S_slice hs7
   replace BK := am (blk_kept BK.out hk7 (fun q => by have := GE.out; have := (HP0.out _ q).2; omega))
   have BG7 := am (blk_kept (blk_below BG.out HX.out) hk7 (fun q => HU.out _ (HP0.out _ q) rfl))
   have HO7 := am (HBK.out _ _ _ hs7 hk7)
   have HK7 := am (Kept.then_ (Kept.of_below HX.out (fun k => U k ∨ k = g)) hk7 (fun k q => Or.inl (Or.inl (HP0.out k q).1)))
   have HB7 := am hb7
   have HX6 := am (below_size HX.out)
   have hcg := (blk_cell BG7.out 0).trans rfl
   have hfg := blk_frozen BG7.out 0
   clear hs7 hb7 hk7 HBK HX
   refine hK.out _ _ ⟨(blk_cell BK.out 0).trans rfl, (blk_cell BK.out 1).trans rfl, (blk_cell BK.out 2).trans rfl, (blk_cell BK.out 3).trans rfl, (blk_cell BK.out 4).trans rfl, (blk_cell BK.out 5).trans rfl, (blk_cell BK.out 6).trans rfl, hcg⟩ (fun hHeld => ?_)
   clear hK K
   refine nk_ 30 ?_
   refine pk_ 9 21 ?_
   refine pk_ 10 31 ?_
   refine pk_ 11 32 ?_
   refine pk_ 12 33 ?_
   refine pk_ 13 34 ?_
   refine last_ (i := 14) (N := none) #[true, true, true, true, true, true, true, true, true, true, true, true, true, true, true, false] rfl rfl (by kernel_rfl) (by decide) (fun K hK => ?_)
   refine skip_ (w1 := w7.setCell ⟨g, 0, none⟩ (.slice Av z1.length cv)) (by rfl) rfl ?_ ?_
   ·first | (go_simp; done) | (go_simp; rfl)
   refine hK.out _ _ ?_
   clear hK K hHeld hcg hfg
   have BG8 := am (blk_put BG7.out 0 (.slice Av z1.length cv) rfl)
   have HO8 : Aside0 (OwnP (w7.setCell ⟨g, 0, none⟩ (.slice Av z1.length cv)) w0.heap.size (fun k => U k ∨ w.heap.size ≤ k) (.slice Av z1.length cv) (.slice A1 s1.length c1) (.slice A2 s2.length c2) z1 s1 s2) := ⟨OwnP.far (HO7.out.mono (fun k q => q.elim (fun q => Or.inl q.1) (fun q => Or.inr (Nat.le_trans HX6.out q)))) (p := ⟨g, 0, none⟩) (fun k q => HEND.out k q) _⟩
   have HB8 := am (below_set (g := g) (j := 0) (v := .slice Av z1.length cv) HB7.out HGB.out)
   have HK8 := am (Kept.setCell (p := ⟨g, 0, none⟩) HK7.out (Or.inl (Or.inr rfl)) (.slice Av z1.length cv))
   clear BG7 HO7 HB7 HK7 BK
   generalize w7.setCell ⟨g, 0, none⟩ (.slice Av z1.length cv) = w8 at BG8 HO8 HB8 HK8 ⊢
   refine pk_ 15 11 ?_
   refine done_ (by kernel_rfl) ?_
   obtain ⟨hcg_0, hcg_1, hcg_2, hcg_3, hcg_4⟩ := cl5 BG8
   obtain ⟨hfg_0, hfg_1, hfg_2, hfg_3, hfg_4⟩ := fz5 BG8
   have H := AH.out
   clear AH
   have HKW := HK8
   cases op with
   | false =>
    rw [if_neg (by simp)] at H
    simp only [Option.some.injEq, Prod.mk.injEq] at H
    obtain ⟨rfl, rfl, rfl⟩ := H
    go_wp2
    go_ret
    exact ⟨rfl, ⟨_, _, _, BG8.out, HGB.out, HEND.out, HO8.out⟩, HB8.out, HK8.out⟩
   | true =>
    by_cases c : (s1.length : Int) < 40
    case neg =>
     have cb := decide_eq_false c
     rw [if_neg (by simpa using c)] at H
     simp only [Option.some.injEq, Prod.mk.injEq] at H
     obtain ⟨rfl, rfl, rfl⟩ := H
     go_wp2
     go_ret
     exact ⟨rfl, ⟨_, _, _, BG8.out, HGB.out, HEND.out, HO8.out⟩, HB8.out, HK8.out⟩
    case pos =>
     have cb := decide_eq_true c
     have CL := am c
     rw [if_pos ⟨rfl, c⟩] at H
     simp only [Option.some.injEq, Prod.mk.injEq] at H
     obtain ⟨rfl, rfl, rfl⟩ := H
     obtain ⟨y, hy⟩ : ∃ y : List Int, y = s1 ++ [z2] := ⟨_, rfl⟩
     have HY := am hy
     clear hy
     obtain ⟨P1, hP1, hs1, hback1⟩ := OwnP.open_ HO8.out
     have HP1 := am hP1
     have HBK1 := am hback1
     have HR1 := am hs1
     clear hP1 hback1 hs1
     go_wp2_with (first | ((with_reducible refine gate_builtin (b := .append) (xs := #[.tmp 48, .tmp 50]) rfl ?_); at_builtin; refine Kd.R_append (Kd.int .i64) (w0 := w0) w0.heap.size rfl (.tmp 48) (.tmp 50) 23 3 (.int .i64 0) 8 rfl Tryz.underlying23 info3 rfl (by decide) (by omega) (.slice A1 s1.length c1) s1 z2 [.int .i64 z2] (fun k => P1 k ∨ w8.heap.size ≤ k) (fun _ => False) rfl rfl ?aP (fun _ hk => hk.elim) ?aF ?aO ?aB ?aS ?aL ?_; (case aP => exact rfl); (case aB => exact HB8.out); (case aF => exact fun k hk => Or.inr hk); (case aO => exact Kd.R_mono HR1.out (fun k hk => Or.inl hk)); (case aS => exact below_size HB8.out); (case aL => have := CL.out; omega); intro v9 w9 ho hb hg hat; rw [← HY.out] at ho; obtain ⟨Ao, co, eo⟩ := Kd.R_slice ho; subst eo; have HK9 := am (Kept.of_grown (S := P1) hg (Kept.refl w8 P1) (fun k e_ => Or.inl (HR1.out.1 k e_))); have HO9 := am (HBK1.out _ _ _ ho HK9.out); have BG9 := am (blk_kept BG8.out HK9.out (fun q => HEND.out _ (HP1.out _ q) rfl)); have HB9 := am hb; clear ho hb hg hat hcg_0 hcg_1 hcg_2 hcg_3 hcg_4 hfg_0 hfg_1 hfg_2 hfg_3 hfg_4; obtain ⟨hcg_0, hcg_1, hcg_2, hcg_3, hcg_4⟩ := cl5 BG9; obtain ⟨hfg_0, hfg_1, hfg_2, hfg_3, hfg_4⟩ := fz5 BG9) | ((with_reducible refine gate_store (t := 23) (p := 53) rfl ?_); refine store_event (t := 23) (p := 53) (v := ?vo9) (w1 := (w9.setCell ⟨g, 1, none⟩ (.slice Ao y.length co))) ?hg ?ho ?hn ?hr ?_; (case ho => rfl); (case hg => rfl); (case hn => rfl); (case hr => first | (go_simp; done) | (go_simp; rfl)); intro w10 hw))
     go_ret
     rw [← HY.out]
     subst hw
     refine ⟨rfl, ⟨_, _, _, blk_put BG9.out 1 _ rfl, HGB.out, HEND.out, OwnP.far (HO9.out.mono (fun k q => q.elim id (fun q => Or.inr ?_))) (p := ⟨g, 1, none⟩) (fun k q => HEND.out k q) _⟩, below_set HB9.out HGB.out, ?_⟩
     ·exact Nat.le_trans HKW.out.1 q
     ·exact Kept.setCell (Kept.then_ HK8.out HK9.out (fun k q => by rcases HP1.out k q with q | q <;> simp [q])) (by simp) _
def impl_Page_putTag.f (k : Nat) (s0 : List S53) (s1 s2 : List Int) (h b : Int) (a2 : ByteArray) (l3 : List S56) (a1 : Int) (op : Bool) : Option (Int × List S53 × List Int) :=
 (impl_Page_place.f k s0 s1 s2 h b).bind fun p => impl_Page_tagAt.f k s0 s1 s2 h b p.1 p.2.1 a1 a2 l3 (⟨#[]⟩ : ByteArray) 0 op
theorem impl_Page_putTag.calls (k : Nat) (U : Nat → Prop) (g : Nat) (s0 : List S53) (s1 s2 : List Int) (h b : Int) (a2 : ByteArray) (A3 : Option Addr) (c3 : Nat) (l3 : List S56) (a1 : Int) (op : Bool) (r0 : Int) (r1 : List S53) (r2 : List Int) (w0 w : World) (hP : PgS w0.heap.size w U g s0 s1 s2 h b) (hB : Below w0.heap.size w0 w) (hr3 : Kd.C k56 w A3 l3.length l3) (hc3 : l3.length ≤ c3) (M_ : Int) (hm_ : w.cell? ⟨0, 0, none⟩ = some (.int .i64 M_)) (H : impl_Page_putTag.f k s0 s1 s2 h b a2 l3 a1 op = some (r0, r1, r2)) :
  Calls Tryz.prog 34 #[.pointer (some ⟨g, 0, none⟩), .string a2, .slice A3 l3.length c3, .int .i64 a1, .bool op] w fun e w' => e = .returned (.int .i64 r0) ∧ PgS w0.heap.size w' (fun k => U k ∨ w.heap.size ≤ k) g r1 r2 s2 h b ∧ Below w0.heap.size w0 w' ∧ Kept w w' (fun k => U k ∨ k = g) := by
 unfold impl_Page_putTag.f at H
 obtain ⟨⟨p1, p2, p3, p4⟩, hp, H⟩ := Option.bind_eq_some_iff.mp H
 dsimp only at H
 have HEND : Aside0 (∀ k, U k ∨ w.heap.size ≤ k → k ≠ g) := ⟨fun k hk => by
  have hl := hP.lt
  obtain ⟨_, _, _, _, _, hU, _⟩ := hP
  exact hk.elim (fun q => hU k q) (fun q => by omega)⟩
 have HP := am hP
 have HB := am hB
 have HX := am (Below.refl w.heap.size w)
 have HR3 := am hr3
 have HC3 := am hc3
 have HM := am hm_
 have AP := am hp
 have AT := am H
 clear hP hB hr3 hc3 hm_ hp H
 go_enter Tryz.func34, Tryz.ntmps34
 go_wp2_with (first | (go_at_call 66; (refine (impl_Page_place.calls k g s0 s1 s2 h b p1 p2 p3 p4 _ _ (PgS.isS (HP.out.below HX.out)) (Below.refl _ _) M_ (pw_cell_below HX.out HM.out) AP.out).mono ?_); rintro e w1 ⟨rfl, hi_, hb, hk_⟩; clear hi_ hk_; replace HX := am (below_step HX.out hb); clear hb) | (go_at_call 67; (refine (impl_Page_tagAt.calls k U g s0 s1 s2 h b p1 p2 0 a1 a2 A3 c3 l3 (⟨#[]⟩ : ByteArray) 0 op r0 r1 r2 w0 _ (HP.out.below HX.out) (below_step HB.out HX.out) (Kd.C_below HR3.out HX.out) HC3.out AT.out).mono ?_); rintro e w2 ⟨rfl, hps, hb2, hk2⟩; have HPS := am hps; have HB2 := am hb2; have HK2 := am hk2; clear hps hb2 hk2))
 go_ret
 exact ⟨rfl, HPS.out.mono (fun k q => q.elim Or.inl (fun q => Or.inr (Nat.le_trans (below_size HX.out) q))) HEND.out, HB2.out, Kept.then_ (Kept.of_below HX.out _) HK2.out (fun k q => Or.inl q)⟩
def impl_Page_reopen.l0 : Nat → List Int → List Int → Int → Option Int
 | 0, _, _, _ => none
 | k + 1, s1, s2, x => if x > 0 then (if 0 ≤ wrap64 (x - 1) ∧ wrap64 (x - 1) < (s2.length : Int) then (if rd s2 (wrap64 (x - 1)) = -1 then some x else (slices_Contains_int_int.f k s1 (rd s2 (wrap64 (x - 1)))).bind fun t => if t = true then some x else impl_Page_reopen.l0 k s1 s2 (wrap64 (x - 1))) else none) else some x
def impl_Page_reopen.l1 : Nat → List S53 → List Int → List Int → Int → Int → Int → Option (List S53 × List Int × List Int)
 | 0, _, _, _, _, _, _ => none
 | k + 1, s0, s1, s2, h, b, x => if x < (s2.length : Int) then (if 0 ≤ x ∧ 0 ≤ rd s2 x ∧ rd s2 x < (s0.length : Int) then (impl_Page_putTag.f k s0 s1 s2 h b (rd_T53 s0 (rd s2 x)).f2 (rd_T53 s0 (rd s2 x)).f3 (rd_T53 s0 (rd s2 x)).f1 true).bind fun z => if z.1 = 0 then some (z.2.1, z.2.2, s2) else impl_Page_reopen.l1 k z.2.1 z.2.2 (s2.set x.toNat z.1) h b (wrap64 (x + 1)) else none) else some (s0, s1, s2)
def impl_Page_reopen.f (k : Nat) (s0 : List S53) (s1 s2 : List Int) (h b : Int) : Option (List S53 × List Int × List Int) :=
 (impl_Page_reopen.l0 k s1 s2 (s2.length : Int)).bind fun x => impl_Page_reopen.l1 k s0 s1 s2 h b x
section
variable {P : Program} {md : Region.Mode} {ops : Array Oper} {Q : Exit → Act → World → Prop} {S : World → Prop} {ds : List Nat} {fuel : Nat} {l l' : Array Bool} {a a' : Act} {oi : Oper} {W : World}
/-- An operation whose guard is off. -/
theorem pu2_ (i n : Nat) (h : wpAnyLast P md ops Q S ds fuel l' a' W) (hi : ops[i]? = some oi := by rfl) (hN : oi.dst = some n := by rfl)
  (hl : l.setIfInBounds i true = l' := by simp only [List.setIfInBounds_toArray, List.set_cons_zero, List.set_cons_succ]; rfl) (hc : anyB md ops l l' i = true := by kernel_rfl)
  (hy : Yields P ops oi undef a := by exact Or.inr ⟨by rfl, by rfl⟩)
  (ha : a.put (some n) undef = a' := by simp only [Act.put, List.setIfInBounds_toArray, List.set_cons_zero, List.set_cons_succ, i64_w, i32_w]; rfl)
  (hQ : ∀ c a w, Q (.panic c) (a.put oi.dst undef) w → Q (.panic c) a w := by exact fun _ _ _ h => h) : wpAnyLast P md ops Q S ds (fuel + 1) l a W := pure_ l' hi hN hc hQ hy ha h
end
theorem impl_Page_reopen.calls (k : Nat) (U : Nat → Prop) (g : Nat) (s0 : List S53) (s1 s2 : List Int) (h b : Int) (r0 : List S53) (r1 r2 : List Int) (w0 w : World) (hP : PgS w0.heap.size w U g s0 s1 s2 h b) (hB : Below w0.heap.size w0 w) (M_ : Int) (hm_ : w0.cell? ⟨0, 0, none⟩ = some (.int .i64 M_)) (H : impl_Page_reopen.f k s0 s1 s2 h b = some (r0, r1, r2)) :
  Calls Tryz.prog 44 #[.pointer (some ⟨g, 0, none⟩)] w fun e w' => e = .returned (.tuple #[]) ∧ PgS w0.heap.size w' (fun k => U k ∨ w.heap.size ≤ k) g r0 r1 r2 h b ∧ Below w0.heap.size w0 w' ∧ Kept w w' (fun k => U k ∨ k = g) := by
 unfold impl_Page_reopen.f at H
 obtain ⟨n, hn, H⟩ := Option.bind_eq_some_iff.mp H
 have HEND : Aside0 (∀ k, U k ∨ w.heap.size ≤ k → k ≠ g) := ⟨fun k hk => by
  have hl := hP.lt
  obtain ⟨_, _, _, _, _, hU, _⟩ := hP
  exact hk.elim (fun q => hU k q) (fun q => by omega)⟩
 have HP := am hP
 have HB := am hB
 have HM := am hm_
 have AN := am hn
 have AH := am H
 obtain ⟨v0, v1, v2, hg, hgb, hU, hO⟩ := hP
 obtain ⟨A0, c0, A1, c1, A2, c2, rfl, rfl, rfl, R0, R1, R2⟩ := hO.slices
 have BG := am hg
 have HR1 := am R1
 have HR2 := am R2
 have HX := am (Below.refl w.heap.size w)
 clear hg hgb hU hO R0 R1 R2 hB hm_ hn H
 obtain ⟨hcg0, hcg1, hcg2, hcg3, hcg4⟩ := cl5 BG
 go_enter Tryz.func44, Tryz.ntmps44
 go_upto_block 0 with (fail)
 go_cut [2] (fun v2 wc => v2 = .int .i64 n ∧ Aside0 (Below w.heap.size w wc))
 case first =>
  go_wp2
  go_loopg [2] k (fun kq v2 w' => ∃ x : Int, v2 = .int .i64 x ∧ Aside0 (impl_Page_reopen.l0 kq s1 s2 x = some n) ∧ Aside0 (kq ≤ k) ∧ Aside0 (Below w.heap.size w w'))
  case atStart => exact ⟨_, rfl, AN, ⟨Nat.le_refl _⟩, HX⟩
  case round =>
   obtain ⟨x, rfl, HA, HK, HXr⟩ := hrel
   clear HX hcg0 hcg1 hcg2 hcg3 hcg4 AN
   cases gk with
   | zero => exact absurd HA.out (by simp [impl_Page_reopen.l0])
   | succ k1 =>
    have H := HA.out
    clear HA
    simp only [impl_Page_reopen.l0] at H
    by_cases c1 : x > 0
    case neg =>
     rw [if_neg c1] at H
     obtain rfl := Option.some.inj H
     have c1b : decide (x > 0) = false := decide_eq_false c1
     clear c1 H
     try go_wp2
     have HXd := am (below_drew1 HXr.out)
     refine start_ (n := 29) (S := fun w' => True) (ds := []) #[false, false, false, false, false, false, false, false, false, false, false, false, false, false, false, false, false, false, false, false, false, false, false, false, false, false, false, false, false] (by kernel_rfl) rfl rfl trivial (fun hHeld => ?_)
     generalize World.drew _ = w5 at HXd hHeld ⊢
     refine pk_ 0 10 ?_
     refine pk_ 1 11 ?_
     refine pk_ 2 12 ?_
     refine pu2_ 3 13 ?_
     refine pu2_ 4 14 ?_
     refine pu2_ 5 15 ?_
     refine pu2_ 6 16 ?_
     refine pu2_ 7 17 ?_
     refine pu2_ 8 18 ?_
     refine pu2_ 9 19 ?_
     refine pu2_ 10 20 ?_
     refine pu2_ 11 21 ?_
     refine pk_ 12 22 ?_
     refine pk_ 13 23 ?_
     refine pu2_ 14 24 ?_
     refine pu2_ 15 25 ?_
     refine pu2_ 16 26 ?_
     refine pu2_ 17 27 ?_
     refine pu2_ 18 28 ?_
     refine pu2_ 19 29 ?_
     refine pu2_ 20 30 ?_
     refine pu2_ 21 31 ?_
     refine pu2_ 22 32 ?_
     refine pu2_ 23 33 ?_
     refine pu2_ 24 34 ?_
     refine pu2_ 25 35 ?_
     refine pu2_ 26 36 ?_
     refine pu2_ 27 37 ?_
     refine pk_ 28 38 ?_
     refine done_ (by kernel_rfl) ?_
     (try clear hHeld)
     go_wp2
     go_meet
     case rel => exact ⟨rfl, HXd⟩
    case pos =>
     rw [if_pos c1] at H
     have c1b : decide (x > 0) = true := decide_eq_true c1
     clear c1
     by_cases c2_ : 0 ≤ wrap64 (x - 1) ∧ wrap64 (x - 1) < (s2.length : Int)
     case neg => rw [if_neg c2_] at H; exact absurd H (by simp)
     rw [if_pos c2_] at H
     obtain ⟨p1, q1⟩ := c2_
     obtain ⟨ad, e1, hx1⟩ := Kd.at_int HR2.out.2 (wrap64 (x - 1)) p1 q1
     subst e1
     replace p1 := eq_true p1
     replace q1 := eq_true q1
     by_cases c3 : rd s2 (wrap64 (x - 1)) = -1
     case pos =>
      rw [if_pos c3] at H
      obtain rfl := Option.some.inj H
      have c3b : (rd s2 (wrap64 (x - 1)) != -1) = false := by rw [c3]; rfl
      clear c3 H
      try go_wp2
      have HXd := am (below_drew1 HXr.out)
      refine start_ (n := 29) (S := fun w' => w'.cell? ⟨g, 0, none⟩ = some (.slice A0 s0.length c0) ∧ w'.cell? ⟨g, 1, none⟩ = some (.slice A1 s1.length c1) ∧ w'.cell? ⟨g, 2, none⟩ = some (.slice (some ad) s2.length c2) ∧ w'.cell? ⟨g, 3, none⟩ = some (.int .i64 h) ∧ w'.cell? ⟨g, 4, none⟩ = some (.int .i64 b) ∧ w'.cell? (ad.add (wrap64 (x - 1)).toNat) = some (.int .i64 (rd s2 (wrap64 (x - 1))))) (ds := []) #[false, false, false, false, false, false, false, false, false, false, false, false, false, false, false, false, false, false, false, false, false, false, false, false, false, false, false, false, false] (by kernel_rfl) rfl rfl ⟨(blk_cell (blk_below BG.out HXd.out) 0).trans rfl, (blk_cell (blk_below BG.out HXd.out) 1).trans rfl, (blk_cell (blk_below BG.out HXd.out) 2).trans rfl, (blk_cell (blk_below BG.out HXd.out) 3).trans rfl, (blk_cell (blk_below BG.out HXd.out) 4).trans rfl, pw_cell_below HXd.out hx1⟩ (fun hHeld => ?_)
      generalize World.drew _ = w5 at HXd hHeld ⊢
      refine pk_ 0 10 ?_
      refine pk_ 1 11 ?_
      refine pk_ 2 12 ?_
      refine pk_ 3 13 ?_
      refine pk_ 4 14 ?_
      refine pk_ 5 15 ?_
      refine pk_ 7 17 ?_
      refine pk_ 8 18 ?_
      refine tk3_ 6 16 hHeld ?_
      refine pk_ 9 19 ?_
      refine tk3_ 10 20 hHeld ?_
      refine pk_ 11 21 ?_
      refine pk_ 12 22 ?_
      refine pk_ 13 23 ?_
      refine pu2_ 14 24 ?_
      refine pu2_ 15 25 ?_
      refine pu2_ 16 26 ?_
      refine pu2_ 17 27 ?_
      refine pu2_ 18 28 ?_
      refine pu2_ 19 29 ?_
      refine pu2_ 20 30 ?_
      refine pu2_ 21 31 ?_
      refine pu2_ 22 32 ?_
      refine pu2_ 23 33 ?_
      refine pu2_ 24 34 ?_
      refine pu2_ 25 35 ?_
      refine pu2_ 26 36 ?_
      refine pu2_ 27 37 ?_
      refine pk_ 28 38 ?_
      refine done_ (by kernel_rfl) ?_
      (try clear hHeld)
      go_wp2
      go_meet
      case rel => exact ⟨rfl, HXd⟩
     case neg =>
      rw [if_neg c3] at H
      have c3b : (rd s2 (wrap64 (x - 1)) != -1) = true := bne_iff_ne.mpr c3
      clear c3
      obtain ⟨t, ht, H⟩ := Option.bind_eq_some_iff.mp H
      have AT := am ht
      clear ht
      cases t with
      | true =>
       rw [if_pos rfl] at H
       obtain rfl := Option.some.inj H
       clear H
       try go_wp2
       have HXd := am (below_drew1 HXr.out)
       refine start_ (n := 29) (S := fun w' => w'.cell? ⟨g, 0, none⟩ = some (.slice A0 s0.length c0) ∧ w'.cell? ⟨g, 1, none⟩ = some (.slice A1 s1.length c1) ∧ w'.cell? ⟨g, 2, none⟩ = some (.slice (some ad) s2.length c2) ∧ w'.cell? ⟨g, 3, none⟩ = some (.int .i64 h) ∧ w'.cell? ⟨g, 4, none⟩ = some (.int .i64 b) ∧ w'.cell? (ad.add (wrap64 (x - 1)).toNat) = some (.int .i64 (rd s2 (wrap64 (x - 1))))) (ds := []) #[false, false, false, false, false, false, false, false, false, false, false, false, false, false, false, false, false, false, false, false, false, false, false, false, false, false, false, false, false] (by kernel_rfl) rfl rfl ⟨(blk_cell (blk_below BG.out HXd.out) 0).trans rfl, (blk_cell (blk_below BG.out HXd.out) 1).trans rfl, (blk_cell (blk_below BG.out HXd.out) 2).trans rfl, (blk_cell (blk_below BG.out HXd.out) 3).trans rfl, (blk_cell (blk_below BG.out HXd.out) 4).trans rfl, pw_cell_below HXd.out hx1⟩ (fun hHeld => ?_)
       generalize World.drew _ = w5 at HXd hHeld ⊢
       refine pk_ 0 10 ?_
       refine pk_ 1 11 ?_
       refine pk_ 2 12 ?_
       refine pk_ 3 13 ?_
       refine pk_ 4 14 ?_
       refine pk_ 5 15 ?_
       refine pk_ 7 17 ?_
       refine pk_ 8 18 ?_
       refine tk3_ 6 16 hHeld ?_
       refine pk_ 9 19 ?_
       refine tk3_ 10 20 hHeld ?_
       refine pk_ 11 21 ?_
       refine pk_ 12 22 ?_
       refine pk_ 13 23 ?_
       refine pk_ 14 24 ?_
       refine pk_ 15 25 ?_
       refine pk_ 16 26 ?_
       refine pk_ 18 28 ?_
       refine pk_ 19 29 ?_
       refine pk_ 20 30 ?_
       refine pk_ 22 32 ?_
       refine pk_ 23 33 ?_
       refine tk3_ 17 27 hHeld ?_
       refine tk3_ 21 31 hHeld ?_
       refine pk_ 24 34 ?_
       refine tk3_ 25 35 hHeld ?_
       refine one_ (i := 26) (N := some 36) #[true, true, true, true, true, true, true, true, true, true, true, true, true, true, true, true, true, true, true, true, true, true, true, true, true, true, true, false, false] rfl rfl (by kernel_rfl) (by decide) (fun K hK => ?_)
       refine goes_ Tryz.func71 (by kernel_rfl) rfl #[.slice A1 s1.length c1, .int .i64 (rd s2 (wrap64 (x - 1)))] (by rfl) rfl rfl ab5 ?_
       refine (slices_Contains_int_int.calls k1 _ _ s1 _ _ _ (Kd.C_below HR1.out.2 HXd.out) HR1.out.1 AT.out).mono ?_
       rintro e w6 ⟨rfl, ⟨nd, rfl⟩⟩
       refine ⟨_, rfl, ?_⟩
       have HXe := am (pw_below_drewN (n := nd) HXd.out)
       clear hHeld HXd
       have HXd := HXe
       clear HXe
       refine hK.out _ _ ⟨(blk_cell (blk_below BG.out HXd.out) 0).trans rfl, (blk_cell (blk_below BG.out HXd.out) 1).trans rfl, (blk_cell (blk_below BG.out HXd.out) 2).trans rfl, (blk_cell (blk_below BG.out HXd.out) 3).trans rfl, (blk_cell (blk_below BG.out HXd.out) 4).trans rfl, pw_cell_below HXd.out hx1⟩ (fun hHeld => ?_)
       clear hK K
       refine nk_ 36 ?_
       refine pk_ 27 37 ?_
       refine pk_ 28 38 ?_
       refine done_ (by kernel_rfl) ?_
       (try clear hHeld)
       go_wp2
       go_meet
       case rel => exact ⟨rfl, HXd⟩
      | false =>
       rw [if_neg (by simp)] at H
       have AH1 := am H
       clear H
       try go_wp2
       have HXd := am (below_drew1 HXr.out)
       refine start_ (n := 29) (S := fun w' => w'.cell? ⟨g, 0, none⟩ = some (.slice A0 s0.length c0) ∧ w'.cell? ⟨g, 1, none⟩ = some (.slice A1 s1.length c1) ∧ w'.cell? ⟨g, 2, none⟩ = some (.slice (some ad) s2.length c2) ∧ w'.cell? ⟨g, 3, none⟩ = some (.int .i64 h) ∧ w'.cell? ⟨g, 4, none⟩ = some (.int .i64 b) ∧ w'.cell? (ad.add (wrap64 (x - 1)).toNat) = some (.int .i64 (rd s2 (wrap64 (x - 1))))) (ds := []) #[false, false, false, false, false, false, false, false, false, false, false, false, false, false, false, false, false, false, false, false, false, false, false, false, false, false, false, false, false] (by kernel_rfl) rfl rfl ⟨(blk_cell (blk_below BG.out HXd.out) 0).trans rfl, (blk_cell (blk_below BG.out HXd.out) 1).trans rfl, (blk_cell (blk_below BG.out HXd.out) 2).trans rfl, (blk_cell (blk_below BG.out HXd.out) 3).trans rfl, (blk_cell (blk_below BG.out HXd.out) 4).trans rfl, pw_cell_below HXd.out hx1⟩ (fun hHeld => ?_)
       generalize World.drew _ = w5 at HXd hHeld ⊢
       refine pk_ 0 10 ?_
       refine pk_ 1 11 ?_
       refine pk_ 2 12 ?_
       refine pk_ 3 13 ?_
       refine pk_ 4 14 ?_
       refine pk_ 5 15 ?_
       refine pk_ 7 17 ?_
       refine pk_ 8 18 ?_
       refine tk3_ 6 16 hHeld ?_
       refine pk_ 9 19 ?_
       refine tk3_ 10 20 hHeld ?_
       refine pk_ 11 21 ?_
       refine pk_ 12 22 ?_
       refine pk_ 13 23 ?_
       refine pk_ 14 24 ?_
       refine pk_ 15 25 ?_
       refine pk_ 16 26 ?_
       refine pk_ 18 28 ?_
       refine pk_ 19 29 ?_
       refine pk_ 20 30 ?_
       refine pk_ 22 32 ?_
       refine pk_ 23 33 ?_
       refine tk3_ 17 27 hHeld ?_
       refine tk3_ 21 31 hHeld ?_
       refine pk_ 24 34 ?_
       refine tk3_ 25 35 hHeld ?_
       refine one_ (i := 26) (N := some 36) #[true, true, true, true, true, true, true, true, true, true, true, true, true, true, true, true, true, true, true, true, true, true, true, true, true, true, true, false, false] rfl rfl (by kernel_rfl) (by decide) (fun K hK => ?_)
       refine goes_ Tryz.func71 (by kernel_rfl) rfl #[.slice A1 s1.length c1, .int .i64 (rd s2 (wrap64 (x - 1)))] (by rfl) rfl rfl ab5 ?_
       refine (slices_Contains_int_int.calls k1 _ _ s1 _ _ _ (Kd.C_below HR1.out.2 HXd.out) HR1.out.1 AT.out).mono ?_
       rintro e w6 ⟨rfl, ⟨nd, rfl⟩⟩
       refine ⟨_, rfl, ?_⟩
       have HXe := am (pw_below_drewN (n := nd) HXd.out)
       clear hHeld HXd
       have HXd := HXe
       clear HXe
       refine hK.out _ _ ⟨(blk_cell (blk_below BG.out HXd.out) 0).trans rfl, (blk_cell (blk_below BG.out HXd.out) 1).trans rfl, (blk_cell (blk_below BG.out HXd.out) 2).trans rfl, (blk_cell (blk_below BG.out HXd.out) 3).trans rfl, (blk_cell (blk_below BG.out HXd.out) 4).trans rfl, pw_cell_below HXd.out hx1⟩ (fun hHeld => ?_)
       clear hK K
       refine nk_ 36 ?_
       refine pk_ 27 37 ?_
       refine pk_ 28 38 ?_
       refine done_ (by kernel_rfl) ?_
       (try clear hHeld)
       go_wp2
       go_roundg k1
       case measure => have := HK.out; omega
       case rel => exact ⟨_, rfl, AH1, ⟨by have := HK.out; omega⟩, HXd⟩
 case rest =>
  obtain ⟨rfl, HXc⟩ := hcut
  clear HX hcg0 hcg1 hcg2 hcg3 hcg4 AN
  replace HP := am ((HP.out.below HXc.out).mono (U' := fun k => U k ∨ w.heap.size ≤ k) (fun k hk => Or.inl hk) HEND.out)
  replace HB := am (below_step HB.out HXc.out)
  have HKP := am (Kept.of_below HXc.out (fun k => U k ∨ k = g))
  clear BG HR1 HR2 HXc
  go_wp2
  go_loopg [2] k (fun kq v2 w' => ∃ (x : Int) (z0 : List S53) (z1 z2 : List Int), v2 = .int .i64 x ∧ Aside0 (impl_Page_reopen.l1 kq z0 z1 z2 h b x = some (r0, r1, r2)) ∧ Aside0 (kq ≤ k) ∧ Aside0 (PgS w0.heap.size w' (fun k => U k ∨ w.heap.size ≤ k) g z0 z1 z2 h b) ∧ Aside0 (Below w0.heap.size w0 w') ∧ Aside0 (Kept w w' (fun k => U k ∨ k = g)))
  case atStart => exact ⟨_, s0, s1, s2, rfl, AH, ⟨Nat.le_refl _⟩, HP, HB, HKP⟩
  case round =>
   clear HP HB HKP AH
   obtain ⟨x, z0, z1, z2, rfl, HA, HK, HP, HB, HKP⟩ := hrel
   cases gk with
   | zero => exact absurd HA.out (by simp [impl_Page_reopen.l1])
   | succ k1 =>
    have H := HA.out
    clear HA
    simp only [impl_Page_reopen.l1] at H
    obtain ⟨v0, v1, v2, hg, hgb, hU, hO⟩ := HP.out
    obtain ⟨A0, c0, A1, c1, A2, c2, rfl, rfl, rfl, R0, R1, R2⟩ := hO.slices
    have BG := am hg
    have HGB := am hgb
    have HO := am hO
    have HR0 := am R0
    have HR2 := am R2
    clear hg hgb hU hO R0 R1 R2
    obtain ⟨hcg0, hcg1, hcg2, hcg3, hcg4⟩ := cl5 BG
    by_cases c1_ : x < (z2.length : Int)
    case neg =>
     rw [if_neg c1_] at H
     have c1b : decide (x < (z2.length : Int)) = false := decide_eq_false c1_
     clear c1_
     simp only [Option.some.injEq, Prod.mk.injEq] at H
     obtain ⟨rfl, rfl, rfl⟩ := H
     go_wp2
     go_end0
     exact ⟨rfl, HP.out, HB.out, HKP.out⟩
    case pos =>
     rw [if_pos c1_] at H
     have c1b : decide (x < (z2.length : Int)) = true := decide_eq_true c1_
     by_cases c2_ : 0 ≤ x ∧ 0 ≤ rd z2 x ∧ rd z2 x < (z0.length : Int)
     case neg => rw [if_neg c2_] at H; exact absurd H (by simp)
     rw [if_pos c2_] at H
     obtain ⟨p1, p2, q2⟩ := c2_
     have q1 : x < (z2.length : Int) := c1_
     clear c1_
     have P1 := am p1
     have Q1 := am q1
     obtain ⟨⟨y0, y1, y2⟩, hz, H⟩ := Option.bind_eq_some_iff.mp H
     dsimp only at H
     have AZ := am hz
     have AH := am H
     clear hz H
     obtain ⟨ad, e1, hx1⟩ := Kd.at_int HR2.out.2 x p1 q1
     subst e1
     obtain ⟨bd, A3, c3, A6, c6, e2, hy0, hy1, hy2, hy3, hy4, hy5, hy6, hl3, hi3, hl6, hi6⟩ := at_T53 HR0.out.2 (rd z2 x) p2 q2
     subst e2
     have HL3 := am hl3
     have HI3 := am hi3
     clear hl3 hi3 hl6 hi6
     replace p1 := eq_true p1
     replace q1 := eq_true q1
     replace p2 := eq_true p2
     replace q2 := eq_true q2
     have HX := am (Below.refl _ _ : Below wr.heap.size wr wr)
     go_wp2
     have HXd := am (below_drew1 HX.out)
     refine start_ (n := 15) (S := fun w' => w'.cell? ⟨g, 0, none⟩ = some (.slice (some bd) z0.length c0) ∧ w'.cell? ⟨g, 1, none⟩ = some (.slice A1 z1.length c1) ∧ w'.cell? ⟨g, 2, none⟩ = some (.slice (some ad) z2.length c2) ∧ w'.cell? ⟨g, 3, none⟩ = some (.int .i64 h) ∧ w'.cell? ⟨g, 4, none⟩ = some (.int .i64 b) ∧ w'.cell? (ad.add x.toNat) = some (.int .i64 (rd z2 x)) ∧ w'.cell? (bd.add ((rd z2 x).toNat * 7)) = some (.int .i64 (rd_T53 z0 (rd z2 x)).f0) ∧ w'.cell? ⟨(bd.add ((rd z2 x).toNat * 7)).block, (bd.add ((rd z2 x).toNat * 7)).off + 1, none⟩ = some (.int .i64 (rd_T53 z0 (rd z2 x)).f1) ∧ w'.cell? ⟨(bd.add ((rd z2 x).toNat * 7)).block, (bd.add ((rd z2 x).toNat * 7)).off + 2, none⟩ = some (.string (rd_T53 z0 (rd z2 x)).f2) ∧ w'.cell? ⟨(bd.add ((rd z2 x).toNat * 7)).block, (bd.add ((rd z2 x).toNat * 7)).off + 3, none⟩ = some (.slice A3 (rd_T53 z0 (rd z2 x)).f3.length c3) ∧ w'.cell? ⟨(bd.add ((rd z2 x).toNat * 7)).block, (bd.add ((rd z2 x).toNat * 7)).off + 4, none⟩ = some (.string (rd_T53 z0 (rd z2 x)).f4) ∧ w'.cell? ⟨(bd.add ((rd z2 x).toNat * 7)).block, (bd.add ((rd z2 x).toNat * 7)).off + 5, none⟩ = some (.int .i64 (rd_T53 z0 (rd z2 x)).f5) ∧ w'.cell? ⟨(bd.add ((rd z2 x).toNat * 7)).block, (bd.add ((rd z2 x).toNat * 7)).off + 6, none⟩ = some (.slice A6 (rd_T53 z0 (rd z2 x)).f6.length c6)) (ds := [14]) #[false, false, false, false, false, false, false, false, false, false, false, false, false, false, false] (by kernel_rfl) rfl rfl ⟨(blk_cell (blk_below BG.out HXd.out) 0).trans rfl, (blk_cell (blk_below BG.out HXd.out) 1).trans rfl, (blk_cell (blk_below BG.out HXd.out) 2).trans rfl, (blk_cell (blk_below BG.out HXd.out) 3).trans rfl, (blk_cell (blk_below BG.out HXd.out) 4).trans rfl, pw_cell_below HXd.out hx1, pw_cell_below HXd.out hy0, pw_cell_below HXd.out hy1, pw_cell_below HXd.out hy2, pw_cell_below HXd.out hy3, pw_cell_below HXd.out hy4, pw_cell_below HXd.out hy5, pw_cell_below HXd.out hy6⟩ (fun hHeld => ?_)
     generalize World.drew _ = w5 at HXd hHeld ⊢
     clear hcg0 hcg1 hcg2 hcg3 hcg4
     refine pk_ 0 50 ?_
     refine pk_ 1 51 ?_
     refine pk_ 2 52 ?_
     refine pk_ 4 54 ?_
     refine pk_ 5 55 ?_
     refine pk_ 6 56 ?_
     refine pk_ 8 58 ?_
     refine tk3_ 3 53 hHeld ?_
     refine tk3_ 7 57 hHeld ?_
     refine pk_ 9 59 ?_
     refine tk3_ 10 60 hHeld ?_
     refine pk_ 11 61 ?_
     refine tk3_ 12 62 hHeld ?_
     refine one_ (i := 13) (N := some 3) #[true, true, true, true, true, true, true, true, true, true, true, true, true, true, false] rfl rfl (by kernel_rfl) (by decide) (fun K hK => ?_)
     refine box_step ?hg (N := 3) ?hd (cs := #[.int .i64 0, .int .i64 0, .string (⟨#[]⟩ : ByteArray), .slice none 0 0, .string (⟨#[]⟩ : ByteArray), .int .i64 0, .slice none 0 0]) (t := 53) ?hr ?_; (case hd => rfl); (case hg => rfl); (case hr => first | (go_simp; done) | (go_simp; rfl))
     intro gbi hg w6 hbox hb
     have GI := am (show wr.heap.size ≤ gbi by rw [hg]; exact below_size HXd.out)
     have BI := am hbox
     replace HXd := xb HXd hb
     clear hHeld hbox hg hb
     refine hK.out _ _ ⟨(blk_cell (blk_below BG.out HXd.out) 0).trans rfl, (blk_cell (blk_below BG.out HXd.out) 1).trans rfl, (blk_cell (blk_below BG.out HXd.out) 2).trans rfl, (blk_cell (blk_below BG.out HXd.out) 3).trans rfl, (blk_cell (blk_below BG.out HXd.out) 4).trans rfl, pw_cell_below HXd.out hx1, pw_cell_below HXd.out hy0, pw_cell_below HXd.out hy1, pw_cell_below HXd.out hy2, pw_cell_below HXd.out hy3, pw_cell_below HXd.out hy4, pw_cell_below HXd.out hy5, pw_cell_below HXd.out hy6⟩ (fun hHeld => ?_)
     clear hK K
     refine nk_ 3 ?_
     refine last_ (i := 14) (N := none) #[true, true, true, true, true, true, true, true, true, true, true, true, true, true, true] rfl rfl (by kernel_rfl) (by decide) (fun K hK => ?_)
     obtain ⟨hfi0, hfi1, hfi2, hfi3, hfi4, hfi5, hfi6⟩ := fz7 BI
     obtain ⟨hci0, hci1, hci2, hci3, hci4, hci5, hci6⟩ := cl7 BI
     refine skip_ (w1 := st7 w6 gbi (.int .i64 (rd_T53 z0 (rd z2 x)).f0) (.int .i64 (rd_T53 z0 (rd z2 x)).f1) (.string (rd_T53 z0 (rd z2 x)).f2) (.slice A3 (rd_T53 z0 (rd z2 x)).f3.length c3) (.string (rd_T53 z0 (rd z2 x)).f4) (.int .i64 (rd_T53 z0 (rd z2 x)).f5) (.slice A6 (rd_T53 z0 (rd z2 x)).f6.length c6)) (by rfl) rfl ?_ ?_
     ·first | (go_simp; done) | (go_simp; rfl)
     refine hK.out _ _ ?_
     clear hK K hHeld hfi0 hfi1 hfi2 hfi3 hfi4 hfi5 hfi6 hci0 hci1 hci2 hci3 hci4 hci5 hci6 hx1 hy0 hy1 hy2 hy3 hy4 hy5 hy6
     obtain ⟨w7, hw⟩ : ∃ w', w' = st7 w6 gbi (.int .i64 (rd_T53 z0 (rd z2 x)).f0) (.int .i64 (rd_T53 z0 (rd z2 x)).f1) (.string (rd_T53 z0 (rd z2 x)).f2) (.slice A3 (rd_T53 z0 (rd z2 x)).f3.length c3) (.string (rd_T53 z0 (rd z2 x)).f4) (.int .i64 (rd_T53 z0 (rd z2 x)).f5) (.slice A6 (rd_T53 z0 (rd z2 x)).f6.length c6) := ⟨_, rfl⟩
     rw [← hw]
     replace BI := sS7 hw BI
     replace HX := bS7 hw HXd GI.out
     clear hw HXd
     refine done_ (by kernel_rfl) ?_
     have HP2 := am (HP.out.below HX.out)
     have BG2 := am (blk_below BG.out HX.out)
     obtain ⟨hcg0, hcg1, hcg2, hcg3, hcg4⟩ := cl5 BG2
     obtain ⟨hci0, hci1, hci2, hci3, hci4, hci5, hci6⟩ := cl7 BI
     have HBW := am (below_step HB.out HX.out)
     have HKW := am (Kept.then_ HKP.out (Kept.of_below HX.out (fun _ => False)) (fun k q => q.elim))
     by_cases c5_ : y0 = 0
     case pos =>
      have H := AH.out
      rw [if_pos c5_] at H
      simp only [Option.some.injEq, Prod.mk.injEq] at H
      obtain ⟨rfl, rfl, rfl⟩ := H
      have c5b : (y0 == 0) = true := beq_iff_eq.mpr c5_
      clear c5_ AH
      go_wp2_with (first | ((with_reducible refine gate_callee (f := 34) rfl ?_); refine goesL_ (some 70) rfl rfl Tryz.func34 (by kernel_rfl) rfl #[.pointer (some ⟨g, 0, none⟩), .string (rd_T53 z0 (rd z2 x)).f2, .slice A3 (rd_T53 z0 (rd z2 x)).f3.length c3, .int .i64 (rd_T53 z0 (rd z2 x)).f1, .bool true] rfl ab5 ?_; (refine (impl_Page_putTag.calls k1 _ g z0 z1 z2 h b _ A3 c3 _ _ true y0 y1 y2 w0 _ HP2.out HBW.out (Kd.C_below HI3.out HX.out) HL3.out M_ (pw_cell_below HBW.out HM.out) AZ.out).mono ?_); rintro e w8 ⟨rfl, hps, hb, hk⟩; refine ⟨_, rfl, ?_⟩; have HKN := am (Kept.then_ HKW.out hk (fun k q => q.elim (fun q => q.elim (fun q => Or.inl (Or.inl q)) (fun q => Or.inr q)) (fun q => Or.inl (Or.inr q)))); have HPN := am (hps.mono (U' := fun k => U k ∨ w.heap.size ≤ k) (fun k q => q.elim id (fun q => Or.inr (Nat.le_trans HKW.out.1 q))) HEND.out); have HBN := am hb; clear hps hb hk hcg0 hcg1 hcg2 hcg3 hcg4 hci0 hci1 hci2 hci3 hci4 hci5 hci6 BG BG2 HP2 HBW HKW BI HX HP HKP HB HO HR0 HR2 HGB HI3 HL3))
      refine bodyPost_ret (results_none rfl _ _ _) rfl ?_
      exact ⟨rfl, HPN.out, HBN.out, HKN.out⟩
     case neg =>
      have H := AH.out
      rw [if_neg c5_] at H
      have AH2 := am H
      have c5b : (y0 == 0) = false := beq_eq_false_iff_ne.mpr c5_
      clear c5_ AH H
      go_wp2_with (first | ((with_reducible refine gate_callee (f := 34) rfl ?_); refine goesL_ (some 70) rfl rfl Tryz.func34 (by kernel_rfl) rfl #[.pointer (some ⟨g, 0, none⟩), .string (rd_T53 z0 (rd z2 x)).f2, .slice A3 (rd_T53 z0 (rd z2 x)).f3.length c3, .int .i64 (rd_T53 z0 (rd z2 x)).f1, .bool true] rfl ab5 ?_; (refine (impl_Page_putTag.calls k1 _ g z0 z1 z2 h b _ A3 c3 _ _ true y0 y1 y2 w0 _ HP2.out HBW.out (Kd.C_below HI3.out HX.out) HL3.out M_ (pw_cell_below HBW.out HM.out) AZ.out).mono ?_); rintro e w8 ⟨rfl, hps, hb, hk⟩; refine ⟨_, rfl, ?_⟩; have HKN := am (Kept.then_ HKW.out hk (fun k q => q.elim (fun q => q.elim (fun q => Or.inl (Or.inl q)) (fun q => Or.inr q)) (fun q => Or.inl (Or.inr q)))); have HPN := am (hps.mono (U' := fun k => U k ∨ w.heap.size ≤ k) (fun k q => q.elim id (fun q => Or.inr (Nat.le_trans HKW.out.1 q))) HEND.out); have HBN := am hb; clear hps hb hk hcg0 hcg1 hcg2 hcg3 hcg4 hci0 hci1 hci2 hci3 hci4 hci5 hci6 BG BG2 HP2 HBW HKW BI HX HP HKP HB HO HR0 HR2 HGB HI3 HL3; obtain ⟨v0, v1, v2, hg, hgb, hU, hO⟩ := HPN.out; obtain ⟨P2, hP2, hr2, hback⟩ := hO.forms; obtain ⟨A0, c0, A1, c1, A2, c2, rfl, rfl, rfl, _, _, _⟩ := hO.slices; have BG := am hg; have HGB := am hgb; have HBK := am hback; have HP2 := am hP2; have HR2 := am hr2; clear hg hgb hU hO hback hP2 hr2 HPN; obtain ⟨go, co, eo, gb_, gl_, cl_, hgo⟩ := Kd.R_form HR2.out (by have := P1.out; have := Q1.out; omega); (first | cases eo | (injection eo with ea_ en_ ec_; (first | subst ea_ | (injection ea_ with ea_; subst ea_)); subst ec_; clear en_)); have HMgo := am (show P2 go from HR2.out.1 _ rfl); have GO := am gb_; clear gb_ gl_ hgo; obtain ⟨hxo, hfo⟩ := Kd.R_celln 0 HR2.out x P1.out Q1.out; have HPG := am (Kd.R_putg HR2.out x y0); obtain ⟨hcg0, hcg1, hcg2, hcg3, hcg4⟩ := cl5 BG) | ((with_reducible refine gate_store (t := 3) (p := 79) rfl ?_); refine store_event (t := 3) (p := 79) (v := ?vo9) (w1 := (w8.setCell ⟨go, x.toNat, none⟩ (.int .i64 y0))) ?hg ?ho ?hn ?hr ?_; (case ho => rfl); (case hg => rfl); (case hn => rfl); (case hr => first | (go_simp; done) | (go_simp; rfl)); intro w9 hw; have HK9 := am (show Kept w8 w9 P2 by rw [hw]; exact Kept.setCell (p := ⟨go, x.toNat, none⟩) (Kept.refl _ _) (Or.inl HMgo.out) _); have HR9 : Kd.R (Kd.int .i64) 3 w9 w0.heap.size (fun k => P2 k ∨ w8.heap.size ≤ k) (.slice (some ⟨go, 0, none⟩) z2.length c2) (z2.set x.toNat y0) := (by rw [hw]; exact Kd.R_mono HPG.out.1 (fun k q => Or.inl q)); have hO9 := HBK.out _ _ _ HR9 HK9.out; have HP9 : Aside0 (PgS w0.heap.size w9 (fun k => U k ∨ w.heap.size ≤ k) g y1 y2 (z2.set x.toNat y0) h b) := ⟨⟨_, _, _, by rw [hw]; exact blk_far BG.out (fun e_ => HEND.out _ (HP2.out _ HMgo.out) e_.symm) _, HGB.out, HEND.out, hO9.mono (fun k q => q.elim id (fun q => Or.inr (Nat.le_trans HKN.out.1 q)))⟩⟩; have HB9 := am (show Below w0.heap.size w0 w9 by rw [hw]; exact below_set HBN.out GO.out); have HKF := am (show Kept w w9 (fun k => U k ∨ k = g) from Kept.then_ HKN.out HK9.out (fun k q => (HP2.out k q).elim (fun q => Or.inl (Or.inl q)) Or.inr)); clear hw HR9 hO9 HK9 HPG))
      clear hxo hfo hcg0 hcg1 hcg2 hcg3 hcg4
      try go_wp2
      go_roundg k1
      case measure => have := HK.out; omega
      case rel => exact ⟨_, _, _, _, rfl, AH2, ⟨by have := HK.out; omega⟩, HP9, HB9, HKF⟩
def impl_Reopen.f (k : Nat) (s0 : List S53) (s1 s2 : List Int) (h b : Int)  : Option (List S53 × List Int × List Int × Int × Int) :=
 (impl_copyPage.f s0 s1 s2 h b).bind fun z => (impl_PageOk.f k s0 s1 s2 h b).bind fun t => if t = true then (impl_Page_reopen.f k z.1 z.2.1 z.2.2.1 z.2.2.2.1 z.2.2.2.2 ).bind fun q => some (q.1, q.2.1, q.2.2, z.2.2.2.1, z.2.2.2.2) else some z
theorem impl_Reopen.calls (k : Nat) (A0 : Option Addr) (c0 : Nat) (s0 : List S53) (A1 : Option Addr) (c1 : Nat) (s1 : List Int) (A2 : Option Addr) (c2 : Nat) (s2 : List Int) (h b : Int)  (r1 : List S53) (r2 r3 : List Int) (r4 r5 : Int) (w : World) (hp0 : Kd.C k53 w A0 s0.length s0) (hd0 : s0.length ≤ c0) (hp1 : Kd.C (Kd.int .i64) w A1 s1.length s1) (hd1 : s1.length ≤ c1) (hp2 : Kd.C (Kd.int .i64) w A2 s2.length s2) (hd2 : s2.length ≤ c2)  (M_ : Int) (hm_ : w.cell? ⟨0, 0, none⟩ = some (.int .i64 M_)) (H : impl_Reopen.f k s0 s1 s2 h b  = some (r1, r2, r3, r4, r5)) :
  Calls Tryz.prog 18 #[.agg #[.slice A0 s0.length c0, .slice A1 s1.length c1, .slice A2 s2.length c2, .int .i64 h, .int .i64 b]] w fun e w' => ∃ v0_ v1_ v2_ : Value, e = .returned (.agg #[v0_, v1_, v2_, .int .i64 r4, .int .i64 r5]) ∧ Kd.S k53 53 w' w.heap.size (fun k_ => some k_ ≠ (v1_ : Value).ownBlock ∧ some k_ ≠ (v2_ : Value).ownBlock) v0_ r1 ∧ Kd.R (Kd.int .i64) 3 w' w.heap.size (fun k_ => some k_ ≠ (v2_ : Value).ownBlock) v1_ r2 ∧ Kd.R (Kd.int .i64) 3 w' w.heap.size (fun k_ => some k_ ≠ (v1_ : Value).ownBlock) v2_ r3 ∧ Below w.heap.size w w' := by
 unfold impl_Reopen.f at H
 obtain ⟨⟨z0, z1, z2, z3, z4⟩, hz, H⟩ := Option.bind_eq_some_iff.mp H
 obtain ⟨t, ht, H⟩ := Option.bind_eq_some_iff.mp H
 dsimp only at H
 have hu31 := Tryz.underlying31
 have Hhp0 := am hp0
 have Hhd0 := am hd0
 have Hhp1 := am hp1
 have Hhd1 := am hd1
 have Hhp2 := am hp2
 have Hhd2 := am hd2
 have Hhm_ := am hm_
 have HX := am (Below.refl w.heap.size w)
 have AZ := am hz
 have AT := am ht
 clear hz ht hp0 hd0 hp1 hd1 hp2 hd2 hm_ 
 cases t
 simp only [Bool.false_eq_true, if_false, Option.some.injEq, Prod.mk.injEq] at H
 obtain ⟨rfl, rfl, rfl, rfl, rfl⟩ := H
 rotate_left
 simp only [if_true] at H
 obtain ⟨⟨q0, q1, q2⟩, hq, H⟩ := Option.bind_eq_some_iff.mp H
 simp only [Option.some.injEq, Prod.mk.injEq] at H
 obtain ⟨rfl, rfl, rfl, rfl, rfl⟩ := H
 have AQ := am hq
 clear hq
 rotate_left
 all_goals
  go_enter Tryz.func18, Tryz.ntmps18
  go_wp2_with (first | ((with_reducible refine gd_ 1 ?_); refine bx_ 1 (cs := #[.slice A0 s0.length c0, .slice A1 s1.length c1, .slice A2 s2.length c2, .int .i64 h, .int .i64 b]) 31 ?_; intro gbp hg wp hbox hb; have GEp := gE HX hg; replace HX := xb HX hb; have BKp := am hbox; clear hb hbox hg) | ((with_reducible refine gd_ 2 ?_); refine bx_ 2 (cs := #[.slice none 0 0, .slice none 0 0, .slice none 0 0, .int .i64 0, .int .i64 0]) 31 ?_; intro gbr hg wr hbox hb; have GEr := gE HX hg; have NEp_r := nE BKp hg; replace BKp := bb BKp hb; replace HX := xb HX hb; have BKr := am hbox; clear hb hbox hg; obtain ⟨hca_p0, hca_p1, hca_p2, hca_p3, hca_p4⟩ := cl5 BKp) | (go_at_call 32; (refine (impl_copyPage.calls A0 c0 s0 A1 c1 s1 A2 c2 s2 h b z0 z1 z2 z3 z4 _ (Kd.C_below Hhp0.out HX.out) Hhd0.out (Kd.C_below Hhp1.out HX.out) Hhd1.out (Kd.C_below Hhp2.out HX.out) Hhd2.out AZ.out).mono ?_); rintro e wc ⟨v0, v1, v2, rfl, ho0, ho1, ho2, hb⟩; have HO := am ((OwnP.of_copy ho0 ho1 ho2).lower (below_size HX.out)); have LTp := am (blk_lt BKp.out); have LTr := am (blk_lt BKr.out); replace BKp := bb BKp hb; replace BKr := bb BKr hb; replace HX := xb HX hb; obtain ⟨Z0, d0, Z1, d1, Z2, d2, rfl, rfl, rfl, _, _, _⟩ := HO.out.slices; clear ho0 ho1 ho2 hb) | ((with_reducible refine gd_ 3 ?_); refine bx_ 3 (cs := #[.slice none 0 0, .slice none 0 0, .slice none 0 0, .int .i64 0, .int .i64 0]) 31 ?_; intro gbo hg wo hbox hb; have GEo := gE HX hg; have GO := am (show wc.heap.size ≤ gbo by rw [hg]; exact Nat.le_refl _); replace HO := ob HO hb; have NEp_o := nE BKp hg; have NEr_o := nE BKr hg; replace BKp := bb BKp hb; replace BKr := bb BKr hb; replace HX := xb HX hb; have BKo := am hbox; clear hb hbox hg; obtain ⟨hco_o0, hco_o1, hco_o2, hco_o3, hco_o4⟩ := cl5 BKo; obtain ⟨hfo_o0, hfo_o1, hfo_o2, hfo_o3, hfo_o4⟩ := fz5 BKo) | ((with_reducible refine gate_store (t := 31) (p := 3) rfl ?_); refine store_event (t := 31) (p := 3) (v := ?vos) (w1 := (st5 wo gbo (.slice Z0 z0.length d0) (.slice Z1 z1.length d1) (.slice Z2 z2.length d2) (.int .i64 z3) (.int .i64 z4))) ?hg ?ho ?hn ?hr ?_; (case ho => rfl); (case hg => rfl); (case hn => rfl); (case hr => first | (go_simp; done) | (go_simp; rfl)); intro ws hw; replace BKp := kS5 hw BKp NEp_o.out; replace BKr := kS5 hw BKr NEr_o.out; replace BKo := sS5 hw BKo; replace HX := bS5 hw HX GEo.out; replace HO := pS5 hw HO (fun k hk e_ => by have := GO.out; have := hk.2; omega); clear hw hco_o0 hco_o1 hco_o2 hco_o3 hco_o4 hfo_o0 hfo_o1 hfo_o2 hfo_o3 hfo_o4 hca_p0 hca_p1 hca_p2 hca_p3 hca_p4; obtain ⟨hcb_p0, hcb_p1, hcb_p2, hcb_p3, hcb_p4⟩ := cl5 BKp) | (go_at_call 33; (refine (impl_PageOk.calls k A0 c0 s0 A1 c1 s1 A2 c2 s2 h b false _ (Kd.C_below Hhp0.out HX.out) Hhd0.out (Kd.C_below Hhp1.out HX.out) Hhd1.out (Kd.C_below Hhp2.out HX.out) Hhd2.out M_ (pw_cell_below HX.out Hhm_.out) AT.out).mono ?_); rintro e wk ⟨rfl, hb⟩; replace BKp := bb BKp hb; replace BKr := bb BKr hb; replace BKo := bb BKo hb; replace HX := xb HX hb; replace HO := am (HO.out.below hb); clear hb hcb_p0 hcb_p1 hcb_p2 hcb_p3 hcb_p4; obtain ⟨hcd_o0, hcd_o1, hcd_o2, hcd_o3, hcd_o4⟩ := cl5 BKo; obtain ⟨hcd_r0, hcd_r1, hcd_r2, hcd_r3, hcd_r4⟩ := cl5 BKr; obtain ⟨hfd_r0, hfd_r1, hfd_r2, hfd_r3, hfd_r4⟩ := fz5 BKr; have HNR : Aside0 (∀ k, (fun k => wr.heap.size ≤ k ∧ k < wc.heap.size) k → k ≠ gbr) := ⟨fun k hk e_ => by have h1_ := LTr.out; have h2_ : wr.heap.size ≤ k := hk.1; omega⟩) | ((with_reducible refine gate_store (t := 31) (p := 2) rfl ?_); refine store_event (t := 31) (p := 2) (v := ?vor) (w1 := (st5 wk gbr (.slice Z0 z0.length d0) (.slice Z1 z1.length d1) (.slice Z2 z2.length d2) (.int .i64 z3) (.int .i64 z4))) ?hg ?ho ?hn ?hr ?_; (case ho => rfl); (case hg => rfl); (case hn => rfl); (case hr => first | (go_simp; done) | (go_simp; rfl)); intro wf hw; replace BKr := sS5 hw BKr; replace HX := bS5 hw HX GEr.out; have HF := pS5 hw HO (fun k hk e_ => HNR.out k hk e_); clear hw) | (go_at_call 33; (refine (impl_PageOk.calls k A0 c0 s0 A1 c1 s1 A2 c2 s2 h b true _ (Kd.C_below Hhp0.out HX.out) Hhd0.out (Kd.C_below Hhp1.out HX.out) Hhd1.out (Kd.C_below Hhp2.out HX.out) Hhd2.out M_ (pw_cell_below HX.out Hhm_.out) AT.out).mono ?_); rintro e wk ⟨rfl, hb⟩; replace BKp := bb BKp hb; replace BKr := bb BKr hb; replace BKo := bb BKo hb; replace HX := xb HX hb; replace HO := am (HO.out.below hb); clear hb hcb_p0 hcb_p1 hcb_p2 hcb_p3 hcb_p4; have HPS : Aside0 (PgS w.heap.size wk (fun k => wr.heap.size ≤ k ∧ k < wc.heap.size) gbo z0 z1 z2 z3 z4) := ⟨⟨_, _, _, BKo.out, GEo.out, fun k hk e_ => by have := GO.out; have := hk.2; omega, HO.out⟩⟩; have LWK := am (show gbr < wk.heap.size from blk_lt BKr.out)) | (go_at_call 44; (refine (impl_Page_reopen.calls k _ gbo z0 z1 z2 z3 z4 q0 q1 q2 w _ HPS.out HX.out M_ Hhm_.out AQ.out).mono ?_); rintro e wm ⟨rfl, hps, hb, hk⟩; replace BKr := am (blk_kept BKr.out hk (fun hk_ => hk_.elim (fun q_ => by have := LTr.out; have : wr.heap.size ≤ gbr := q_.1; omega) NEr_o.out)); have LK := am (below_size HX.out); have L3 := am (blk_lt BKr.out); have LRK := am hb.size; replace HX := am hb; obtain ⟨y0, y1, y2, hgo, _, _, hho⟩ := hps; replace HO := am hho; replace BKo := am hgo; obtain ⟨Y0, e0, Y1, e1, Y2, e2, rfl, rfl, rfl, _, _, _⟩ := HO.out.slices; clear hgo hho hb hk; have HNR : Aside0 (∀ k, (fun k => (wr.heap.size ≤ k ∧ k < wc.heap.size) ∨ wk.heap.size ≤ k) k → k ≠ gbr) := ⟨fun k hk e_ => by have h1_ := LTr.out; have h2_ := LWK.out; rcases hk with hk | hk; (have := hk.1; omega); omega⟩; obtain ⟨hce_o0, hce_o1, hce_o2, hce_o3, hce_o4⟩ := cl5 BKo; obtain ⟨hce_r0, hce_r1, hce_r2, hce_r3, hce_r4⟩ := cl5 BKr; obtain ⟨hfe_r0, hfe_r1, hfe_r2, hfe_r3, hfe_r4⟩ := fz5 BKr) | ((with_reducible refine gate_store (t := 31) (p := 2) rfl ?_); refine store_event (t := 31) (p := 2) (v := ?vor) (w1 := (st5 wm gbr (.slice Y0 q0.length e0) (.slice Y1 q1.length e1) (.slice Y2 q2.length e2) (.int .i64 z3) (.int .i64 z4))) ?hg ?ho ?hn ?hr ?_; (case ho => rfl); (case hg => rfl); (case hn => rfl); (case hr => first | (go_simp; done) | (go_simp; rfl)); intro wf hw; replace BKr := sS5 hw BKr; replace HX := bS5 hw HX GEr.out; have HF := pS5 hw HO (fun k hk e_ => HNR.out k hk e_); clear hw))
  first | (refine bodyPost_ret (results_cell_row rfl _ _ gbr 31 #[.slice Z0 z0.length d0, .slice Z1 z1.length d1, .slice Z2 z2.length d2, .int .i64 z3, .int .i64 z4] (0, 0) _ rfl BKr.out Tryz.underlying31 rfl (by kernel_rfl)) rfl ?_) | (refine bodyPost_ret (results_cell_row rfl _ _ gbr 31 #[.slice Y0 q0.length e0, .slice Y1 q1.length e1, .slice Y2 q2.length e2, .int .i64 z3, .int .i64 z4] (0, 0) _ rfl BKr.out Tryz.underlying31 rfl (by kernel_rfl)) rfl ?_)
  exact ⟨_, _, _, rfl, HF.out.to_copy.1, HF.out.to_copy.2.1, HF.out.to_copy.2.2, HX.out⟩
end Go.Proofs.YtekkalnafngfeaaGreat.P
