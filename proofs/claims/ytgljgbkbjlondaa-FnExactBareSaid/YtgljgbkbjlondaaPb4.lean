-- WRITTEN BY hprint.py, this session's own program, over the kit's printer: not typed by hand; Lean checks it
import Derived.Test.YtgljgbkbjlondaaPb0
namespace Go.Proofs.Ytgljgbkbjlondaa.P
open Go.RowKit Go.Proofs.YtgljgbkbjlondaaW.PrintWords Go.Proofs.YtgljgbkbjlondaaW.PrintLast Go.Proofs.YtgljgbkbjlondaaW.PrintMore
attribute [local go_sem] max2_int min2_int max_two min_two max_three min_three max_four min_four   -- for this text's walks alone
set_option linter.unusedVariables false
set_option linter.unusedSimpArgs false

/-! ### impl_Bare: function 8 (by hand) -/
theorem encs_strs (xs : List ByteArray) : encs Value.string xs = (xs.map fun b => b.data.toList).map Go.Proofs.encStr := by
 rw [encs, List.map_map]
 rfl
def impl_Bare.sorted (xs : List ByteArray) : List ByteArray := (Go.Lib.compact ((xs.map fun b => b.data.toList).mergeSort fun x y => decide (x ≤ y))).map fun l => ⟨l.toArray⟩
theorem encs_sorted (xs : List ByteArray) : encs Value.string (impl_Bare.sorted xs) = (Go.Lib.compact ((xs.map fun b => b.data.toList).mergeSort fun x y => decide (x ≤ y))).map Go.Proofs.encStr := by
 rw [encs, impl_Bare.sorted, List.map_map]
 rfl
open Go.Sort Go.Lib in
theorem Bare.left_of {w w1 : World} {g cap n nn q : Nat} {os : Array Obj} {ss : List (List UInt8)} (hown : w1.ownsRow w.heap.size 9 1 (.slice (some ⟨g, 0, none⟩) n cap) n (ss.map encStr)) (hbel : Below w.heap.size w w1) (hbg : w.heap.size ≤ g) (hlen : ss.length = n) :
  (putRow encStr (Sort.ahead (grow (putRow encStr (Sort.ahead w1 nn) g 0 (ss.mergeSort fun x y => decide (x ≤ y)).toArray) os) q) g 0 (Lib.compact (ss.mergeSort fun x y => decide (x ≤ y)) ++ List.replicate (n - (Lib.compact (ss.mergeSort fun x y => decide (x ≤ y))).length) []).toArray).ownsRow w.heap.size 9 1 (.slice (some ⟨g, 0, none⟩) (Lib.compact (ss.mergeSort fun x y => decide (x ≤ y))).length cap) (Lib.compact (ss.mergeSort fun x y => decide (x ≤ y))).length ((Lib.compact (ss.mergeSort fun x y => decide (x ≤ y))).map encStr) ∧
  Below w.heap.size w (putRow encStr (Sort.ahead (grow (putRow encStr (Sort.ahead w1 nn) g 0 (ss.mergeSort fun x y => decide (x ≤ y)).toArray) os) q) g 0 (Lib.compact (ss.mergeSort fun x y => decide (x ≤ y)) ++ List.replicate (n - (Lib.compact (ss.mergeSort fun x y => decide (x ≤ y))).length) []).toArray) := by
 have hl2 : (ss.mergeSort fun x y => decide (x ≤ y)).length = ss.length := List.length_mergeSort ss
 have hle := Lib.compact_length_le (ss.mergeSort fun x y => decide (x ≤ y))
 subst hlen
 rcases hown.2 with ⟨h0, _⟩ | ⟨g', cap', cur, hv, hbase, hb, h1, h2, h3, h4⟩
 ·cases h0
 cases hv
 have hs := ownsRow_sorted (n := nn) (os := os) (ts := ss.mergeSort fun x y => decide (x ≤ y)) hl2 hbase hb h1 h2 h3
 have hc := Lib.ownsRow_putRow (q := q) (k := (Lib.compact (ss.mergeSort fun x y => decide (x ≤ y))).length) (ys := Lib.compact (ss.mergeSort fun x y => decide (x ≤ y)) ++ List.replicate (ss.length - (Lib.compact (ss.mergeSort fun x y => decide (x ≤ y))).length) []) hs (by simp; omega) (by omega)
 rw [List.take_left] at hc
 exact ⟨hc, Lib.below_putRow (hbel.grown (grownBy_sorted _) hbel.size (fun j hj => by cases hj; exact hbase)) hbg⟩
theorem Bare.not_nil {w1 : World} {b n : Nat} {ys : List Value} (ho : w1.ownsRow b 9 1 (.slice none 0 0) n ys) (hp : 0 < n) : False := by
 rcases ho.2 with ⟨_, h0⟩ | ⟨g, cap, cur, h0, _⟩
 ·omega
 ·cases h0
theorem Bare.len_le {w : World} {A : Option Addr} {n : Nat} {xs : List ByteArray} (h : Kd.C Kd.string w A n xs) : n ≤ 9223372036854775807 := by
 unfold Kd.C ReadsRow at h
 exact h.2.1
theorem impl_Bare.sorted_nil : impl_Bare.sorted [] = [] := by
 simp [impl_Bare.sorted, Go.Lib.compact, Go.Lib.compactUpTo]
open Go.Sort Go.Lib in
/-- slices.Sort of a row of the call's own that is not empty, then slices.Compact: what is asked. -/
theorem Bare.sorts {w : World} {g cap : Nat} {xs : List ByteArray} {ss : List (List UInt8)} (hss : ss = xs.map fun b => b.data.toList) (hp : 0 < xs.length) (hm : xs.length < 4611686018427387904) (w1 : World) (h : Kd.R Kd.string 9 w1 w.heap.size (fun _ => True) (.slice (some ⟨g, 0, none⟩) xs.length cap) xs) (hb : Below w.heap.size w w1) :
   Calls Try.prog 22 #[.slice (some ⟨g, 0, none⟩) xs.length cap] w1 (fun e w2 => e = .returned (.tuple #[]) ∧
    Calls Try.prog 24 #[.slice (some ⟨g, 0, none⟩) xs.length cap] w2 fun e w3 => e = .returned (.slice (some ⟨g, 0, none⟩) (impl_Bare.sorted xs).length cap) ∧ (impl_Bare.sorted xs).length ≤ cap ∧ Kd.R Kd.string 9 w3 w.heap.size (fun _ => True) (.slice (some ⟨g, 0, none⟩) (impl_Bare.sorted xs).length cap) (impl_Bare.sorted xs) ∧ Below w.heap.size w w3) := by
 have ho := Kd.own_of_R h
 rw [encs_strs, ← hss] at ho
 have hl : ss.length = xs.length := by rw [hss, List.length_map]
 obtain ⟨g', cap', hv, hbg, hgl, hncap, hcm, hlen, hH⟩ := Lib.holds_of_ownsRow ho (fun e => Bare.not_nil (by rw [e] at ho; exact ho) hp)
 cases hv
 have hsort := Try.slices_Sort_string g 0 cap ss w1 hH hgl (by omega)
 rw [hlen] at hsort
 refine hsort.mono ?_
 rintro e w2 ⟨rfl, nn, os, rfl⟩
 refine ⟨rfl, ?_⟩
 have hl2 : (ss.mergeSort fun x y => decide (x ≤ y)).length = xs.length := by rw [List.length_mergeSort]; exact hl
 have hH2 : Holds encStr (grow (putRow encStr (Sort.ahead w1 nn) g 0 (ss.mergeSort fun x y => decide (x ≤ y)).toArray) os) g 0 (ss.mergeSort fun x y => decide (x ≤ y)).toArray :=
  holds_grow encStr _ os g 0 _ (by simpa [putRow, mapBlock, Sort.ahead] using hgl) (holds_putRow encStr _ g 0 _ _ (holds_ahead encStr w1 nn g 0 _ hH) (by simp))
 have hcomp := Try.slices_Compact_string g 0 cap (ss.mergeSort fun x y => decide (x ≤ y)) _ hH2 (by omega) (by omega)
 rw [hl2] at hcomp
 refine hcomp.mono ?_
 rintro e w3 ⟨rfl, q, rfl⟩
 have hr : (impl_Bare.sorted xs).length = (Lib.compact (ss.mergeSort fun x y => decide (x ≤ y))).length := by rw [impl_Bare.sorted, List.length_map, hss]
 have hle := Lib.compact_length_le (ss.mergeSort fun x y => decide (x ≤ y))
 obtain ⟨hc, hB⟩ := Bare.left_of (nn := nn) (os := os) (q := q) ho hb hbg hl
 rw [hr]
 refine ⟨rfl, by omega, Kd.R_of_own ?_ (fun _ _ => trivial), hB⟩
 rw [hr, encs_sorted, ← hss]
 exact hc
theorem slices_Clip.calls (A : Option Addr) (n c : Nat) (w : World) (h : n ≤ c) (hc : n ≤ 9223372036854775807) :
  Calls Try.prog 23 #[.slice A n c] w fun e w' => e = .returned (.slice A n n) ∧ w' = w := by
 have hn := Aside0.mk h
 go_enter Try.func23, Try.ntmps23
 go_wp2
 go_ret
 exact ⟨rfl, rfl⟩
def impl_Bare.l0 : Nat → List ByteArray → List (S50) → Int → Int → Option (List ByteArray)
 | 0, _, _, _, _ => none
 | k + 1, x3, x6, x7, x8 => if x8 < x7 then (if 0 ≤ x8 then (if x8 < (x6.length : Int) then (if ((rd_T50 x6 x8).f0) = 2 then (if x3.length < 8796093022208 then (impl_Bare.l0 k (x3 ++ [(rd_T50 x6 x8).f2]) x6 x7 (wrap64 (x8 + 1))) else (none)) else (impl_Bare.l0 k x3 x6 x7 (wrap64 (x8 + 1)))) else (none)) else (none)) else (some x3)
def impl_Bare.f (k : Nat) (l0 : List (S50)) : Option (List ByteArray) := (impl_Bare.l0 k ([] : List ByteArray) l0 (l0.length : Int) 0).bind fun xs => if xs.length < 4611686018427387904 then some (impl_Bare.sorted xs) else none
theorem impl_Bare.mono_l : ∀ k, (∀ y0 y1 y2 y3, LeO (impl_Bare.l0 k y0 y1 y2 y3) (impl_Bare.l0 (k + 1) y0 y1 y2 y3))
 | 0 => fun _ _ _ _ r h => by simp [impl_Bare.l0] at h
 | k + 1 => by
  have ih0 := impl_Bare.mono_l k
  ·intro y0 y1 y2 y3
   unfold impl_Bare.l0
   repeat' first
   | (with_reducible exact ih0 _ _ _ _)
   | (with_reducible exact LeO.refl _)
   | (with_reducible exact LeO.none _)
   | (with_reducible refine LeO.ite ?_ ?_)
   | (with_reducible refine LeO.bind ?_ (fun _ => ?_))
theorem impl_Bare.mono : ∀ a0 k, LeO (impl_Bare.f k a0) (impl_Bare.f (k + 1) a0) := by
 intro a0 k
 have ih0 := impl_Bare.mono_l k
 unfold impl_Bare.f
 refine LeO.bind (ih0 _ _ _ _) (fun _ => LeO.refl _)
set_option maxHeartbeats 8000000 in
set_option maxRecDepth 100000 in
theorem impl_Bare.calls_c (k : Nat) (A0 : Option Addr) (c0 : Nat) (l0 : List (S50)) (r : List ByteArray) (w : World) (hr0 : Kd.C k50 w A0 l0.length l0) (hc0 : l0.length ≤ c0) (h : impl_Bare.f k l0 = some r) :
  Calls Try.prog 8 #[.slice A0 l0.length c0] w fun e w' => ∃ (A : Option Addr) (c : Nat), e = .returned (.slice A r.length r.length) ∧ Kd.R Kd.string 9 w' w.heap.size (fun _ => True) (.slice A r.length c) r ∧ Below w.heap.size w w' := by
 have hu50 := Try.underlying50
 have HR0 := Aside0.mk hr0
 have HC0 := Aside0.mk hc0
 clear hr0 hc0
 have HB := Aside0.mk (Below.refl w.heap.size w)
 obtain ⟨xs, H, hrs⟩ := Option.bind_eq_some_iff.mp h
 clear h
 by_cases hxl : xs.length < 4611686018427387904
 case neg => rw [if_neg hxl] at hrs; cases hrs
 rw [if_pos hxl] at hrs
 obtain rfl := Option.some.inj hrs
 clear hrs
 have HXL := Aside0.mk hxl
 clear hxl
 have H' := Aside0.mk H
 clear H
 go_enter Try.func8, Try.ntmps8
 go_wp2
 go_loopg [3, 8] k (fun kq v3 v8 w' => ∃ (x3_1 : List ByteArray) (x8_1 : Int), v8 = .int .i64 x8_1 ∧ Aside0 (impl_Bare.l0 kq x3_1 l0 (l0.length : Int) x8_1 = some xs) ∧ Aside0 (kq ≤ k) ∧ Aside0 (Kd.R Kd.string 9 w' w.heap.size (fun _ => True) v3 x3_1) ∧ Aside0 (Below w.heap.size w w'))
 case atStart => exact ⟨(([] : List ByteArray)), (0), ab6, H', ⟨Nat.le_refl _⟩, ⟨by first | exact Kd.R_nil _ _ _ _ _ | exact Kd.N_nil _ _ _ _ _ | exact Kd.V_nil _ _ _ _ _ | exact Kd.Q_nil _ _ _ _ _ | exact Kd.S_nil _ _ _ _ _⟩, ⟨ab1⟩⟩
 case round =>
  clear H'
  obtain ⟨x3_1, x8_1, rfl, HA, HK1, HO_3, HB⟩ := hrel
  cases gk with
  | zero => exact absurd HA.out (by simp [impl_Bare.l0])
  | succ k1 =>
   have H := HA.out
   clear HA
   simp only [impl_Bare.l0] at H
   by_cases c2 : x8_1 < (l0.length : Int)
   ·rw [if_pos c2] at H
    have c2b0 := decide_eq_true c2
    clear c2
    by_cases c3 : 0 ≤ x8_1
    case neg => rw [if_neg c3] at H; exact absurd H (by simp)
    rw [if_pos c3] at H
    have c3b0 := decide_eq_true c3
    clear c3
    by_cases c4 : x8_1 < (l0.length : Int)
    case neg => rw [if_neg c4] at H; exact absurd H (by simp)
    rw [if_pos c4] at H
    have c4b0 := decide_eq_true c4
    clear c4
    by_cases c5 : ((rd_T50 l0 x8_1).f0) = 2
    ·rw [if_pos c5] at H
     have c5b0 : (((rd_T50 l0 x8_1).f0) == 2) = true := beq_iff_eq.mpr c5
     have c5b1 : (((rd_T50 l0 x8_1).f0) != 2) = false := bne_eq_false_iff_eq.mpr c5
     clear c5
     by_cases c6 : x3_1.length < 8796093022208
     case neg => rw [if_neg c6] at H; exact absurd H (by simp)
     rw [if_pos c6] at H
     have LMc6 := Aside0.mk c6
     clear c6
     obtain ⟨y199, hy199⟩ : ∃ y_ : List ByteArray, y_ = (x3_1 ++ [(rd_T50 l0 x8_1).f2]) := ⟨_, rfl⟩
     replace H : (impl_Bare.l0 k1 y199 l0 (l0.length : Int) (wrap64 (x8_1 + 1))) = some xs := by first | (rw [hy199]; with_reducible exact H) | (have H2_ := (Option.bind_some _ _).symm.trans H; rw [hy199]; with_reducible exact H2_) | (have H2_ := (Option.bind_some _ _).symm.trans H; with_reducible exact H2_) | with_reducible exact H | (rw [hy199]; exact H) | exact H
     have Ny199 := Aside0.mk hy199
     clear hy199
     have H' := Aside0.mk H
     clear H
     have p197 : 0 ≤ (x8_1 : Int) := of_decide_eq_true ab4
     have q197 : x8_1 < (l0.length : Int) := of_decide_eq_true ab4
     obtain ⟨ad197, A197_3, c197_3, A197_6, c197_6, e197, hx197_0, hx197_1, hx197_2, hx197_3, hx197_4, hx197_5, hx197_6, hl197_3, hi197_3, hl197_6, hi197_6⟩ := at_T50 HR0.out x8_1 p197 q197
     cases e197
     replace hx197_0 := pw_cell_below HB.out hx197_0
     replace hx197_1 := pw_cell_below HB.out hx197_1
     replace hx197_2 := pw_cell_below HB.out hx197_2
     replace hx197_3 := pw_cell_below HB.out hx197_3
     replace hx197_4 := pw_cell_below HB.out hx197_4
     replace hx197_5 := pw_cell_below HB.out hx197_5
     replace hx197_6 := pw_cell_below HB.out hx197_6
     have HR197_3 := Aside0.mk hi197_3
     have HC197_3 := Aside0.mk hl197_3
     clear hi197_3 hl197_3
     have HR197_6 := Aside0.mk hi197_6
     have HC197_6 := Aside0.mk hl197_6
     clear hi197_6 hl197_6
     replace p197 := eq_true p197
     replace q197 := eq_true q197
     go_wp2_with (first | ((with_reducible refine gate_dst (N := 5) rfl ?_); refine box_event ?hg (N := 5) ?hd (cs := #[.int .i64 0, .int .i64 0, .string (⟨#[]⟩ : ByteArray), .slice none 0 0, .string (⟨#[]⟩ : ByteArray), .int .i64 0, .slice none 0 0]) (t := 50) ?hr ?_; (case hd => rfl); (case hg => rfl); (case hr => first | (go_simp; done) | (go_simp; rfl)); intro gb198 hg w7 hbox hb; have n0_ := Aside0.mk (Kd.R_below (ab8 HO_3) hb); have n1_ := Aside0.mk (below_step ab1 hb); have n2_ := Aside0.mk (hbox); have n3_ := Aside0.mk ((by rw [hg]; exact (below_size ab1) : w.heap.size ≤ gb198)); have n4_ := Aside0.mk ((by rw [hg]; exact (below_size ab1) : w.heap.size ≤ gb198)); clear HO_3; clear HB; have HO_3 := n0_; have HB := n1_; have BK198 := n2_; have GW198 := n3_; have GE198 := n4_; clear n0_ n1_ n2_ n3_ n4_; clear hb hbox hg; obtain ⟨⟨hcz8_0, hcz8_1, hcz8_2, hcz8_3, hcz8_4, hcz8_5, hcz8_6⟩, hfz8_0, hfz8_1, hfz8_2, hfz8_3, hfz8_4, hfz8_5, hfz8_6⟩ := Op.cells7 BK198.out) | ((with_reducible refine gate_builtin (b := .append) (xs := #[.tmp 15, .tmp 18]) rfl ?_); at_builtin; refine Kd.R_append Kd.string (w0 := w) w.heap.size rfl (.tmp 15) (.tmp 18) 24 9 (.string ⟨#[]⟩) 16 rfl Try.underlying24 info9 rfl (by decide) (by omega) u3 x3_1 ((rd_T50 l0 x8_1).f2) [.string ((rd_T50 l0 x8_1).f2)] (fun _ => True) (fun _ => False) rfl (by first | (go_simp; done) | (go_simp; rfl)) ?aP (fun _ hk => hk.elim) ?aF ?aO ?aB ?aS ?aL ?_; (case aP => exact rfl); (case aB => exact (ab2 GE198)); (case aF => exact (fun _ _ => trivial)); (case aO => exact (by (with_reducible repeat (first | apply Kd.R_alloc | apply Kd.R_drewN | apply Kd.R_drew)); exact Kd.R_mono (Kd.R_far (p := ⟨gb198, 6, none⟩) (Kd.R_far (p := ⟨gb198, 5, none⟩) (Kd.R_far (p := ⟨gb198, 4, none⟩) (Kd.R_far (p := ⟨gb198, 3, none⟩) (Kd.R_far (p := ⟨gb198, 2, none⟩) (Kd.R_far (p := ⟨gb198, 1, none⟩) (Kd.R_far (p := ⟨gb198, 0, none⟩) (Kd.R_types HO_3.out BK198.out (by decide)) (fun _ hk => hk.2) (.int .i64 ((rd_T50 l0 x8_1).f0))) (fun _ hk => hk.2) (.int .i64 ((rd_T50 l0 x8_1).f1))) (fun _ hk => hk.2) (.string ((rd_T50 l0 x8_1).f2))) (fun _ hk => hk.2) (.slice A197_3 ((rd_T50 l0 x8_1).f3).length c197_3)) (fun _ hk => hk.2) (.string ((rd_T50 l0 x8_1).f4))) (fun _ hk => hk.2) (.int .i64 ((rd_T50 l0 x8_1).f5))) (fun _ hk => hk.2) (.slice A197_6 ((rd_T50 l0 x8_1).f6).length c197_6)) (fun _ hk => trivial))); (case aS => exact (below_size (ab2 GE198))); (case aL => have := LMc6.out; omega); intro v200 w9 ho hb hg hat; rw [← Ny199.out] at ho; have n0_ := Aside0.mk (blk_grown (g := gb198) (o := .cells #[.int .i64 ((rd_T50 l0 x8_1).f0), .int .i64 ((rd_T50 l0 x8_1).f1), .string ((rd_T50 l0 x8_1).f2), .slice A197_3 ((rd_T50 l0 x8_1).f3).length c197_3, .string ((rd_T50 l0 x8_1).f4), .int .i64 ((rd_T50 l0 x8_1).f5), .slice A197_6 ((rd_T50 l0 x8_1).f6).length c197_6] 50 (0, 0)) (by (with_reducible repeat (first | refine blk_drewN ?_ _ | refine blk_drew ?_ | refine blk_alloc ?_ _)); refine blk_put (cs := #[.int .i64 ((rd_T50 l0 x8_1).f0), .int .i64 ((rd_T50 l0 x8_1).f1), .string ((rd_T50 l0 x8_1).f2), .slice A197_3 ((rd_T50 l0 x8_1).f3).length c197_3, .string ((rd_T50 l0 x8_1).f4), .int .i64 ((rd_T50 l0 x8_1).f5), .slice none 0 0]) ?_ 6 _ rfl; (with_reducible repeat (first | refine blk_drewN ?_ _ | refine blk_drew ?_ | refine blk_alloc ?_ _)); refine blk_put (cs := #[.int .i64 ((rd_T50 l0 x8_1).f0), .int .i64 ((rd_T50 l0 x8_1).f1), .string ((rd_T50 l0 x8_1).f2), .slice A197_3 ((rd_T50 l0 x8_1).f3).length c197_3, .string ((rd_T50 l0 x8_1).f4), .int .i64 0, .slice none 0 0]) ?_ 5 _ rfl; (with_reducible repeat (first | refine blk_drewN ?_ _ | refine blk_drew ?_ | refine blk_alloc ?_ _)); refine blk_put (cs := #[.int .i64 ((rd_T50 l0 x8_1).f0), .int .i64 ((rd_T50 l0 x8_1).f1), .string ((rd_T50 l0 x8_1).f2), .slice A197_3 ((rd_T50 l0 x8_1).f3).length c197_3, .string (⟨#[]⟩ : ByteArray), .int .i64 0, .slice none 0 0]) ?_ 4 _ rfl; (with_reducible repeat (first | refine blk_drewN ?_ _ | refine blk_drew ?_ | refine blk_alloc ?_ _)); refine blk_put (cs := #[.int .i64 ((rd_T50 l0 x8_1).f0), .int .i64 ((rd_T50 l0 x8_1).f1), .string ((rd_T50 l0 x8_1).f2), .slice none 0 0, .string (⟨#[]⟩ : ByteArray), .int .i64 0, .slice none 0 0]) ?_ 3 _ rfl; (with_reducible repeat (first | refine blk_drewN ?_ _ | refine blk_drew ?_ | refine blk_alloc ?_ _)); refine blk_put (cs := #[.int .i64 ((rd_T50 l0 x8_1).f0), .int .i64 ((rd_T50 l0 x8_1).f1), .string (⟨#[]⟩ : ByteArray), .slice none 0 0, .string (⟨#[]⟩ : ByteArray), .int .i64 0, .slice none 0 0]) ?_ 2 _ rfl; (with_reducible repeat (first | refine blk_drewN ?_ _ | refine blk_drew ?_ | refine blk_alloc ?_ _)); refine blk_put (cs := #[.int .i64 ((rd_T50 l0 x8_1).f0), .int .i64 0, .string (⟨#[]⟩ : ByteArray), .slice none 0 0, .string (⟨#[]⟩ : ByteArray), .int .i64 0, .slice none 0 0]) ?_ 1 _ rfl; (with_reducible repeat (first | refine blk_drewN ?_ _ | refine blk_drew ?_ | refine blk_alloc ?_ _)); refine blk_put (cs := #[.int .i64 0, .int .i64 0, .string (⟨#[]⟩ : ByteArray), .slice none 0 0, .string (⟨#[]⟩ : ByteArray), .int .i64 0, .slice none 0 0]) ?_ 0 _ rfl; (with_reducible repeat (first | refine blk_drewN ?_ _ | refine blk_drew ?_ | refine blk_alloc ?_ _)); exact BK198.out) hg (Kd.R_ne HO_3.out BK198.out (by decide))); have n1_ := Aside0.mk (hb); have n2_ := Aside0.mk (ho); clear BK198; clear HB; clear HO_3; have BK198 := n0_; have HB := n1_; have HO201 := n2_; clear n0_ n1_ n2_; clear ho hb hg hat))
     go_roundg k1
     case measure => have := HK1.out; omega
     case rel => exact ⟨(y199), (wrap64 (x8_1 + 1)), ab6, H', ⟨by have := HK1.out; omega⟩, ⟨ab8 HO201⟩, ⟨ab2 GE198⟩⟩
    ·rw [if_neg c5] at H
     have c5b0 : (((rd_T50 l0 x8_1).f0) == 2) = false := beq_eq_false_iff_ne.mpr c5
     have c5b1 : (((rd_T50 l0 x8_1).f0) != 2) = true := bne_iff_ne.mpr c5
     have H' := Aside0.mk H
     clear H
     have p197 : 0 ≤ (x8_1 : Int) := of_decide_eq_true ab4
     have q197 : x8_1 < (l0.length : Int) := of_decide_eq_true ab4
     obtain ⟨ad197, A197_3, c197_3, A197_6, c197_6, e197, hx197_0, hx197_1, hx197_2, hx197_3, hx197_4, hx197_5, hx197_6, hl197_3, hi197_3, hl197_6, hi197_6⟩ := at_T50 HR0.out x8_1 p197 q197
     cases e197
     replace hx197_0 := pw_cell_below HB.out hx197_0
     replace hx197_1 := pw_cell_below HB.out hx197_1
     replace hx197_2 := pw_cell_below HB.out hx197_2
     replace hx197_3 := pw_cell_below HB.out hx197_3
     replace hx197_4 := pw_cell_below HB.out hx197_4
     replace hx197_5 := pw_cell_below HB.out hx197_5
     replace hx197_6 := pw_cell_below HB.out hx197_6
     have HR197_3 := Aside0.mk hi197_3
     have HC197_3 := Aside0.mk hl197_3
     clear hi197_3 hl197_3
     have HR197_6 := Aside0.mk hi197_6
     have HC197_6 := Aside0.mk hl197_6
     clear hi197_6 hl197_6
     replace p197 := eq_true p197
     replace q197 := eq_true q197
     go_wp2_with (first | ((with_reducible refine gate_dst (N := 5) rfl ?_); refine box_event ?hg (N := 5) ?hd (cs := #[.int .i64 0, .int .i64 0, .string (⟨#[]⟩ : ByteArray), .slice none 0 0, .string (⟨#[]⟩ : ByteArray), .int .i64 0, .slice none 0 0]) (t := 50) ?hr ?_; (case hd => rfl); (case hg => rfl); (case hr => first | (go_simp; done) | (go_simp; rfl)); intro gb198 hg w10 hbox hb; have n0_ := Aside0.mk (Kd.R_below (ab8 HO_3) hb); have n1_ := Aside0.mk (below_step ab1 hb); have n2_ := Aside0.mk (hbox); have n3_ := Aside0.mk ((by rw [hg]; exact (below_size ab1) : w.heap.size ≤ gb198)); have n4_ := Aside0.mk ((by rw [hg]; exact (below_size ab1) : w.heap.size ≤ gb198)); clear HO_3; clear HB; have HO_3 := n0_; have HB := n1_; have BK198 := n2_; have GW198 := n3_; have GE198 := n4_; clear n0_ n1_ n2_ n3_ n4_; clear hb hbox hg; obtain ⟨⟨hcz11_0, hcz11_1, hcz11_2, hcz11_3, hcz11_4, hcz11_5, hcz11_6⟩, hfz11_0, hfz11_1, hfz11_2, hfz11_3, hfz11_4, hfz11_5, hfz11_6⟩ := Op.cells7 BK198.out))
     go_roundg k1
     case measure => have := HK1.out; omega
     case rel => exact ⟨(x3_1), (wrap64 (x8_1 + 1)), ab6, H', ⟨by have := HK1.out; omega⟩, ⟨by (with_reducible repeat (first | apply Kd.R_alloc | apply Kd.R_drewN | apply Kd.R_drew)); exact Kd.R_mono (Kd.R_far (p := ⟨gb198, 6, none⟩) (Kd.R_far (p := ⟨gb198, 5, none⟩) (Kd.R_far (p := ⟨gb198, 4, none⟩) (Kd.R_far (p := ⟨gb198, 3, none⟩) (Kd.R_far (p := ⟨gb198, 2, none⟩) (Kd.R_far (p := ⟨gb198, 1, none⟩) (Kd.R_far (p := ⟨gb198, 0, none⟩) (Kd.R_types HO_3.out BK198.out (by decide)) (fun _ hk => hk.2) (.int .i64 ((rd_T50 l0 x8_1).f0))) (fun _ hk => hk.2) (.int .i64 ((rd_T50 l0 x8_1).f1))) (fun _ hk => hk.2) (.string ((rd_T50 l0 x8_1).f2))) (fun _ hk => hk.2) (.slice A197_3 ((rd_T50 l0 x8_1).f3).length c197_3)) (fun _ hk => hk.2) (.string ((rd_T50 l0 x8_1).f4))) (fun _ hk => hk.2) (.int .i64 ((rd_T50 l0 x8_1).f5))) (fun _ hk => hk.2) (.slice A197_6 ((rd_T50 l0 x8_1).f6).length c197_6)) (fun _ hk => trivial)⟩, ⟨ab2 GE198⟩⟩
   ·rw [if_neg c2] at H
    have c2b0 := decide_eq_false c2
    clear c2
    obtain rfl := Option.some.inj H
    clear H
    rcases Nat.eq_zero_or_pos x3_1.length with hz | hp
    ·have hnil : x3_1 = [] := List.eq_nil_of_length_eq_zero hz
     subst hnil
     clear hz
     obtain ⟨Ao9, co9, eo9⟩ := Kd.R_slice HO_3.out
     subst eo9
     go_wp2_with (first | (go_at_call 22; (with_reducible refine (Try.slices_Sort_string_none Ao9 co9 _).mono ?_); rintro e w5 ⟨rfl, rfl⟩) | (go_at_call 24; (with_reducible refine (Try.slices_Compact_string_empty Ao9 co9 _).mono ?_); rintro e w6 ⟨rfl, rfl⟩) | (go_at_call 23; (with_reducible refine (slices_Clip.calls Ao9 0 co9 _ (Nat.zero_le _) (Nat.zero_le _)).mono ?_); rintro e w7 ⟨rfl, rfl⟩))
     go_ret
     rw [impl_Bare.sorted_nil]
     exact ⟨Ao9, co9, rfl, ab8 HO_3, ab1⟩
    ·obtain ⟨ss, hss⟩ : ∃ ss : List (List UInt8), ss = x3_1.map fun b => b.data.toList := ⟨_, rfl⟩
     have HP := Aside0.mk hp
     clear hp
     have HSS := Aside0.mk hss
     clear hss
     obtain ⟨go9, co9, eo9, gb9, gl9, cl9, HG9⟩ := Kd.R_form HO_3.out HP.out
     subst eo9
     clear gb9 gl9 HG9
     go_wp2_with (first | (go_at_call 22; (with_reducible refine (Bare.sorts (w := w) HSS.out HP.out HXL.out _ ?side1 ?side2).mono ?_); (case side1 => (with_reducible repeat (first | apply Kd.R_alloc | apply Kd.R_drewN | apply Kd.R_drew)); exact HO_3.out); (case side2 => repeat (first | (with_reducible first | exact HB.out | apply below_alloc | apply pw_below_drewN | apply below_drew1) | exact HB.out)); rintro e w5 ⟨rfl, hc5⟩) | (go_at_call 24; (with_reducible refine hc5.mono ?_); clear hc5; rintro e w6 ⟨rfl, hl6, hr6, hb6⟩; have HL6 := Aside0.mk hl6; clear hl6; have HR6 := Aside0.mk hr6; clear hr6; have HB6 := Aside0.mk hb6; clear hb6) | (go_at_call 23; (with_reducible refine (slices_Clip.calls _ _ _ _ HL6.out (Bare.len_le (Kd.R_reads' HR6.out).2.2)).mono ?_); rintro e w7 ⟨rfl, rfl⟩))
     go_ret
     exact ⟨_, _, rfl, ab8 HR6, by repeat (first | (with_reducible first | exact HB6.out | apply below_alloc | apply pw_below_drewN | apply below_drew1) | exact HB6.out)⟩



end Go.Proofs.Ytgljgbkbjlondaa.P
