-- WRITTEN BY hprint.py, this session's own program, over the kit's printer: not typed by hand; Lean checks it
import Derived.Test.YtgljgbkbjlondaaPl0
import Derived.Test.YtgljgbkbjlondaaPl7
import Derived.Test.YtgljgbkbjlondaaPl10
import Derived.Test.YtgljgbkbjlondaaPl14
namespace Go.Proofs.Ytgljgbkbjlondaa.P
open Go.RowKit Go.Proofs.YtgljgbkbjlondaaW.PrintWords Go.Proofs.YtgljgbkbjlondaaW.PrintLast Go.Proofs.YtgljgbkbjlondaaW.PrintMore
attribute [local go_sem] max2_int min2_int max_two min_two max_three min_three max_four min_four   -- for this text's walks alone
set_option linter.unusedVariables false
set_option linter.unusedSimpArgs false

/-! ### impl_Place: function 17 (by hand) -/
theorem pl_box {w0 w : World} {g : Nat} {A0_0 : Option Addr} {c0_0 : Nat} {s0_0 : List (S50)} {A0_1 : Option Addr} {c0_1 : Nat} {s0_1 : List Int} {A0_2 : Option Addr} {c0_2 : Nat} {s0_2 : List Int} {s0_3 : Int} {s0_4 : Int} (hg : g = w0.heap.size) (hbox : w.heap[g]? = some (.cells #[.slice A0_0 s0_0.length c0_0, .slice A0_1 s0_1.length c0_1, .slice A0_2 s0_2.length c0_2, .int .i64 s0_3, .int .i64 s0_4] 40 (0, 0))) (_ : Below w0.heap.size w0 w) (hr0_0 : Kd.C k50 w0 A0_0 s0_0.length s0_0) (hc0_0 : s0_0.length ≤ c0_0) (hr0_1 : Kd.C (Kd.int .i64) w0 A0_1 s0_1.length s0_1) (hc0_1 : s0_1.length ≤ c0_1) (hr0_2 : Kd.C (Kd.int .i64) w0 A0_2 s0_2.length s0_2) (hc0_2 : s0_2.length ≤ c0_2) : IsS40 w0 w g s0_0 s0_1 s0_2 s0_3 s0_4 :=
 ⟨A0_0, c0_0, A0_1, c0_1, A0_2, c0_2, hbox, ⟨by omega, hc0_0, hc0_1, hc0_2⟩, hr0_0, hr0_1, hr0_2⟩
def impl_PageOk.ixf (k : Nat) (s0_0 : List (S50)) (s0_1 : List Int) (s0_2 : List Int) (s0_3 : Int) (s0_4 : Int) (a1 : Int) : Option (Int × Int × Int) := (slices_Index_int_int.f k s0_1 a1).bind fun t => some (t, s0_3, s0_4)
def impl_PageOk.trf (k : Nat) (s0_0 : List (S50)) (s0_1 : List Int) (s0_2 : List Int) (s0_3 : Int) (s0_4 : Int) : Option (Bool × Int × Int) := (impl_TreeOk.f k s0_0).bind fun t => some (t, s0_3, s0_4)
theorem impl_PageOk.ixf_mono : ∀ (s0_0 : List (S50)) s0_1 (s0_2 : List Int) s0_3 s0_4 a1 k, LeO (impl_PageOk.ixf k s0_0 s0_1 s0_2 s0_3 s0_4 a1) (impl_PageOk.ixf (k + 1) s0_0 s0_1 s0_2 s0_3 s0_4 a1) := fun _ _ _ _ _ _ _ => LeO.bind (slices_Index_int_int.mono _ _ _) (fun _ => LeO.refl _)
theorem impl_PageOk.trf_mono : ∀ s0_0 (s0_1 : List Int) (s0_2 : List Int) s0_3 s0_4 k, LeO (impl_PageOk.trf k s0_0 s0_1 s0_2 s0_3 s0_4) (impl_PageOk.trf (k + 1) s0_0 s0_1 s0_2 s0_3 s0_4) := fun _ _ _ _ _ _ => LeO.bind (impl_TreeOk.mono _ _) (fun _ => LeO.refl _)
theorem impl_PageOk.ix (k : Nat) (g : Nat) (s0_0 : List (S50)) (s0_1 : List Int) (s0_2 : List Int) (s0_3 : Int) (s0_4 : Int) (a1 : Int) (r1 r2 r3 : Int) (w0 w : World) (A : Option Addr) (c : Nat) (hI : IsS40 w0 w g s0_0 s0_1 s0_2 s0_3 s0_4) (hB : Below w0.heap.size w0 w) (hr : Kd.C (Kd.int .i64) w0 A s0_1.length s0_1) (hc : s0_1.length ≤ c) (h : impl_PageOk.ixf k s0_0 s0_1 s0_2 s0_3 s0_4 a1 = some (r1, r2, r3)) :
  Calls Try.prog 49 #[.slice A s0_1.length c, .int .i64 a1] w fun e w' => e = .returned (.int .i64 r1) ∧ IsS40 w0 w' g s0_0 s0_1 s0_2 r2 r3 ∧ Below w0.heap.size w0 w' ∧ KeepBut w w' g none := by
 obtain ⟨t, ht, hq⟩ := Option.bind_eq_some_iff.mp h
 obtain ⟨rfl, rfl, rfl⟩ : t = r1 ∧ s0_3 = r2 ∧ s0_4 = r3 := by simpa using hq
 refine (slices_Index_int_int.calls k A c s0_1 a1 t w (Kd.C_below hr hB) hc ht).mono ?_
 rintro e w' ⟨rfl, ⟨n, rfl⟩⟩
 exact ⟨rfl, hI.drewN n, pw_below_drewN hB n, keep_drewN (KeepBut.refl w g none) n⟩
theorem impl_PageOk.tr (k : Nat) (g : Nat) (s0_0 : List (S50)) (s0_1 : List Int) (s0_2 : List Int) (s0_3 : Int) (s0_4 : Int) (r1 : Bool) (r2 r3 : Int) (w0 w : World) (A : Option Addr) (c : Nat) (hI : IsS40 w0 w g s0_0 s0_1 s0_2 s0_3 s0_4) (hB : Below w0.heap.size w0 w) (hr : Kd.C k50 w0 A s0_0.length s0_0) (hc : s0_0.length ≤ c) (h : impl_PageOk.trf k s0_0 s0_1 s0_2 s0_3 s0_4 = some (r1, r2, r3)) :
  Calls Try.prog 52 #[.slice A s0_0.length c] w fun e w' => e = .returned (.bool r1) ∧ IsS40 w0 w' g s0_0 s0_1 s0_2 r2 r3 ∧ Below w0.heap.size w0 w' ∧ KeepBut w w' g none := by
 obtain ⟨t, ht, hq⟩ := Option.bind_eq_some_iff.mp h
 obtain ⟨rfl, rfl, rfl⟩ : t = r1 ∧ s0_3 = r2 ∧ s0_4 = r3 := by simpa using hq
 refine (impl_TreeOk.calls k A c s0_0 t w (Kd.C_below hr hB) hc ht).mono ?_
 rintro e w' ⟨rfl, hb⟩
 exact ⟨rfl, hI.below hb, below_step hB hb, KeepBut.of_below hb g none⟩
theorem impl_Page_isTag.stays {s0_0 : List (S50)} {s0_1 s0_2 : List Int} {s0_3 s0_4 a1 : Int} {r1 : Bool} {r2 r3 : Int} (h : impl_Page_isTag.f s0_0 s0_1 s0_2 s0_3 s0_4 a1 = some (r1, r2, r3)) : s0_3 = r2 ∧ s0_4 = r3 := by
 unfold impl_Page_isTag.f at h
 obtain ⟨t, _, h⟩ := Option.bind_eq_some_iff.mp h
 repeat' split at h
 all_goals simp only [Option.some.injEq, Prod.mk.injEq, reduceCtorEq] at h
 all_goals exact ⟨h.2.1, h.2.2⟩
theorem impl_Page_isFormat.stays {s0_0 : List (S50)} {s0_1 s0_2 : List Int} {s0_3 s0_4 a1 : Int} {r1 : Bool} {r2 r3 : Int} (h : impl_Page_isFormat.f s0_0 s0_1 s0_2 s0_3 s0_4 a1 = some (r1, r2, r3)) : s0_3 = r2 ∧ s0_4 = r3 := by
 unfold impl_Page_isFormat.f at h
 obtain ⟨⟨t1, t2, t3⟩, ht, h⟩ := Option.bind_eq_some_iff.mp h
 obtain ⟨rfl, rfl⟩ := impl_Page_isTag.stays ht
 repeat' split at h
 ·obtain ⟨t, _, h⟩ := Option.bind_eq_some_iff.mp h
  simp only [Option.some.injEq, Prod.mk.injEq] at h
  exact ⟨h.2.1, h.2.2⟩
 all_goals simp only [Option.some.injEq, Prod.mk.injEq, reduceCtorEq] at h
 all_goals exact ⟨h.2.1, h.2.2⟩
mutual
def impl_PageOk.l0 : Nat → List Int → Int → Int → List (S50) → List Int → List Int → Int → Int → Option (Bool × Int × Int)
 | 0, _, _, _, _, _, _, _, _ => none
 | k + 1, x8, x9, x10, x1000, x1001, x1002, x1003, x1004 => if x10 < x9 then (if 0 ≤ x10 then (if x10 < (x8.length : Int) then ((impl_Page_isTag.f x1000 x1001 x1002 x1003 x1004 (rd x8 x10)).bind fun bt342 => (if bt342.1 = true then ((impl_PageOk.ixf k x1000 x1001 x1002 bt342.2.1 bt342.2.2 (rd x8 x10)).bind fun bt345 => (if bt345.1 = x10 then (impl_PageOk.l0 k x8 x9 (wrap64 (x10 + 1)) x1000 x1001 x1002 bt345.2.1 bt345.2.2) else (some (false, bt345.2.1, bt345.2.2)))) else (some (false, bt342.2.1, bt342.2.2)))) else (none)) else (none)) else (impl_PageOk.l1 k x1002 (x1002.length : Int) 0 x1000 x1001 x1002 x1003 x1004)
def impl_PageOk.l1 : Nat → List Int → Int → Int → List (S50) → List Int → List Int → Int → Int → Option (Bool × Int × Int)
 | 0, _, _, _, _, _, _, _, _ => none
 | k + 1, x28, x29, x30, x1000, x1001, x1002, x1003, x1004 => if x30 < x29 then (if 0 ≤ x30 then (if x30 < (x28.length : Int) then (if (rd x28 x30) = (-1) then (impl_PageOk.l1 k x28 x29 (wrap64 (x30 + 1)) x1000 x1001 x1002 x1003 x1004) else ((impl_Page_isFormat.f x1000 x1001 x1002 x1003 x1004 (rd x28 x30)).bind fun bt349 => (if bt349.1 = true then (impl_PageOk.l1 k x28 x29 (wrap64 (x30 + 1)) x1000 x1001 x1002 bt349.2.1 bt349.2.2) else (some (false, bt349.2.1, bt349.2.2))))) else (none)) else (none)) else (if (x1001.length : Int) ≤ 40 then (if (x1002.length : Int) ≤ 120 then ((impl_Page_isNamed.f x1000 x1001 x1002 x1003 x1004 x1003 (⟨#[104, 101, 97, 100]⟩ : ByteArray)).bind fun bt352 => (if bt352.1 = true then ((impl_Page_isNamed.f x1000 x1001 x1002 bt352.2.1 bt352.2.2 bt352.2.2 (⟨#[98, 111, 100, 121]⟩ : ByteArray)).bind fun bt355 => (if bt355.1 = true then ((impl_PageOk.trf k x1000 x1001 x1002 bt355.2.1 bt355.2.2).bind fun bt358 => (some (bt358.1, bt358.2.1, bt358.2.2))) else (some (false, bt355.2.1, bt355.2.2)))) else (some (false, bt352.2.1, bt352.2.2)))) else (some (false, x1003, x1004))) else (some (false, x1003, x1004)))
end
def impl_PageOk.gf (k : Nat) (s0_0 : List (S50)) (s0_1 : List Int) (s0_2 : List Int) (s0_3 : Int) (s0_4 : Int) : Option (Bool × Int × Int) := impl_PageOk.l0 k s0_1 (s0_1.length : Int) 0 s0_0 s0_1 s0_2 s0_3 s0_4
theorem impl_PageOk.mono_l : ∀ k, (∀ y0 y1 y2 y3 y4 y5 y6 y7, LeO (impl_PageOk.l0 k y0 y1 y2 y3 y4 y5 y6 y7) (impl_PageOk.l0 (k + 1) y0 y1 y2 y3 y4 y5 y6 y7)) ∧ (∀ y0 y1 y2 y3 y4 y5 y6 y7, LeO (impl_PageOk.l1 k y0 y1 y2 y3 y4 y5 y6 y7) (impl_PageOk.l1 (k + 1) y0 y1 y2 y3 y4 y5 y6 y7))
 | 0 => ⟨fun _ _ _ _ _ _ _ _ r h => by simp [impl_PageOk.l0] at h, fun _ _ _ _ _ _ _ _ r h => by simp [impl_PageOk.l1] at h⟩
 | k + 1 => by
  obtain ⟨ih0, ih1⟩ := impl_PageOk.mono_l k
  refine ⟨?_, ?_⟩
  ·intro y0 y1 y2 y3 y4 y5 y6 y7
   unfold impl_PageOk.l0
   repeat' first
   | (with_reducible exact ih0 _ _ _ _ _ _ _ _)
   | (with_reducible exact ih1 _ _ _ _ _ _ _ _)
   | (with_reducible exact impl_PageOk.ixf_mono _ _ _ _ _ _ _)
   | (with_reducible exact impl_PageOk.trf_mono _ _ _ _ _ _)
   | (with_reducible exact LeO.refl _)
   | (with_reducible exact LeO.none _)
   | (with_reducible refine LeO.ite ?_ ?_)
   | (with_reducible refine LeO.bind ?_ (fun _ => ?_))
  ·intro y0 y1 y2 y3 y4 y5 y6 y7
   unfold impl_PageOk.l1
   repeat' first
   | (with_reducible exact ih0 _ _ _ _ _ _ _ _)
   | (with_reducible exact ih1 _ _ _ _ _ _ _ _)
   | (with_reducible exact impl_PageOk.ixf_mono _ _ _ _ _ _ _)
   | (with_reducible exact impl_PageOk.trf_mono _ _ _ _ _ _)
   | (with_reducible exact LeO.refl _)
   | (with_reducible exact LeO.none _)
   | (with_reducible refine LeO.ite ?_ ?_)
   | (with_reducible refine LeO.bind ?_ (fun _ => ?_))
theorem impl_PageOk.gmono : ∀ a0 a1 a2 a3 a4 k, LeO (impl_PageOk.gf k a0 a1 a2 a3 a4) (impl_PageOk.gf (k + 1) a0 a1 a2 a3 a4) := by
 intro a0 a1 a2 a3 a4 k
 obtain ⟨ih0, ih1⟩ := impl_PageOk.mono_l k
 unfold impl_PageOk.gf
 repeat' first
   | (with_reducible exact ih0 _ _ _ _ _ _ _ _)
   | (with_reducible exact ih1 _ _ _ _ _ _ _ _)
   | (with_reducible exact impl_PageOk.ixf_mono _ _ _ _ _ _ _)
   | (with_reducible exact impl_PageOk.trf_mono _ _ _ _ _ _)
   | (with_reducible exact LeO.refl _)
   | (with_reducible exact LeO.none _)
   | (with_reducible refine LeO.ite ?_ ?_)
   | (with_reducible refine LeO.bind ?_ (fun _ => ?_))
set_option maxHeartbeats 8000000 in
set_option maxRecDepth 100000 in
theorem impl_PageOk.gcalls (k : Nat) (A0_0 : Option Addr) (c0_0 : Nat) (s0_0 : List (S50)) (A0_1 : Option Addr) (c0_1 : Nat) (s0_1 : List Int) (A0_2 : Option Addr) (c0_2 : Nat) (s0_2 : List Int) (s0_3 : Int) (s0_4 : Int) (r1 : Bool) (r2 : Int) (r3 : Int) (w0 : World) (hr0_0 : Kd.C k50 w0 A0_0 s0_0.length s0_0) (hc0_0 : s0_0.length ≤ c0_0) (hr0_1 : Kd.C (Kd.int .i64) w0 A0_1 s0_1.length s0_1) (hc0_1 : s0_1.length ≤ c0_1) (hr0_2 : Kd.C (Kd.int .i64) w0 A0_2 s0_2.length s0_2) (hc0_2 : s0_2.length ≤ c0_2) (M_ : Int) (hm_ : w0.cell? ⟨0, 0, none⟩ = some (.int .i64 M_)) (h : impl_PageOk.gf k s0_0 s0_1 s0_2 s0_3 s0_4 = some (r1, r2, r3)) :
  Calls Try.prog 33 #[.agg #[.slice A0_0 s0_0.length c0_0, .slice A0_1 s0_1.length c0_1, .slice A0_2 s0_2.length c0_2, .int .i64 s0_3, .int .i64 s0_4]] w0 fun e w' => e = .returned (.bool r1) ∧ Below w0.heap.size w0 w' := by
 have HR := Aside0.mk (And.intro hr0_0 (And.intro hc0_0 (And.intro hr0_1 (And.intro hc0_1 (And.intro hr0_2 hc0_2)))))
 have HM := Aside0.mk hm_
 clear hr0_0 hc0_0 hr0_1 hc0_1 hr0_2 hc0_2 hm_
 have H : (impl_PageOk.l0 k s0_1 (s0_1.length : Int) 0 s0_0 s0_1 s0_2 s0_3 s0_4) = some (r1, r2, r3) := h
 clear h
 have H' := Aside0.mk H
 clear H
 go_enter Try.func33, Try.ntmps33
 go_wp2_with (first | ((with_reducible refine gate_dst (N := 1) rfl ?_); refine box_event ?hg (N := 1) ?hd (cs := #[.slice A0_0 s0_0.length c0_0, .slice A0_1 s0_1.length c0_1, .slice A0_2 s0_2.length c0_2, .int .i64 s0_3, .int .i64 s0_4]) (t := 40) ?hr ?_; (case hd => rfl); (case hg => rfl); (case hr => first | (go_simp; done) | (go_simp; rfl)); intro g hg w hbox hb; have HI0 := Aside0.mk (pl_box hg hbox hb HR.out.1 HR.out.2.1 HR.out.2.2.1 HR.out.2.2.2.1 HR.out.2.2.2.2.1 HR.out.2.2.2.2.2); have HB := Aside0.mk hb; have HK := Aside0.mk (KeepBut.refl w g none); have HM_ := Aside0.mk HM.out; have HL := Aside0.mk hb.size; have HW0 := Aside0.mk hb.size; have hcz1_0 := cellS40_0 hbox; have hcz1_1 := cellS40_1 hbox; have hcz1_2 := cellS40_2 hbox; have hcz1_3 := cellS40_3 hbox; have hcz1_4 := cellS40_4 hbox; have hfz1_3 := blk_frozen hbox 3; have hfz1_4 := blk_frozen hbox 4; clear hb hbox hg; skip))
 go_loopg [10] k (fun kq v10 w' => ∃ (x10_1 : Int) (x1003_1 : Int) (x1004_1 : Int), v10 = .int .i64 x10_1 ∧ Aside0 (impl_PageOk.l0 kq s0_1 (s0_1.length : Int) x10_1 s0_0 s0_1 s0_2 x1003_1 x1004_1 = some (r1, r2, r3)) ∧ Aside0 (kq ≤ k) ∧ Aside0 (IsS40 w0 w' g s0_0 s0_1 s0_2 x1003_1 x1004_1) ∧ Aside0 (KeepBut w w' g none) ∧ Aside0 (Below w0.heap.size w0 w'))
 case atStart => exact ⟨(0), (s0_3), (s0_4), ab6, H', ⟨Nat.le_refl _⟩, ⟨by repeat (first | (with_reducible first | exact HI0.out | apply IsS40.alloc | apply IsS40.drewN | apply IsS40.drew | apply IsS40.set_3 | apply IsS40.set_4) | exact HI0.out)⟩, ⟨by repeat (first | (with_reducible first | exact HK.out | apply KeepBut.set_ | apply keep_drewN | apply keep_drew | apply keep_alloc) | exact HK.out)⟩, ⟨by repeat (first | (with_reducible first | exact HB.out | apply below_alloc | apply pw_below_drewN | apply below_drew1 | refine below_set ?_ (IsS40.ge HI0.out)) | exact HB.out)⟩⟩
 case round =>
  clear H'
  (try clear p2); (try clear hcz2_0); (try clear hcz2_1); (try clear hcz2_2); (try clear hcz2_3); (try clear hcz2_4); (try clear hfz2_3); (try clear hfz2_4)
  obtain ⟨x10_1, x1003_1, x1004_1, rfl, HA, HK1, HI0, HK, HB⟩ := hrel
  cases gk with
  | zero => exact absurd HA.out (by simp [impl_PageOk.l0])
  | succ k1 =>
   have H := HA.out
   clear HA
   simp only [impl_PageOk.l0] at H
   by_cases c3 : x10_1 < (s0_1.length : Int)
   ·rw [if_pos c3] at H
    have c3b0 := decide_eq_true c3
    clear c3
    by_cases c4 : 0 ≤ x10_1
    case neg => rw [if_neg c4] at H; exact absurd H (by simp)
    rw [if_pos c4] at H
    have c4b0 := decide_eq_true c4
    clear c4
    by_cases c5 : x10_1 < (s0_1.length : Int)
    case neg => rw [if_neg c5] at H; exact absurd H (by simp)
    rw [if_pos c5] at H
    have c5b0 := decide_eq_true c5
    clear c5
    replace H := Option.bind_eq_some_iff.mp H
    obtain ⟨⟨t342, t343, t344⟩, A60, H⟩ := H
    try dsimp only at H
    have A6 := Aside0.mk A60
    clear A60
    by_cases c7 : t342 = true
    ·subst c7
     rw [if_pos rfl] at H
     replace H := Option.bind_eq_some_iff.mp H
     obtain ⟨⟨t345, t346, t347⟩, A80, H⟩ := H
     try dsimp only at H
     have A8 := Aside0.mk A80
     clear A80
     by_cases c9 : t345 = x10_1
     ·rw [if_pos c9] at H
      have c9b0 : (t345 == x10_1) = true := beq_iff_eq.mpr c9
      have c9b1 : (t345 != x10_1) = false := bne_eq_false_iff_eq.mpr c9
      clear c9
      have H' := Aside0.mk H
      clear H
      obtain ⟨ASz10_0, cSz10_0, ASz10_1, cSz10_1, ASz10_2, cSz10_2, HGz10, hgz10, HSz10_0, HSz10_1, HSz10_2⟩ := HI0.out
      have hcz10_0 := cellS40_0 HGz10
      have hcz10_1 := cellS40_1 HGz10
      have hcz10_2 := cellS40_2 HGz10
      have hcz10_3 := cellS40_3 HGz10
      have hcz10_4 := cellS40_4 HGz10
      have hfz10_3 := blk_frozen HGz10 3
      have hfz10_4 := blk_frozen HGz10 4
      clear HGz10 hgz10
      have p341 : 0 ≤ (x10_1 : Int) := of_decide_eq_true ab4
      have q341 : x10_1 < (s0_1.length : Int) := of_decide_eq_true ab4
      obtain ⟨ad341, e341, hx341_0⟩ := Kd.at_int HR.out.2.2.1 x10_1 p341 q341
      cases e341
      replace hx341_0 := pw_cell_below HB.out hx341_0
      replace p341 := eq_true p341
      replace q341 := eq_true q341
      go_wp2_with (first | ((with_reducible refine gate_callee (f := 48) rfl ?_); refine goesL_ (some 16) rfl rfl Try.func48 (by kernel_rfl) rfl #[.pointer (some ⟨g, 0, none⟩), .int .i64 (rd s0_1 x10_1)] rfl ab5 ?_; (with_reducible refine (impl_Page_isTag.calls g s0_0 s0_1 s0_2 x1003_1 x1004_1 (rd s0_1 x10_1) true t343 t344 w0 _ ?side1 ?side2 A6.out).mono ?_); (case side1 => repeat (first | (with_reducible first | exact HI0.out | apply IsS40.alloc | apply IsS40.drewN | apply IsS40.drew | apply IsS40.set_3 | apply IsS40.set_4) | exact HI0.out)); (case side2 => repeat (first | (with_reducible first | exact HB.out | apply below_alloc | apply pw_below_drewN | apply below_drew1 | refine below_set ?_ (IsS40.ge HI0.out)) | exact HB.out)); rintro e w11 ⟨rfl, hi, hb, hk⟩; refine ⟨_, rfl, ?_⟩; have n0_ := Aside0.mk (KeepBut.trans (by repeat (first | (with_reducible first | exact HK.out | apply KeepBut.set_ | apply keep_drewN | apply keep_drew | apply keep_alloc) | exact HK.out)) hk (.inl rfl)); have n1_ := Aside0.mk (hb); have n2_ := Aside0.mk (hi); clear HK; clear HB; clear HI0; have HK := n0_; have HB := n1_; have HI0 := n2_; clear n0_ n1_ n2_; (try clear hb); (try clear hb2); (try clear hk); (try clear hi); obtain ⟨ASz12_0, cSz12_0, ASz12_1, cSz12_1, ASz12_2, cSz12_2, HGz12, hgz12, HSz12_0, HSz12_1, HSz12_2⟩ := HI0.out; have hcz12_0 := cellS40_0 HGz12; have hcz12_1 := cellS40_1 HGz12; have hcz12_2 := cellS40_2 HGz12; have hcz12_3 := cellS40_3 HGz12; have hcz12_4 := cellS40_4 HGz12; have hfz12_3 := blk_frozen HGz12 3; have hfz12_4 := blk_frozen HGz12 4; clear HGz12) | (go_at_call 49; (with_reducible refine (impl_PageOk.ix k1 g s0_0 s0_1 s0_2 t343 t344 (rd s0_1 x10_1) t345 t346 t347 w0 _ ASz12_1 cSz12_1 ?side1 ?side2 HSz12_1 hgz12.2.2.1 A8.out).mono ?_); (case side1 => repeat (first | (with_reducible first | exact HI0.out | apply IsS40.alloc | apply IsS40.drewN | apply IsS40.drew | apply IsS40.set_3 | apply IsS40.set_4) | exact HI0.out)); (case side2 => repeat (first | (with_reducible first | exact HB.out | apply below_alloc | apply pw_below_drewN | apply below_drew1 | refine below_set ?_ (IsS40.ge HI0.out)) | exact HB.out)); rintro e w13 ⟨rfl, hi, hb, hk⟩; have n0_ := Aside0.mk (KeepBut.trans (by repeat (first | (with_reducible first | exact HK.out | apply KeepBut.set_ | apply keep_drewN | apply keep_drew | apply keep_alloc) | exact HK.out)) hk (.inl rfl)); have n1_ := Aside0.mk (hb); have n2_ := Aside0.mk (hi); clear HK; clear HB; clear HI0; have HK := n0_; have HB := n1_; have HI0 := n2_; clear n0_ n1_ n2_; (try clear hb); (try clear hb2); (try clear hk); (try clear hi)))
      go_roundg k1
      case measure => have := HK1.out; omega
      case rel => exact ⟨(wrap64 (x10_1 + 1)), (t346), (t347), ab6, H', ⟨by have := HK1.out; omega⟩, ⟨by repeat (first | (with_reducible first | exact HI0.out | apply IsS40.alloc | apply IsS40.drewN | apply IsS40.drew | apply IsS40.set_3 | apply IsS40.set_4) | exact HI0.out)⟩, ⟨by repeat (first | (with_reducible first | exact HK.out | apply KeepBut.set_ | apply keep_drewN | apply keep_drew | apply keep_alloc) | exact HK.out)⟩, ⟨by repeat (first | (with_reducible first | exact HB.out | apply below_alloc | apply pw_below_drewN | apply below_drew1 | refine below_set ?_ (IsS40.ge HI0.out)) | exact HB.out)⟩⟩
     ·rw [if_neg c9] at H
      have c9b0 : (t345 == x10_1) = false := beq_eq_false_iff_ne.mpr c9
      have c9b1 : (t345 != x10_1) = true := bne_iff_ne.mpr c9
      simp only [Option.some.injEq, Prod.mk.injEq] at H
      obtain ⟨rfl, rfl, rfl⟩ := H
      obtain ⟨ASz14_0, cSz14_0, ASz14_1, cSz14_1, ASz14_2, cSz14_2, HGz14, hgz14, HSz14_0, HSz14_1, HSz14_2⟩ := HI0.out
      have hcz14_0 := cellS40_0 HGz14
      have hcz14_1 := cellS40_1 HGz14
      have hcz14_2 := cellS40_2 HGz14
      have hcz14_3 := cellS40_3 HGz14
      have hcz14_4 := cellS40_4 HGz14
      have hfz14_3 := blk_frozen HGz14 3
      have hfz14_4 := blk_frozen HGz14 4
      clear HGz14 hgz14
      have p341 : 0 ≤ (x10_1 : Int) := of_decide_eq_true ab4
      have q341 : x10_1 < (s0_1.length : Int) := of_decide_eq_true ab4
      obtain ⟨ad341, e341, hx341_0⟩ := Kd.at_int HR.out.2.2.1 x10_1 p341 q341
      cases e341
      replace hx341_0 := pw_cell_below HB.out hx341_0
      replace p341 := eq_true p341
      replace q341 := eq_true q341
      go_wp2_with (first | ((with_reducible refine gate_callee (f := 48) rfl ?_); refine goesL_ (some 16) rfl rfl Try.func48 (by kernel_rfl) rfl #[.pointer (some ⟨g, 0, none⟩), .int .i64 (rd s0_1 x10_1)] rfl ab5 ?_; (with_reducible refine (impl_Page_isTag.calls g s0_0 s0_1 s0_2 x1003_1 x1004_1 (rd s0_1 x10_1) true t343 t344 w0 _ ?side1 ?side2 A6.out).mono ?_); (case side1 => repeat (first | (with_reducible first | exact HI0.out | apply IsS40.alloc | apply IsS40.drewN | apply IsS40.drew | apply IsS40.set_3 | apply IsS40.set_4) | exact HI0.out)); (case side2 => repeat (first | (with_reducible first | exact HB.out | apply below_alloc | apply pw_below_drewN | apply below_drew1 | refine below_set ?_ (IsS40.ge HI0.out)) | exact HB.out)); rintro e w15 ⟨rfl, hi, hb, hk⟩; refine ⟨_, rfl, ?_⟩; have n0_ := Aside0.mk (KeepBut.trans (by repeat (first | (with_reducible first | exact HK.out | apply KeepBut.set_ | apply keep_drewN | apply keep_drew | apply keep_alloc) | exact HK.out)) hk (.inl rfl)); have n1_ := Aside0.mk (hb); have n2_ := Aside0.mk (hi); clear HK; clear HB; clear HI0; have HK := n0_; have HB := n1_; have HI0 := n2_; clear n0_ n1_ n2_; (try clear hb); (try clear hb2); (try clear hk); (try clear hi); obtain ⟨ASz16_0, cSz16_0, ASz16_1, cSz16_1, ASz16_2, cSz16_2, HGz16, hgz16, HSz16_0, HSz16_1, HSz16_2⟩ := HI0.out; have hcz16_0 := cellS40_0 HGz16; have hcz16_1 := cellS40_1 HGz16; have hcz16_2 := cellS40_2 HGz16; have hcz16_3 := cellS40_3 HGz16; have hcz16_4 := cellS40_4 HGz16; have hfz16_3 := blk_frozen HGz16 3; have hfz16_4 := blk_frozen HGz16 4; clear HGz16) | (go_at_call 49; (with_reducible refine (impl_PageOk.ix k1 g s0_0 s0_1 s0_2 t343 t344 (rd s0_1 x10_1) t345 t346 t347 w0 _ ASz16_1 cSz16_1 ?side1 ?side2 HSz16_1 hgz16.2.2.1 A8.out).mono ?_); (case side1 => repeat (first | (with_reducible first | exact HI0.out | apply IsS40.alloc | apply IsS40.drewN | apply IsS40.drew | apply IsS40.set_3 | apply IsS40.set_4) | exact HI0.out)); (case side2 => repeat (first | (with_reducible first | exact HB.out | apply below_alloc | apply pw_below_drewN | apply below_drew1 | refine below_set ?_ (IsS40.ge HI0.out)) | exact HB.out)); rintro e w17 ⟨rfl, hi, hb, hk⟩; have n0_ := Aside0.mk (KeepBut.trans (by repeat (first | (with_reducible first | exact HK.out | apply KeepBut.set_ | apply keep_drewN | apply keep_drew | apply keep_alloc) | exact HK.out)) hk (.inl rfl)); have n1_ := Aside0.mk (hb); have n2_ := Aside0.mk (hi); clear HK; clear HB; clear HI0; have HK := n0_; have HB := n1_; have HI0 := n2_; clear n0_ n1_ n2_; (try clear hb); (try clear hb2); (try clear hk); (try clear hi)))
      go_ret
      exact ⟨ab7, by repeat (first | (with_reducible first | exact HB.out | apply below_alloc | apply pw_below_drewN | apply below_drew1 | refine below_set ?_ (IsS40.ge HI0.out)) | exact HB.out)⟩
    ·replace c7 := Bool.eq_false_iff.mpr c7
     subst c7
     rw [if_neg (show ¬ (false = true) by decide)] at H
     simp only [Option.some.injEq, Prod.mk.injEq] at H
     obtain ⟨rfl, rfl, rfl⟩ := H
     obtain ⟨ASz18_0, cSz18_0, ASz18_1, cSz18_1, ASz18_2, cSz18_2, HGz18, hgz18, HSz18_0, HSz18_1, HSz18_2⟩ := HI0.out
     have hcz18_0 := cellS40_0 HGz18
     have hcz18_1 := cellS40_1 HGz18
     have hcz18_2 := cellS40_2 HGz18
     have hcz18_3 := cellS40_3 HGz18
     have hcz18_4 := cellS40_4 HGz18
     have hfz18_3 := blk_frozen HGz18 3
     have hfz18_4 := blk_frozen HGz18 4
     clear HGz18 hgz18
     have p341 : 0 ≤ (x10_1 : Int) := of_decide_eq_true ab4
     have q341 : x10_1 < (s0_1.length : Int) := of_decide_eq_true ab4
     obtain ⟨ad341, e341, hx341_0⟩ := Kd.at_int HR.out.2.2.1 x10_1 p341 q341
     cases e341
     replace hx341_0 := pw_cell_below HB.out hx341_0
     replace p341 := eq_true p341
     replace q341 := eq_true q341
     go_wp2_with (first | ((with_reducible refine gate_callee (f := 48) rfl ?_); refine goesL_ (some 16) rfl rfl Try.func48 (by kernel_rfl) rfl #[.pointer (some ⟨g, 0, none⟩), .int .i64 (rd s0_1 x10_1)] rfl ab5 ?_; (with_reducible refine (impl_Page_isTag.calls g s0_0 s0_1 s0_2 x1003_1 x1004_1 (rd s0_1 x10_1) false t343 t344 w0 _ ?side1 ?side2 A6.out).mono ?_); (case side1 => repeat (first | (with_reducible first | exact HI0.out | apply IsS40.alloc | apply IsS40.drewN | apply IsS40.drew | apply IsS40.set_3 | apply IsS40.set_4) | exact HI0.out)); (case side2 => repeat (first | (with_reducible first | exact HB.out | apply below_alloc | apply pw_below_drewN | apply below_drew1 | refine below_set ?_ (IsS40.ge HI0.out)) | exact HB.out)); rintro e w19 ⟨rfl, hi, hb, hk⟩; refine ⟨_, rfl, ?_⟩; have n0_ := Aside0.mk (KeepBut.trans (by repeat (first | (with_reducible first | exact HK.out | apply KeepBut.set_ | apply keep_drewN | apply keep_drew | apply keep_alloc) | exact HK.out)) hk (.inl rfl)); have n1_ := Aside0.mk (hb); have n2_ := Aside0.mk (hi); clear HK; clear HB; clear HI0; have HK := n0_; have HB := n1_; have HI0 := n2_; clear n0_ n1_ n2_; (try clear hb); (try clear hb2); (try clear hk); (try clear hi)))
     go_ret
     exact ⟨ab7, by repeat (first | (with_reducible first | exact HB.out | apply below_alloc | apply pw_below_drewN | apply below_drew1 | refine below_set ?_ (IsS40.ge HI0.out)) | exact HB.out)⟩
   ·rw [if_neg c3] at H
    have c3b0 := decide_eq_false c3
    clear c3
    have H' := Aside0.mk H
    clear H
    obtain ⟨ASz20_0, cSz20_0, ASz20_1, cSz20_1, ASz20_2, cSz20_2, HGz20, hgz20, HSz20_0, HSz20_1, HSz20_2⟩ := HI0.out
    have hcz20_0 := cellS40_0 HGz20
    have hcz20_1 := cellS40_1 HGz20
    have hcz20_2 := cellS40_2 HGz20
    have hcz20_3 := cellS40_3 HGz20
    have hcz20_4 := cellS40_4 HGz20
    have hfz20_3 := blk_frozen HGz20 3
    have hfz20_4 := blk_frozen HGz20 4
    clear HGz20 hgz20
    go_wp2
    go_loopg [30] k1 (fun kq v30 w' => ∃ (x30_2 : Int), v30 = .int .i64 x30_2 ∧ Aside0 (impl_PageOk.l1 kq s0_2 (s0_2.length : Int) x30_2 s0_0 s0_1 s0_2 x1003_1 x1004_1 = some (r1, r2, r3)) ∧ Aside0 (kq ≤ k1) ∧ Aside0 (IsS40 w0 w' g s0_0 s0_1 s0_2 x1003_1 x1004_1) ∧ Aside0 (KeepBut w w' g none) ∧ Aside0 (Below w0.heap.size w0 w'))
    case atStart => exact ⟨(0), ab6, H', ⟨Nat.le_refl _⟩, ⟨by repeat (first | (with_reducible first | exact HI0.out | apply IsS40.alloc | apply IsS40.drewN | apply IsS40.drew | apply IsS40.set_3 | apply IsS40.set_4) | exact HI0.out)⟩, ⟨by repeat (first | (with_reducible first | exact HK.out | apply KeepBut.set_ | apply keep_drewN | apply keep_drew | apply keep_alloc) | exact HK.out)⟩, ⟨by repeat (first | (with_reducible first | exact HB.out | apply below_alloc | apply pw_below_drewN | apply below_drew1 | refine below_set ?_ (IsS40.ge HI0.out)) | exact HB.out)⟩⟩
    case round =>
     clear H'
     (try clear p2); (try clear c3); (try clear c3b0); (try clear p3); (try clear q3); (try clear hx3); (try clear c4); (try clear c4b0); (try clear c5); (try clear c5b0); (try clear p6); (try clear c7); (try clear c9); (try clear c9b0); (try clear c9b1); (try clear hcz10_0); (try clear hcz10_1); (try clear hcz10_2); (try clear hcz10_3); (try clear hcz10_4); (try clear hcz12_0); (try clear hcz12_1); (try clear hcz12_2); (try clear hcz12_3); (try clear hcz12_4); (try clear hcz14_0); (try clear hcz14_1); (try clear hcz14_2); (try clear hcz14_3); (try clear hcz14_4); (try clear hcz16_0); (try clear hcz16_1); (try clear hcz16_2); (try clear hcz16_3); (try clear hcz16_4); (try clear hcz18_0); (try clear hcz18_1); (try clear hcz18_2); (try clear hcz18_3); (try clear hcz18_4); (try clear hcz20_0); (try clear hcz20_1); (try clear hcz20_2); (try clear hcz20_3); (try clear hcz20_4); (try clear hcz2_0); (try clear hcz2_1); (try clear hcz2_2); (try clear hcz2_3); (try clear hcz2_4); (try clear hfz10_3); (try clear hfz10_4); (try clear hfz12_3); (try clear hfz12_4); (try clear hfz14_3); (try clear hfz14_4); (try clear hfz16_3); (try clear hfz16_4); (try clear hfz18_3); (try clear hfz18_4); (try clear hfz20_3); (try clear hfz20_4); (try clear hfz2_3); (try clear hfz2_4); (try clear hx341_0); (try clear p2); (try clear p341); (try clear q341)
     obtain ⟨x30_2, rfl, HA, HK2, HI0, HK, HB⟩ := hrel
     cases gk with
     | zero => exact absurd HA.out (by simp [impl_PageOk.l1])
     | succ k2 =>
      have H := HA.out
      clear HA
      simp only [impl_PageOk.l1] at H
      by_cases c21 : x30_2 < (s0_2.length : Int)
      ·rw [if_pos c21] at H
       have c21b0 := decide_eq_true c21
       clear c21
       by_cases c22 : 0 ≤ x30_2
       case neg => rw [if_neg c22] at H; exact absurd H (by simp)
       rw [if_pos c22] at H
       have c22b0 := decide_eq_true c22
       clear c22
       by_cases c23 : x30_2 < (s0_2.length : Int)
       case neg => rw [if_neg c23] at H; exact absurd H (by simp)
       rw [if_pos c23] at H
       have c23b0 := decide_eq_true c23
       clear c23
       by_cases c24 : (rd s0_2 x30_2) = (-1)
       ·rw [if_pos c24] at H
        have c24b0 : ((rd s0_2 x30_2) == (-1)) = true := beq_iff_eq.mpr c24
        have c24b1 : ((rd s0_2 x30_2) != (-1)) = false := bne_eq_false_iff_eq.mpr c24
        clear c24
        have H' := Aside0.mk H
        clear H
        obtain ⟨ASz25_0, cSz25_0, ASz25_1, cSz25_1, ASz25_2, cSz25_2, HGz25, hgz25, HSz25_0, HSz25_1, HSz25_2⟩ := HI0.out
        have hcz25_0 := cellS40_0 HGz25
        have hcz25_1 := cellS40_1 HGz25
        have hcz25_2 := cellS40_2 HGz25
        have hcz25_3 := cellS40_3 HGz25
        have hcz25_4 := cellS40_4 HGz25
        have hfz25_3 := blk_frozen HGz25 3
        have hfz25_4 := blk_frozen HGz25 4
        clear HGz25 hgz25
        have p348 : 0 ≤ (x30_2 : Int) := of_decide_eq_true ab4
        have q348 : x30_2 < (s0_2.length : Int) := of_decide_eq_true ab4
        obtain ⟨ad348, e348, hx348_0⟩ := Kd.at_int HSz20_2 x30_2 p348 q348
        cases e348
        replace hx348_0 := pw_cell_below HB.out hx348_0
        replace p348 := eq_true p348
        replace q348 := eq_true q348
        go_wp2
        go_roundg k2
        case measure => have := HK1.out; have := HK2.out; omega
        case rel => exact ⟨(wrap64 (x30_2 + 1)), ab6, H', ⟨by have := HK1.out; have := HK2.out; omega⟩, ⟨by repeat (first | (with_reducible first | exact HI0.out | apply IsS40.alloc | apply IsS40.drewN | apply IsS40.drew | apply IsS40.set_3 | apply IsS40.set_4) | exact HI0.out)⟩, ⟨by repeat (first | (with_reducible first | exact HK.out | apply KeepBut.set_ | apply keep_drewN | apply keep_drew | apply keep_alloc) | exact HK.out)⟩, ⟨by repeat (first | (with_reducible first | exact HB.out | apply below_alloc | apply pw_below_drewN | apply below_drew1 | refine below_set ?_ (IsS40.ge HI0.out)) | exact HB.out)⟩⟩
       ·rw [if_neg c24] at H
        have c24b0 : ((rd s0_2 x30_2) == (-1)) = false := beq_eq_false_iff_ne.mpr c24
        have c24b1 : ((rd s0_2 x30_2) != (-1)) = true := bne_iff_ne.mpr c24
        replace H := Option.bind_eq_some_iff.mp H
        obtain ⟨⟨t349, t350, t351⟩, A260, H⟩ := H
        obtain ⟨rfl, rfl⟩ := impl_Page_isFormat.stays A260
        try dsimp only at H
        have A26 := Aside0.mk A260
        clear A260
        by_cases c27 : t349 = true
        ·subst c27
         rw [if_pos rfl] at H
         have H' := Aside0.mk H
         clear H
         obtain ⟨ASz28_0, cSz28_0, ASz28_1, cSz28_1, ASz28_2, cSz28_2, HGz28, hgz28, HSz28_0, HSz28_1, HSz28_2⟩ := HI0.out
         have hcz28_0 := cellS40_0 HGz28
         have hcz28_1 := cellS40_1 HGz28
         have hcz28_2 := cellS40_2 HGz28
         have hcz28_3 := cellS40_3 HGz28
         have hcz28_4 := cellS40_4 HGz28
         have hfz28_3 := blk_frozen HGz28 3
         have hfz28_4 := blk_frozen HGz28 4
         clear HGz28 hgz28
         have p348 : 0 ≤ (x30_2 : Int) := of_decide_eq_true ab4
         have q348 : x30_2 < (s0_2.length : Int) := of_decide_eq_true ab4
         obtain ⟨ad348, e348, hx348_0⟩ := Kd.at_int HSz20_2 x30_2 p348 q348
         cases e348
         replace hx348_0 := pw_cell_below HB.out hx348_0
         replace p348 := eq_true p348
         replace q348 := eq_true q348
         go_wp2_with (first | (go_at_call 50; (with_reducible refine (impl_Page_isFormat.calls g s0_0 s0_1 s0_2 x1003_1 x1004_1 (rd s0_2 x30_2) true x1003_1 x1004_1 w0 _ ?side1 ?side2 M_ ?side3 A26.out).mono ?_); (case side1 => repeat (first | (with_reducible first | exact HI0.out | apply IsS40.alloc | apply IsS40.drewN | apply IsS40.drew | apply IsS40.set_3 | apply IsS40.set_4) | exact HI0.out)); (case side2 => repeat (first | (with_reducible first | exact HB.out | apply below_alloc | apply pw_below_drewN | apply below_drew1 | refine below_set ?_ (IsS40.ge HI0.out)) | exact HB.out)); (case side3 => exact HM_.out); rintro e w29 ⟨rfl, hi, hb, hk⟩; have n0_ := Aside0.mk (KeepBut.trans (by repeat (first | (with_reducible first | exact HK.out | apply KeepBut.set_ | apply keep_drewN | apply keep_drew | apply keep_alloc) | exact HK.out)) hk (.inl rfl)); have n1_ := Aside0.mk (hb); have n2_ := Aside0.mk (hi); clear HK; clear HB; clear HI0; have HK := n0_; have HB := n1_; have HI0 := n2_; clear n0_ n1_ n2_; (try clear hb); (try clear hb2); (try clear hk); (try clear hi)))
         go_roundg k2
         case measure => have := HK1.out; have := HK2.out; omega
         case rel => exact ⟨(wrap64 (x30_2 + 1)), ab6, H', ⟨by have := HK1.out; have := HK2.out; omega⟩, ⟨by repeat (first | (with_reducible first | exact HI0.out | apply IsS40.alloc | apply IsS40.drewN | apply IsS40.drew | apply IsS40.set_3 | apply IsS40.set_4) | exact HI0.out)⟩, ⟨by repeat (first | (with_reducible first | exact HK.out | apply KeepBut.set_ | apply keep_drewN | apply keep_drew | apply keep_alloc) | exact HK.out)⟩, ⟨by repeat (first | (with_reducible first | exact HB.out | apply below_alloc | apply pw_below_drewN | apply below_drew1 | refine below_set ?_ (IsS40.ge HI0.out)) | exact HB.out)⟩⟩
        ·replace c27 := Bool.eq_false_iff.mpr c27
         subst c27
         rw [if_neg (show ¬ (false = true) by decide)] at H
         simp only [Option.some.injEq, Prod.mk.injEq] at H
         obtain ⟨rfl, rfl, rfl⟩ := H
         obtain ⟨ASz30_0, cSz30_0, ASz30_1, cSz30_1, ASz30_2, cSz30_2, HGz30, hgz30, HSz30_0, HSz30_1, HSz30_2⟩ := HI0.out
         have hcz30_0 := cellS40_0 HGz30
         have hcz30_1 := cellS40_1 HGz30
         have hcz30_2 := cellS40_2 HGz30
         have hcz30_3 := cellS40_3 HGz30
         have hcz30_4 := cellS40_4 HGz30
         have hfz30_3 := blk_frozen HGz30 3
         have hfz30_4 := blk_frozen HGz30 4
         clear HGz30 hgz30
         have p348 : 0 ≤ (x30_2 : Int) := of_decide_eq_true ab4
         have q348 : x30_2 < (s0_2.length : Int) := of_decide_eq_true ab4
         obtain ⟨ad348, e348, hx348_0⟩ := Kd.at_int HSz20_2 x30_2 p348 q348
         cases e348
         replace hx348_0 := pw_cell_below HB.out hx348_0
         replace p348 := eq_true p348
         replace q348 := eq_true q348
         go_wp2_with (first | (go_at_call 50; (with_reducible refine (impl_Page_isFormat.calls g s0_0 s0_1 s0_2 x1003_1 x1004_1 (rd s0_2 x30_2) false x1003_1 x1004_1 w0 _ ?side1 ?side2 M_ ?side3 A26.out).mono ?_); (case side1 => repeat (first | (with_reducible first | exact HI0.out | apply IsS40.alloc | apply IsS40.drewN | apply IsS40.drew | apply IsS40.set_3 | apply IsS40.set_4) | exact HI0.out)); (case side2 => repeat (first | (with_reducible first | exact HB.out | apply below_alloc | apply pw_below_drewN | apply below_drew1 | refine below_set ?_ (IsS40.ge HI0.out)) | exact HB.out)); (case side3 => exact HM_.out); rintro e w31 ⟨rfl, hi, hb, hk⟩; have n0_ := Aside0.mk (KeepBut.trans (by repeat (first | (with_reducible first | exact HK.out | apply KeepBut.set_ | apply keep_drewN | apply keep_drew | apply keep_alloc) | exact HK.out)) hk (.inl rfl)); have n1_ := Aside0.mk (hb); have n2_ := Aside0.mk (hi); clear HK; clear HB; clear HI0; have HK := n0_; have HB := n1_; have HI0 := n2_; clear n0_ n1_ n2_; (try clear hb); (try clear hb2); (try clear hk); (try clear hi)))
         go_ret
         exact ⟨ab7, by repeat (first | (with_reducible first | exact HB.out | apply below_alloc | apply pw_below_drewN | apply below_drew1 | refine below_set ?_ (IsS40.ge HI0.out)) | exact HB.out)⟩
      ·rw [if_neg c21] at H
       have c21b0 := decide_eq_false c21
       clear c21
       by_cases c32 : (s0_1.length : Int) ≤ 40
       ·rw [if_pos c32] at H
        have c32b0 := decide_eq_true c32
        have c32b1 : decide (s0_1.length ≤ 40) = true := decide_eq_true (by omega)
        clear c32
        by_cases c33 : (s0_2.length : Int) ≤ 120
        ·rw [if_pos c33] at H
         have c33b0 := decide_eq_true c33
         have c33b1 : decide (s0_2.length ≤ 120) = true := decide_eq_true (by omega)
         clear c33
         replace H := Option.bind_eq_some_iff.mp H
         obtain ⟨⟨t352, t353, t354⟩, A340, H⟩ := H
         try dsimp only at H
         have A34 := Aside0.mk A340
         clear A340
         by_cases c35 : t352 = true
         ·subst c35
          rw [if_pos rfl] at H
          replace H := Option.bind_eq_some_iff.mp H
          obtain ⟨⟨t355, t356, t357⟩, A360, H⟩ := H
          try dsimp only at H
          have A36 := Aside0.mk A360
          clear A360
          by_cases c37 : t355 = true
          ·subst c37
           rw [if_pos rfl] at H
           replace H := Option.bind_eq_some_iff.mp H
           obtain ⟨⟨t358, t359, t360⟩, A380, H⟩ := H
           try dsimp only at H
           have A38 := Aside0.mk A380
           clear A380
           simp only [Option.some.injEq, Prod.mk.injEq] at H
           obtain ⟨rfl, rfl, rfl⟩ := H
           obtain ⟨ASz39_0, cSz39_0, ASz39_1, cSz39_1, ASz39_2, cSz39_2, HGz39, hgz39, HSz39_0, HSz39_1, HSz39_2⟩ := HI0.out
           have hcz39_0 := cellS40_0 HGz39
           have hcz39_1 := cellS40_1 HGz39
           have hcz39_2 := cellS40_2 HGz39
           have hcz39_3 := cellS40_3 HGz39
           have hcz39_4 := cellS40_4 HGz39
           have hfz39_3 := blk_frozen HGz39 3
           have hfz39_4 := blk_frozen HGz39 4
           clear HGz39 hgz39
           go_wp2_with (first | (go_at_call 51; (with_reducible refine (impl_Page_isNamed.calls g s0_0 s0_1 s0_2 x1003_1 x1004_1 x1003_1 (⟨#[104, 101, 97, 100]⟩ : ByteArray) true t353 t354 w0 _ ?side1 ?side2 A34.out).mono ?_); (case side1 => repeat (first | (with_reducible first | exact HI0.out | apply IsS40.alloc | apply IsS40.drewN | apply IsS40.drew | apply IsS40.set_3 | apply IsS40.set_4) | exact HI0.out)); (case side2 => repeat (first | (with_reducible first | exact HB.out | apply below_alloc | apply pw_below_drewN | apply below_drew1 | refine below_set ?_ (IsS40.ge HI0.out)) | exact HB.out)); rintro e w40 ⟨rfl, hi, hb, hk⟩; have n0_ := Aside0.mk (KeepBut.trans (by repeat (first | (with_reducible first | exact HK.out | apply KeepBut.set_ | apply keep_drewN | apply keep_drew | apply keep_alloc) | exact HK.out)) hk (.inl rfl)); have n1_ := Aside0.mk (hb); have n2_ := Aside0.mk (hi); clear HK; clear HB; clear HI0; have HK := n0_; have HB := n1_; have HI0 := n2_; clear n0_ n1_ n2_; (try clear hb); (try clear hb2); (try clear hk); (try clear hi); obtain ⟨ASz41_0, cSz41_0, ASz41_1, cSz41_1, ASz41_2, cSz41_2, HGz41, hgz41, HSz41_0, HSz41_1, HSz41_2⟩ := HI0.out; have hcz41_0 := cellS40_0 HGz41; have hcz41_1 := cellS40_1 HGz41; have hcz41_2 := cellS40_2 HGz41; have hcz41_3 := cellS40_3 HGz41; have hcz41_4 := cellS40_4 HGz41; have hfz41_3 := blk_frozen HGz41 3; have hfz41_4 := blk_frozen HGz41 4; clear HGz41 hgz41) | (go_at_call 51; (with_reducible refine (impl_Page_isNamed.calls g s0_0 s0_1 s0_2 t353 t354 t354 (⟨#[98, 111, 100, 121]⟩ : ByteArray) true t356 t357 w0 _ ?side1 ?side2 A36.out).mono ?_); (case side1 => repeat (first | (with_reducible first | exact HI0.out | apply IsS40.alloc | apply IsS40.drewN | apply IsS40.drew | apply IsS40.set_3 | apply IsS40.set_4) | exact HI0.out)); (case side2 => repeat (first | (with_reducible first | exact HB.out | apply below_alloc | apply pw_below_drewN | apply below_drew1 | refine below_set ?_ (IsS40.ge HI0.out)) | exact HB.out)); rintro e w42 ⟨rfl, hi, hb, hk⟩; have n0_ := Aside0.mk (KeepBut.trans (by repeat (first | (with_reducible first | exact HK.out | apply KeepBut.set_ | apply keep_drewN | apply keep_drew | apply keep_alloc) | exact HK.out)) hk (.inl rfl)); have n1_ := Aside0.mk (hb); have n2_ := Aside0.mk (hi); clear HK; clear HB; clear HI0; have HK := n0_; have HB := n1_; have HI0 := n2_; clear n0_ n1_ n2_; (try clear hb); (try clear hb2); (try clear hk); (try clear hi); obtain ⟨ASz43_0, cSz43_0, ASz43_1, cSz43_1, ASz43_2, cSz43_2, HGz43, hgz43, HSz43_0, HSz43_1, HSz43_2⟩ := HI0.out; have hcz43_0 := cellS40_0 HGz43; have hcz43_1 := cellS40_1 HGz43; have hcz43_2 := cellS40_2 HGz43; have hcz43_3 := cellS40_3 HGz43; have hcz43_4 := cellS40_4 HGz43; have hfz43_3 := blk_frozen HGz43 3; have hfz43_4 := blk_frozen HGz43 4; clear HGz43) | (go_at_call 52; (with_reducible refine (impl_PageOk.tr k2 g s0_0 s0_1 s0_2 t356 t357 t358 t359 t360 w0 _ ASz43_0 cSz43_0 ?side1 ?side2 HSz43_0 hgz43.2.1 A38.out).mono ?_); (case side1 => repeat (first | (with_reducible first | exact HI0.out | apply IsS40.alloc | apply IsS40.drewN | apply IsS40.drew | apply IsS40.set_3 | apply IsS40.set_4) | exact HI0.out)); (case side2 => repeat (first | (with_reducible first | exact HB.out | apply below_alloc | apply pw_below_drewN | apply below_drew1 | refine below_set ?_ (IsS40.ge HI0.out)) | exact HB.out)); rintro e w44 ⟨rfl, hi, hb, hk⟩; have n0_ := Aside0.mk (KeepBut.trans (by repeat (first | (with_reducible first | exact HK.out | apply KeepBut.set_ | apply keep_drewN | apply keep_drew | apply keep_alloc) | exact HK.out)) hk (.inl rfl)); have n1_ := Aside0.mk (hb); have n2_ := Aside0.mk (hi); clear HK; clear HB; clear HI0; have HK := n0_; have HB := n1_; have HI0 := n2_; clear n0_ n1_ n2_; (try clear hb); (try clear hb2); (try clear hk); (try clear hi)))
           go_ret
           exact ⟨ab7, by repeat (first | (with_reducible first | exact HB.out | apply below_alloc | apply pw_below_drewN | apply below_drew1 | refine below_set ?_ (IsS40.ge HI0.out)) | exact HB.out)⟩
          ·replace c37 := Bool.eq_false_iff.mpr c37
           subst c37
           rw [if_neg (show ¬ (false = true) by decide)] at H
           simp only [Option.some.injEq, Prod.mk.injEq] at H
           obtain ⟨rfl, rfl, rfl⟩ := H
           obtain ⟨ASz45_0, cSz45_0, ASz45_1, cSz45_1, ASz45_2, cSz45_2, HGz45, hgz45, HSz45_0, HSz45_1, HSz45_2⟩ := HI0.out
           have hcz45_0 := cellS40_0 HGz45
           have hcz45_1 := cellS40_1 HGz45
           have hcz45_2 := cellS40_2 HGz45
           have hcz45_3 := cellS40_3 HGz45
           have hcz45_4 := cellS40_4 HGz45
           have hfz45_3 := blk_frozen HGz45 3
           have hfz45_4 := blk_frozen HGz45 4
           clear HGz45 hgz45
           go_wp2_with (first | (go_at_call 51; (with_reducible refine (impl_Page_isNamed.calls g s0_0 s0_1 s0_2 x1003_1 x1004_1 x1003_1 (⟨#[104, 101, 97, 100]⟩ : ByteArray) true t353 t354 w0 _ ?side1 ?side2 A34.out).mono ?_); (case side1 => repeat (first | (with_reducible first | exact HI0.out | apply IsS40.alloc | apply IsS40.drewN | apply IsS40.drew | apply IsS40.set_3 | apply IsS40.set_4) | exact HI0.out)); (case side2 => repeat (first | (with_reducible first | exact HB.out | apply below_alloc | apply pw_below_drewN | apply below_drew1 | refine below_set ?_ (IsS40.ge HI0.out)) | exact HB.out)); rintro e w46 ⟨rfl, hi, hb, hk⟩; have n0_ := Aside0.mk (KeepBut.trans (by repeat (first | (with_reducible first | exact HK.out | apply KeepBut.set_ | apply keep_drewN | apply keep_drew | apply keep_alloc) | exact HK.out)) hk (.inl rfl)); have n1_ := Aside0.mk (hb); have n2_ := Aside0.mk (hi); clear HK; clear HB; clear HI0; have HK := n0_; have HB := n1_; have HI0 := n2_; clear n0_ n1_ n2_; (try clear hb); (try clear hb2); (try clear hk); (try clear hi); obtain ⟨ASz47_0, cSz47_0, ASz47_1, cSz47_1, ASz47_2, cSz47_2, HGz47, hgz47, HSz47_0, HSz47_1, HSz47_2⟩ := HI0.out; have hcz47_0 := cellS40_0 HGz47; have hcz47_1 := cellS40_1 HGz47; have hcz47_2 := cellS40_2 HGz47; have hcz47_3 := cellS40_3 HGz47; have hcz47_4 := cellS40_4 HGz47; have hfz47_3 := blk_frozen HGz47 3; have hfz47_4 := blk_frozen HGz47 4; clear HGz47 hgz47) | (go_at_call 51; (with_reducible refine (impl_Page_isNamed.calls g s0_0 s0_1 s0_2 t353 t354 t354 (⟨#[98, 111, 100, 121]⟩ : ByteArray) false t356 t357 w0 _ ?side1 ?side2 A36.out).mono ?_); (case side1 => repeat (first | (with_reducible first | exact HI0.out | apply IsS40.alloc | apply IsS40.drewN | apply IsS40.drew | apply IsS40.set_3 | apply IsS40.set_4) | exact HI0.out)); (case side2 => repeat (first | (with_reducible first | exact HB.out | apply below_alloc | apply pw_below_drewN | apply below_drew1 | refine below_set ?_ (IsS40.ge HI0.out)) | exact HB.out)); rintro e w48 ⟨rfl, hi, hb, hk⟩; have n0_ := Aside0.mk (KeepBut.trans (by repeat (first | (with_reducible first | exact HK.out | apply KeepBut.set_ | apply keep_drewN | apply keep_drew | apply keep_alloc) | exact HK.out)) hk (.inl rfl)); have n1_ := Aside0.mk (hb); have n2_ := Aside0.mk (hi); clear HK; clear HB; clear HI0; have HK := n0_; have HB := n1_; have HI0 := n2_; clear n0_ n1_ n2_; (try clear hb); (try clear hb2); (try clear hk); (try clear hi)))
           go_ret
           exact ⟨ab7, by repeat (first | (with_reducible first | exact HB.out | apply below_alloc | apply pw_below_drewN | apply below_drew1 | refine below_set ?_ (IsS40.ge HI0.out)) | exact HB.out)⟩
         ·replace c35 := Bool.eq_false_iff.mpr c35
          subst c35
          rw [if_neg (show ¬ (false = true) by decide)] at H
          simp only [Option.some.injEq, Prod.mk.injEq] at H
          obtain ⟨rfl, rfl, rfl⟩ := H
          obtain ⟨ASz49_0, cSz49_0, ASz49_1, cSz49_1, ASz49_2, cSz49_2, HGz49, hgz49, HSz49_0, HSz49_1, HSz49_2⟩ := HI0.out
          have hcz49_0 := cellS40_0 HGz49
          have hcz49_1 := cellS40_1 HGz49
          have hcz49_2 := cellS40_2 HGz49
          have hcz49_3 := cellS40_3 HGz49
          have hcz49_4 := cellS40_4 HGz49
          have hfz49_3 := blk_frozen HGz49 3
          have hfz49_4 := blk_frozen HGz49 4
          clear HGz49 hgz49
          go_wp2_with (first | (go_at_call 51; (with_reducible refine (impl_Page_isNamed.calls g s0_0 s0_1 s0_2 x1003_1 x1004_1 x1003_1 (⟨#[104, 101, 97, 100]⟩ : ByteArray) false t353 t354 w0 _ ?side1 ?side2 A34.out).mono ?_); (case side1 => repeat (first | (with_reducible first | exact HI0.out | apply IsS40.alloc | apply IsS40.drewN | apply IsS40.drew | apply IsS40.set_3 | apply IsS40.set_4) | exact HI0.out)); (case side2 => repeat (first | (with_reducible first | exact HB.out | apply below_alloc | apply pw_below_drewN | apply below_drew1 | refine below_set ?_ (IsS40.ge HI0.out)) | exact HB.out)); rintro e w50 ⟨rfl, hi, hb, hk⟩; have n0_ := Aside0.mk (KeepBut.trans (by repeat (first | (with_reducible first | exact HK.out | apply KeepBut.set_ | apply keep_drewN | apply keep_drew | apply keep_alloc) | exact HK.out)) hk (.inl rfl)); have n1_ := Aside0.mk (hb); have n2_ := Aside0.mk (hi); clear HK; clear HB; clear HI0; have HK := n0_; have HB := n1_; have HI0 := n2_; clear n0_ n1_ n2_; (try clear hb); (try clear hb2); (try clear hk); (try clear hi)))
          go_ret
          exact ⟨ab7, by repeat (first | (with_reducible first | exact HB.out | apply below_alloc | apply pw_below_drewN | apply below_drew1 | refine below_set ?_ (IsS40.ge HI0.out)) | exact HB.out)⟩
        ·rw [if_neg c33] at H
         have c33b0 := decide_eq_false c33
         have c33b1 : decide (s0_2.length ≤ 120) = false := decide_eq_false (by omega)
         clear c33
         simp only [Option.some.injEq, Prod.mk.injEq] at H
         obtain ⟨rfl, rfl, rfl⟩ := H
         obtain ⟨ASz51_0, cSz51_0, ASz51_1, cSz51_1, ASz51_2, cSz51_2, HGz51, hgz51, HSz51_0, HSz51_1, HSz51_2⟩ := HI0.out
         have hcz51_0 := cellS40_0 HGz51
         have hcz51_1 := cellS40_1 HGz51
         have hcz51_2 := cellS40_2 HGz51
         have hcz51_3 := cellS40_3 HGz51
         have hcz51_4 := cellS40_4 HGz51
         have hfz51_3 := blk_frozen HGz51 3
         have hfz51_4 := blk_frozen HGz51 4
         clear HGz51 hgz51
         go_wp2
         go_ret
         exact ⟨ab7, by repeat (first | (with_reducible first | exact HB.out | apply below_alloc | apply pw_below_drewN | apply below_drew1 | refine below_set ?_ (IsS40.ge HI0.out)) | exact HB.out)⟩
       ·rw [if_neg c32] at H
        have c32b0 := decide_eq_false c32
        have c32b1 : decide (s0_1.length ≤ 40) = false := decide_eq_false (by omega)
        clear c32
        simp only [Option.some.injEq, Prod.mk.injEq] at H
        obtain ⟨rfl, rfl, rfl⟩ := H
        obtain ⟨ASz52_0, cSz52_0, ASz52_1, cSz52_1, ASz52_2, cSz52_2, HGz52, hgz52, HSz52_0, HSz52_1, HSz52_2⟩ := HI0.out
        have hcz52_0 := cellS40_0 HGz52
        have hcz52_1 := cellS40_1 HGz52
        have hcz52_2 := cellS40_2 HGz52
        have hcz52_3 := cellS40_3 HGz52
        have hcz52_4 := cellS40_4 HGz52
        have hfz52_3 := blk_frozen HGz52 3
        have hfz52_4 := blk_frozen HGz52 4
        clear HGz52 hgz52
        go_wp2
        go_ret
        exact ⟨ab7, by repeat (first | (with_reducible first | exact HB.out | apply below_alloc | apply pw_below_drewN | apply below_drew1 | refine below_set ?_ (IsS40.ge HI0.out)) | exact HB.out)⟩
def impl_PageOk.f (k : Nat) (s0_0 : List (S50)) (s0_1 : List Int) (s0_2 : List Int) (s0_3 : Int) (s0_4 : Int) : Option Bool := (impl_PageOk.gf k s0_0 s0_1 s0_2 s0_3 s0_4).bind fun t => some t.1
theorem impl_PageOk.mono : ∀ a0 a1 a2 a3 a4 k, LeO (impl_PageOk.f k a0 a1 a2 a3 a4) (impl_PageOk.f (k + 1) a0 a1 a2 a3 a4) := fun _ _ _ _ _ _ => LeO.bind (impl_PageOk.gmono _ _ _ _ _ _) (fun _ => LeO.refl _)
theorem impl_PageOk.calls (k : Nat) (A0_0 : Option Addr) (c0_0 : Nat) (s0_0 : List (S50)) (A0_1 : Option Addr) (c0_1 : Nat) (s0_1 : List Int) (A0_2 : Option Addr) (c0_2 : Nat) (s0_2 : List Int) (s0_3 : Int) (s0_4 : Int) (r : Bool) (w0 : World) (hr0_0 : Kd.C k50 w0 A0_0 s0_0.length s0_0) (hc0_0 : s0_0.length ≤ c0_0) (hr0_1 : Kd.C (Kd.int .i64) w0 A0_1 s0_1.length s0_1) (hc0_1 : s0_1.length ≤ c0_1) (hr0_2 : Kd.C (Kd.int .i64) w0 A0_2 s0_2.length s0_2) (hc0_2 : s0_2.length ≤ c0_2) (M_ : Int) (hm_ : w0.cell? ⟨0, 0, none⟩ = some (.int .i64 M_)) (h : impl_PageOk.f k s0_0 s0_1 s0_2 s0_3 s0_4 = some r) :
  Calls Try.prog 33 #[.agg #[.slice A0_0 s0_0.length c0_0, .slice A0_1 s0_1.length c0_1, .slice A0_2 s0_2.length c0_2, .int .i64 s0_3, .int .i64 s0_4]] w0 fun e w' => e = .returned (.bool r) ∧ Below w0.heap.size w0 w' := by
 obtain ⟨⟨t1, t2, t3⟩, ht, hq⟩ := Option.bind_eq_some_iff.mp h
 obtain rfl : t1 = r := by simpa using hq
 exact impl_PageOk.gcalls k A0_0 c0_0 s0_0 A0_1 c0_1 s0_1 A0_2 c0_2 s0_2 s0_3 s0_4 t1 t2 t3 w0 hr0_0 hc0_0 hr0_1 hc0_1 hr0_2 hc0_2 M_ hm_ ht
def impl_Page_openAt (name : ByteArray) (s0_0 : List (S50)) (s0_1 : List Int) (s0_2 : List Int) (s0_3 : Int) (s0_4 : Int) : Nat → Option Int
 | 0 => some (-1)
 | j + 1 => (impl_Page_nameOf.f s0_0 s0_1 s0_2 s0_3 s0_4 (j : Int)).bind fun t => if t.1.toList == name.toList then some (j : Int) else impl_Page_openAt name s0_0 s0_1 s0_2 s0_3 s0_4 j
theorem impl_Page_nameOf.stays {s0_0 : List (S50)} {s0_1 : List Int} {s0_2 : List Int} {s0_3 : Int} {s0_4 : Int} {a1 : Int} {r1 : ByteArray} {r2 r3 : Int} (h : impl_Page_nameOf.f s0_0 s0_1 s0_2 s0_3 s0_4 a1 = some (r1, r2, r3)) : r2 = s0_3 ∧ r3 = s0_4 := by
 unfold impl_Page_nameOf.f at h
 split at h
 ·split at h
  ·obtain ⟨t, _, h⟩ := Option.bind_eq_some_iff.mp h
   repeat' split at h
   all_goals simp only [Option.some.injEq, Prod.mk.injEq, reduceCtorEq] at h
   all_goals exact ⟨h.2.1.symm, h.2.2.symm⟩
  ·exact absurd h (by simp)
 ·exact absurd h (by simp)
def impl_Page_tableOpen.f (s0_0 : List (S50)) (s0_1 : List Int) (s0_2 : List Int) (s0_3 : Int) (s0_4 : Int) : Option (Int × Int × Int) := (impl_Page_openAt (⟨#[116, 97, 98, 108, 101]⟩ : ByteArray) s0_0 s0_1 s0_2 s0_3 s0_4 s0_1.length).bind fun t => some (t, s0_3, s0_4)
set_option maxHeartbeats 4000000 in
set_option maxRecDepth 100000 in
theorem lit_isName (n name : ByteArray) (b : Nat) (q : Bool) (w : World) (hq : (n.toList == name.toList) = q) (hc : w.cell? ⟨b, 0, none⟩ = some (.string name)) :
  Calls Try.prog 99 #[.string n, .pointer (some ⟨b, 0, none⟩)] w fun e w' => e = .returned (.bool q) ∧ Below w.heap.size w w' := by
 subst hq
 have HB := Aside0.mk (Below.refl w.heap.size w)
 go_enter Try.func99, Try.ntmps99
 go_wp2
 go_ret
 exact ⟨rfl, ab1⟩
set_option maxHeartbeats 4000000 in
set_option maxRecDepth 100000 in
theorem impl_isName.calls (name : ByteArray) (w : World) :
  Calls Try.prog 87 #[.string name] w fun e w' => ∃ b, e = .returned (.func (.func 99) #[] #[.pointer (some ⟨b, 0, none⟩)]) ∧ w'.heap[b]? = some (.cells #[.string name] 9 (0, 0)) ∧ Below w.heap.size w w' := by
 have HB := Aside0.mk (Below.refl w.heap.size w)
 go_enter Try.func87, Try.ntmps87
 go_wp2_with (first | ((with_reducible refine gate_dst (N := 1) rfl ?_); refine box_event ?hg (N := 1) ?hd (cs := #[.string name]) (t := 9) ?hr ?_; (case hd => rfl); (case hg => rfl); (case hr => first | (go_simp; done) | (go_simp; rfl)); intro g hg w1 hbox hb; have BK := Aside0.mk hbox; have n0_ := Aside0.mk hb; clear HB; have HB := n0_; clear n0_ hb hbox hg; skip))
 go_ret
 exact ⟨_, rfl, BK.out, ab1⟩
set_option maxHeartbeats 8000000 in
set_option maxRecDepth 100000 in
theorem impl_Page_innermost.calls (name : ByteArray) (b : Nat) (g : Nat) (s0_0 : List (S50)) (s0_1 : List Int) (s0_2 : List Int) (s0_3 : Int) (s0_4 : Int) (r : Int) (w0 w : World) (hI : IsS40 w0 w g s0_0 s0_1 s0_2 s0_3 s0_4) (hB : Below w0.heap.size w0 w) (hb : w.heap[b]? = some (.cells #[.string name] 9 (0, 0))) (h : impl_Page_openAt name s0_0 s0_1 s0_2 s0_3 s0_4 s0_1.length = some r) :
  Calls Try.prog 86 #[.pointer (some ⟨g, 0, none⟩), .func (.func 99) #[] #[.pointer (some ⟨b, 0, none⟩)]] w fun e w' => e = .returned (.int .i64 r) ∧ IsS40 w0 w' g s0_0 s0_1 s0_2 s0_3 s0_4 ∧ Below w0.heap.size w0 w' ∧ KeepBut w w' g none := by
 have HI0 := Aside0.mk hI
 have HB := Aside0.mk hB
 have HK := Aside0.mk (KeepBut.refl w g none)
 have HBK := Aside0.mk hb
 have HNE := Aside0.mk (hI.ne_blk hb (by decide))
 have HA := Aside0.mk h
 clear hI hB hb h
 obtain ⟨A0, c0, A1, c1, A2, c2, hG, hgz, hR0, hR1, hR2⟩ := HI0.out
 have hlen : s0_1.length ≤ 9223372036854775807 := by have := hR1.2.1; omega
 have HLEN := Aside0.mk hlen
 have hcz_1 := cellS40_1 hG
 clear hG hgz hR0 hR1 hR2
 go_enter Try.func86, Try.ntmps86
 go_wp2
 go_loopw [5] (fun v5 wr => ∃ (j : Nat), v5 = .int .i64 ((j : Int) - 1) ∧ Aside0 (j ≤ s0_1.length) ∧ Aside0 (impl_Page_openAt name s0_0 s0_1 s0_2 s0_3 s0_4 j = some r) ∧ Aside0 (IsS40 w0 wr g s0_0 s0_1 s0_2 s0_3 s0_4) ∧ Aside0 (Below w0.heap.size w0 wr) ∧ Aside0 (KeepBut w wr g none)) (fun v5 _ => (intOf v5 + 1).toNat)
 case atStart => exact ⟨s0_1.length, by go_num, ⟨Nat.le_refl _⟩, HA, ⟨by repeat (first | (with_reducible first | exact HI0.out | apply IsS40.alloc | apply IsS40.drewN | apply IsS40.drew | apply IsS40.set_3 | apply IsS40.set_4) | exact HI0.out)⟩, ⟨by repeat (first | (with_reducible first | exact HB.out | apply below_alloc | apply pw_below_drewN | apply below_drew1 | refine below_set ?_ (IsS40.ge HI0.out)) | exact HB.out)⟩, ⟨by repeat (first | (with_reducible first | exact HK.out | apply KeepBut.set_ | apply keep_drewN | apply keep_drew | apply keep_alloc) | exact HK.out)⟩⟩
 case round =>
  clear hcz_1 HI0 HB HK HA
  obtain ⟨j, rfl, HJ, HA, HI0, HB, HK⟩ := hrel
  cases j with
  | zero =>
   have HE := Aside0.mk (Option.some.inj HA.out)
   go_wp2
   go_ret
   exact ⟨by rw [← HE.out]; rfl, by repeat (first | (with_reducible first | exact HI0.out | apply IsS40.alloc | apply IsS40.drewN | apply IsS40.drew | apply IsS40.set_3 | apply IsS40.set_4) | exact HI0.out), by repeat (first | (with_reducible first | exact HB.out | apply below_alloc | apply pw_below_drewN | apply below_drew1 | refine below_set ?_ (IsS40.ge HI0.out)) | exact HB.out), by repeat (first | (with_reducible first | exact HK.out | apply KeepBut.set_ | apply keep_drewN | apply keep_drew | apply keep_alloc) | exact HK.out)⟩
  | succ j =>
   have hA := HA.out
   unfold impl_Page_openAt at hA
   obtain ⟨⟨t1, t2, t3⟩, ht, hA⟩ := Option.bind_eq_some_iff.mp hA
   obtain ⟨rfl, rfl⟩ := impl_Page_nameOf.stays ht
   have HT := Aside0.mk ht
   clear ht HA
   have hj : ((j + 1 : Nat) : Int) - 1 = (j : Int) := by omega
   simp only [hj]
   have hcb := fun (w1 : World) (hk : KeepBut w w1 g none) => (blk_cell ((hk.2 b (Array.getElem?_eq_some_iff.mp HBK.out).1 (fun h => HNE.out h.symm) (by simp)).trans HBK.out) 0).trans (rfl : _ = some (Value.string name))
   have HCB := Aside0.mk hcb
   clear hcb
   by_cases hq : (t1.toList == name.toList) = true
   ·rw [if_pos hq] at hA
    have HE := Aside0.mk (Option.some.inj hA)
    have HQ := Aside0.mk hq
    clear hA hq
    go_wp2_with (first | (go_at_call 98; (with_reducible refine (impl_Page_nameOf.calls g s0_0 s0_1 s0_2 t2 t3 (j : Int) t1 t2 t3 w0 _ ?side1 ?side2 HT.out).mono ?_); (case side1 => exact by repeat (first | (with_reducible first | exact HI0.out | apply IsS40.alloc | apply IsS40.drewN | apply IsS40.drew | apply IsS40.set_3 | apply IsS40.set_4) | exact HI0.out)); (case side2 => exact by repeat (first | (with_reducible first | exact HB.out | apply below_alloc | apply pw_below_drewN | apply below_drew1 | refine below_set ?_ (IsS40.ge HI0.out)) | exact HB.out)); rintro e w1 ⟨rfl, hi, hb, hk⟩; have n0_ := Aside0.mk (KeepBut.trans (by repeat (first | (with_reducible first | exact HK.out | apply KeepBut.set_ | apply keep_drewN | apply keep_drew | apply keep_alloc) | exact HK.out)) hk (.inl rfl)); clear HK HB HI0; have HK := n0_; have HB := Aside0.mk hb; have HI0 := Aside0.mk hi; clear n0_ hi hb hk) | (go_at_call 99; (with_reducible refine (lit_isName t1 name b true _ HQ.out (HCB.out _ (by repeat (first | (with_reducible first | exact HK.out | apply KeepBut.set_ | apply keep_drewN | apply keep_drew | apply keep_alloc) | exact HK.out)))).mono ?_); rintro e w2 ⟨rfl, hb⟩; have n0_ := Aside0.mk (KeepBut.trans (by repeat (first | (with_reducible first | exact HK.out | apply KeepBut.set_ | apply keep_drewN | apply keep_drew | apply keep_alloc) | exact HK.out)) (KeepBut.of_below hb g none) (.inl rfl)); have n1_ := Aside0.mk (below_step (by repeat (first | (with_reducible first | exact HB.out | apply below_alloc | apply pw_below_drewN | apply below_drew1 | refine below_set ?_ (IsS40.ge HI0.out)) | exact HB.out)) hb); have n2_ := Aside0.mk (IsS40.below (by repeat (first | (with_reducible first | exact HI0.out | apply IsS40.alloc | apply IsS40.drewN | apply IsS40.drew | apply IsS40.set_3 | apply IsS40.set_4) | exact HI0.out)) hb); clear HK HB HI0; have HK := n0_; have HB := n1_; have HI0 := n2_; clear n0_ n1_ n2_ hb))
    go_ret
    exact ⟨by rw [← HE.out]; rfl, by repeat (first | (with_reducible first | exact HI0.out | apply IsS40.alloc | apply IsS40.drewN | apply IsS40.drew | apply IsS40.set_3 | apply IsS40.set_4) | exact HI0.out), by repeat (first | (with_reducible first | exact HB.out | apply below_alloc | apply pw_below_drewN | apply below_drew1 | refine below_set ?_ (IsS40.ge HI0.out)) | exact HB.out), by repeat (first | (with_reducible first | exact HK.out | apply KeepBut.set_ | apply keep_drewN | apply keep_drew | apply keep_alloc) | exact HK.out)⟩
   ·rw [if_neg hq] at hA
    have HE := Aside0.mk hA
    have HQ := Aside0.mk (Bool.eq_false_iff.mpr hq)
    clear hA hq
    go_wp2_with (first | (go_at_call 98; (with_reducible refine (impl_Page_nameOf.calls g s0_0 s0_1 s0_2 t2 t3 (j : Int) t1 t2 t3 w0 _ ?side1 ?side2 HT.out).mono ?_); (case side1 => exact by repeat (first | (with_reducible first | exact HI0.out | apply IsS40.alloc | apply IsS40.drewN | apply IsS40.drew | apply IsS40.set_3 | apply IsS40.set_4) | exact HI0.out)); (case side2 => exact by repeat (first | (with_reducible first | exact HB.out | apply below_alloc | apply pw_below_drewN | apply below_drew1 | refine below_set ?_ (IsS40.ge HI0.out)) | exact HB.out)); rintro e w1 ⟨rfl, hi, hb, hk⟩; have n0_ := Aside0.mk (KeepBut.trans (by repeat (first | (with_reducible first | exact HK.out | apply KeepBut.set_ | apply keep_drewN | apply keep_drew | apply keep_alloc) | exact HK.out)) hk (.inl rfl)); clear HK HB HI0; have HK := n0_; have HB := Aside0.mk hb; have HI0 := Aside0.mk hi; clear n0_ hi hb hk) | (go_at_call 99; (with_reducible refine (lit_isName t1 name b false _ HQ.out (HCB.out _ (by repeat (first | (with_reducible first | exact HK.out | apply KeepBut.set_ | apply keep_drewN | apply keep_drew | apply keep_alloc) | exact HK.out)))).mono ?_); rintro e w2 ⟨rfl, hb⟩; have n0_ := Aside0.mk (KeepBut.trans (by repeat (first | (with_reducible first | exact HK.out | apply KeepBut.set_ | apply keep_drewN | apply keep_drew | apply keep_alloc) | exact HK.out)) (KeepBut.of_below hb g none) (.inl rfl)); have n1_ := Aside0.mk (below_step (by repeat (first | (with_reducible first | exact HB.out | apply below_alloc | apply pw_below_drewN | apply below_drew1 | refine below_set ?_ (IsS40.ge HI0.out)) | exact HB.out)) hb); have n2_ := Aside0.mk (IsS40.below (by repeat (first | (with_reducible first | exact HI0.out | apply IsS40.alloc | apply IsS40.drewN | apply IsS40.drew | apply IsS40.set_3 | apply IsS40.set_4) | exact HI0.out)) hb); clear HK HB HI0; have HK := n0_; have HB := n1_; have HI0 := n2_; clear n0_ n1_ n2_ hb))
    have hw : wrap64 ((j : Int) - 1) = (j : Int) - 1 := by have := HJ.out; have := HLEN.out; unfold wrap64; omega
    go_roundw
    case rel => exact ⟨j, by rw [hw], ⟨by have := HJ.out; omega⟩, HE, ⟨by repeat (first | (with_reducible first | exact HI0.out | apply IsS40.alloc | apply IsS40.drewN | apply IsS40.drew | apply IsS40.set_3 | apply IsS40.set_4) | exact HI0.out)⟩, ⟨by repeat (first | (with_reducible first | exact HB.out | apply below_alloc | apply pw_below_drewN | apply below_drew1 | refine below_set ?_ (IsS40.ge HI0.out)) | exact HB.out)⟩, ⟨by repeat (first | (with_reducible first | exact HK.out | apply KeepBut.set_ | apply keep_drewN | apply keep_drew | apply keep_alloc) | exact HK.out)⟩⟩
    case measure => rw [hw]; simp [intOf]
set_option maxHeartbeats 8000000 in
set_option maxRecDepth 100000 in
theorem impl_Page_tableOpen.calls (g : Nat) (s0_0 : List (S50)) (s0_1 : List Int) (s0_2 : List Int) (s0_3 : Int) (s0_4 : Int) (r1 r2 r3 : Int) (w0 w : World) (hI : IsS40 w0 w g s0_0 s0_1 s0_2 s0_3 s0_4) (hB : Below w0.heap.size w0 w) (h : impl_Page_tableOpen.f s0_0 s0_1 s0_2 s0_3 s0_4 = some (r1, r2, r3)) :
  Calls Try.prog 55 #[.pointer (some ⟨g, 0, none⟩)] w fun e w' => e = .returned (.int .i64 r1) ∧ IsS40 w0 w' g s0_0 s0_1 s0_2 r2 r3 ∧ Below w0.heap.size w0 w' ∧ KeepBut w w' g none := by
 obtain ⟨t, ht, hq⟩ := Option.bind_eq_some_iff.mp h
 obtain ⟨rfl, rfl, rfl⟩ : t = r1 ∧ s0_3 = r2 ∧ s0_4 = r3 := by simpa using hq
 clear h hq
 have HI0 := Aside0.mk hI
 have HB := Aside0.mk hB
 have HK := Aside0.mk (KeepBut.refl w g none)
 have HT := Aside0.mk ht
 clear hI hB ht
 go_enter Try.func55, Try.ntmps55
 go_wp2_with (first | (go_at_call 87; (refine (impl_isName.calls (⟨#[116, 97, 98, 108, 101]⟩ : ByteArray) _).mono ?_); rintro e w1 ⟨b, rfl, hbk, hb⟩; have HBK := Aside0.mk hbk; have n0_ := Aside0.mk (KeepBut.trans (by repeat (first | (with_reducible first | exact HK.out | apply KeepBut.set_ | apply keep_drewN | apply keep_drew | apply keep_alloc) | exact HK.out)) (KeepBut.of_below hb g none) (.inl rfl)); have n1_ := Aside0.mk (below_step (by repeat (first | (with_reducible first | exact HB.out | apply below_alloc | apply pw_below_drewN | apply below_drew1 | refine below_set ?_ (IsS40.ge HI0.out)) | exact HB.out)) hb); have n2_ := Aside0.mk (IsS40.below (by repeat (first | (with_reducible first | exact HI0.out | apply IsS40.alloc | apply IsS40.drewN | apply IsS40.drew | apply IsS40.set_3 | apply IsS40.set_4) | exact HI0.out)) hb); clear HK HB HI0; have HK := n0_; have HB := n1_; have HI0 := n2_; clear n0_ n1_ n2_ hb hbk) | (go_at_call 86; (refine (impl_Page_innermost.calls (⟨#[116, 97, 98, 108, 101]⟩ : ByteArray) _ g s0_0 s0_1 s0_2 s0_3 s0_4 t w0 _ ?side1 ?side2 HBK.out HT.out).mono ?_); (case side1 => exact by repeat (first | (with_reducible first | exact HI0.out | apply IsS40.alloc | apply IsS40.drewN | apply IsS40.drew | apply IsS40.set_3 | apply IsS40.set_4) | exact HI0.out)); (case side2 => exact by repeat (first | (with_reducible first | exact HB.out | apply below_alloc | apply pw_below_drewN | apply below_drew1 | refine below_set ?_ (IsS40.ge HI0.out)) | exact HB.out)); rintro e w2 ⟨rfl, hi, hb, hk⟩; have n0_ := Aside0.mk (KeepBut.trans (by repeat (first | (with_reducible first | exact HK.out | apply KeepBut.set_ | apply keep_drewN | apply keep_drew | apply keep_alloc) | exact HK.out)) hk (.inl rfl)); clear HK HB HI0; have HK := n0_; have HB := Aside0.mk hb; have HI0 := Aside0.mk hi; clear n0_ hi hb hk))
 go_ret
 exact ⟨rfl, by repeat (first | (with_reducible first | exact HI0.out | apply IsS40.alloc | apply IsS40.drewN | apply IsS40.drew | apply IsS40.set_3 | apply IsS40.set_4) | exact HI0.out), by repeat (first | (with_reducible first | exact HB.out | apply below_alloc | apply pw_below_drewN | apply below_drew1 | refine below_set ?_ (IsS40.ge HI0.out)) | exact HB.out), by repeat (first | (with_reducible first | exact HK.out | apply KeepBut.set_ | apply keep_drewN | apply keep_drew | apply keep_alloc) | exact HK.out)⟩
def impl_Page_place.f (k : Nat) (s0_0 : List (S50)) (s0_1 : List Int) (s0_2 : List Int) (s0_3 : Int) (s0_4 : Int) : Option (Int × Int × Int × Int) := (impl_Page_inTable.f s0_0 s0_1 s0_2 s0_3 s0_4).bind fun bt361 => (if bt361.1 = true then ((impl_Page_tableOpen.f s0_0 s0_1 s0_2 bt361.2.1 bt361.2.2).bind fun bt367 => (if bt367.1 < 0 then ((impl_Page_last.f s0_0 s0_1 s0_2 bt367.2.1 bt367.2.2).bind fun bt370 => (some (bt370.1, (-1), bt370.2.1, bt370.2.2))) else (if 0 ≤ bt367.1 then (if bt367.1 < (s0_1.length : Int) then (if 0 ≤ (rd s0_1 bt367.1) then (if (rd s0_1 bt367.1) < (s0_0.length : Int) then (if 0 ≤ ((rd_T50 s0_0 (rd s0_1 bt367.1)).f5) then (if ((rd_T50 s0_0 (rd s0_1 bt367.1)).f5) < (s0_0.length : Int) then ((slices_Index_int_int.f k ((rd_T50 s0_0 ((rd_T50 s0_0 (rd s0_1 bt367.1)).f5)).f6) (rd s0_1 bt367.1)).bind fun t376 => (some ((rd_T50 s0_0 (rd s0_1 bt367.1)).f5, t376, bt367.2.1, bt367.2.2))) else (none)) else (none)) else (none)) else (none)) else (none)) else (none)))) else ((impl_Page_last.f s0_0 s0_1 s0_2 bt361.2.1 bt361.2.2).bind fun bt364 => (some (bt364.1, (-1), bt364.2.1, bt364.2.2))))
theorem impl_Page_place.mono : ∀ a0 a1 a2 a3 a4 k, LeO (impl_Page_place.f k a0 a1 a2 a3 a4) (impl_Page_place.f (k + 1) a0 a1 a2 a3 a4) := by
 intro a0 a1 a2 a3 a4 k
 unfold impl_Page_place.f
 repeat' first
   | (with_reducible exact slices_Index_int_int.mono _ _ _)
   | (with_reducible exact LeO.refl _)
   | (with_reducible exact LeO.none _)
   | (with_reducible refine LeO.ite ?_ ?_)
   | (with_reducible refine LeO.bind ?_ (fun _ => ?_))
set_option maxHeartbeats 8000000 in
set_option maxRecDepth 100000 in
theorem impl_Page_place.calls (k : Nat) (g : Nat) (s0_0 : List (S50)) (s0_1 : List Int) (s0_2 : List Int) (s0_3 : Int) (s0_4 : Int) (r1 : Int) (r2 : Int) (r3 : Int) (r4 : Int) (w0 w : World) (hI : IsS40 w0 w g s0_0 s0_1 s0_2 s0_3 s0_4) (hB : Below w0.heap.size w0 w) (M_ : Int) (hm_ : w0.cell? ⟨0, 0, none⟩ = some (.int .i64 M_)) (h : impl_Page_place.f k s0_0 s0_1 s0_2 s0_3 s0_4 = some (r1, r2, r3, r4)) :
  Calls Try.prog 34 #[.pointer (some ⟨g, 0, none⟩)] w fun e w' => e = .returned (.tuple #[.int .i64 r1, .int .i64 r2]) ∧ IsS40 w0 w' g s0_0 s0_1 s0_2 r3 r4 ∧ Below w0.heap.size w0 w' ∧ KeepBut w w' g none := by
 have HI0 := Aside0.mk hI
 have HK := Aside0.mk (KeepBut.refl w g none)
 have HL := Aside0.mk hB.size
 clear hI
 have HW0 := Aside0.mk hB.size
 have HB := Aside0.mk hB
 clear hB
 have HM_ := Aside0.mk hm_
 clear hm_
 have H : ((impl_Page_inTable.f s0_0 s0_1 s0_2 s0_3 s0_4).bind fun bt361 => (if bt361.1 = true then ((impl_Page_tableOpen.f s0_0 s0_1 s0_2 bt361.2.1 bt361.2.2).bind fun bt367 => (if bt367.1 < 0 then ((impl_Page_last.f s0_0 s0_1 s0_2 bt367.2.1 bt367.2.2).bind fun bt370 => (some (bt370.1, (-1), bt370.2.1, bt370.2.2))) else (if 0 ≤ bt367.1 then (if bt367.1 < (s0_1.length : Int) then (if 0 ≤ (rd s0_1 bt367.1) then (if (rd s0_1 bt367.1) < (s0_0.length : Int) then (if 0 ≤ ((rd_T50 s0_0 (rd s0_1 bt367.1)).f5) then (if ((rd_T50 s0_0 (rd s0_1 bt367.1)).f5) < (s0_0.length : Int) then ((slices_Index_int_int.f k ((rd_T50 s0_0 ((rd_T50 s0_0 (rd s0_1 bt367.1)).f5)).f6) (rd s0_1 bt367.1)).bind fun t376 => (some ((rd_T50 s0_0 (rd s0_1 bt367.1)).f5, t376, bt367.2.1, bt367.2.2))) else (none)) else (none)) else (none)) else (none)) else (none)) else (none)))) else ((impl_Page_last.f s0_0 s0_1 s0_2 bt361.2.1 bt361.2.2).bind fun bt364 => (some (bt364.1, (-1), bt364.2.1, bt364.2.2))))) = some (r1, r2, r3, r4) := h
 clear h
 replace H := Option.bind_eq_some_iff.mp H
 obtain ⟨⟨t361, t362, t363⟩, A20, H⟩ := H
 try dsimp only at H
 have A2 := Aside0.mk A20
 clear A20
 by_cases c3 : t361 = true
 ·subst c3
  rw [if_pos rfl] at H
  replace H := Option.bind_eq_some_iff.mp H
  obtain ⟨⟨t367, t368, t369⟩, A40, H⟩ := H
  try dsimp only at H
  have A4 := Aside0.mk A40
  clear A40
  by_cases c5 : t367 < 0
  ·rw [if_pos c5] at H
   have c5b0 := decide_eq_true c5
   clear c5
   replace H := Option.bind_eq_some_iff.mp H
   obtain ⟨⟨t370, t371, t372⟩, A60, H⟩ := H
   try dsimp only at H
   have A6 := Aside0.mk A60
   clear A60
   simp only [Option.some.injEq, Prod.mk.injEq] at H
   obtain ⟨rfl, rfl, rfl, rfl⟩ := H
   go_enter Try.func34, Try.ntmps34
   go_wp2_with (first | ((with_reducible refine gate_callee (f := 53) rfl ?_); refine goesL_ (some 8) rfl rfl Try.func53 (by kernel_rfl) rfl #[.pointer (some ⟨g, 0, none⟩)] rfl ab5 ?_; (with_reducible refine (impl_Page_inTable.calls g s0_0 s0_1 s0_2 s0_3 s0_4 true t362 t363 w0 _ ?side1 ?side2 M_ ?side3 A2.out).mono ?_); (case side1 => repeat (first | (with_reducible first | exact HI0.out | apply IsS40.alloc | apply IsS40.drewN | apply IsS40.drew | apply IsS40.set_3 | apply IsS40.set_4) | exact HI0.out)); (case side2 => repeat (first | (with_reducible first | exact HB.out | apply below_alloc | apply pw_below_drewN | apply below_drew1 | refine below_set ?_ (IsS40.ge HI0.out)) | exact HB.out)); (case side3 => exact HM_.out); rintro e w7 ⟨rfl, hi, hb, hk⟩; refine ⟨_, rfl, ?_⟩; have n0_ := Aside0.mk (KeepBut.trans (by repeat (first | (with_reducible first | exact HK.out | apply KeepBut.set_ | apply keep_drewN | apply keep_drew | apply keep_alloc) | exact HK.out)) hk (.inl rfl)); have n1_ := Aside0.mk (hb); have n2_ := Aside0.mk (hi); clear HK; clear HB; clear HI0; have HK := n0_; have HB := n1_; have HI0 := n2_; clear n0_ n1_ n2_; (try clear hb); (try clear hb2); (try clear hk); (try clear hi)) | ((with_reducible refine gate_callee (f := 55) rfl ?_); refine goesL_ (some 13) rfl rfl Try.func55 (by kernel_rfl) rfl #[.pointer (some ⟨g, 0, none⟩)] rfl ab5 ?_; (with_reducible refine (impl_Page_tableOpen.calls g s0_0 s0_1 s0_2 t362 t363 t367 t368 t369 w0 _ ?side1 ?side2 A4.out).mono ?_); (case side1 => repeat (first | (with_reducible first | exact HI0.out | apply IsS40.alloc | apply IsS40.drewN | apply IsS40.drew | apply IsS40.set_3 | apply IsS40.set_4) | exact HI0.out)); (case side2 => repeat (first | (with_reducible first | exact HB.out | apply below_alloc | apply pw_below_drewN | apply below_drew1 | refine below_set ?_ (IsS40.ge HI0.out)) | exact HB.out)); rintro e w8 ⟨rfl, hi, hb, hk⟩; refine ⟨_, rfl, ?_⟩; have n0_ := Aside0.mk (KeepBut.trans (by repeat (first | (with_reducible first | exact HK.out | apply KeepBut.set_ | apply keep_drewN | apply keep_drew | apply keep_alloc) | exact HK.out)) hk (.inl rfl)); have n1_ := Aside0.mk (hb); have n2_ := Aside0.mk (hi); clear HK; clear HB; clear HI0; have HK := n0_; have HB := n1_; have HI0 := n2_; clear n0_ n1_ n2_; (try clear hb); (try clear hb2); (try clear hk); (try clear hi)) | ((with_reducible refine gate_callee (f := 54) rfl ?_); refine goesL_ (some 17) rfl rfl Try.func54 (by kernel_rfl) rfl #[.pointer (some ⟨g, 0, none⟩)] rfl ab5 ?_; (with_reducible refine (impl_Page_last.calls g s0_0 s0_1 s0_2 t368 t369 t370 t371 t372 w0 _ ?side1 ?side2 A6.out).mono ?_); (case side1 => repeat (first | (with_reducible first | exact HI0.out | apply IsS40.alloc | apply IsS40.drewN | apply IsS40.drew | apply IsS40.set_3 | apply IsS40.set_4) | exact HI0.out)); (case side2 => repeat (first | (with_reducible first | exact HB.out | apply below_alloc | apply pw_below_drewN | apply below_drew1 | refine below_set ?_ (IsS40.ge HI0.out)) | exact HB.out)); rintro e w9 ⟨rfl, hi, hb, hk⟩; refine ⟨_, rfl, ?_⟩; have n0_ := Aside0.mk (KeepBut.trans (by repeat (first | (with_reducible first | exact HK.out | apply KeepBut.set_ | apply keep_drewN | apply keep_drew | apply keep_alloc) | exact HK.out)) hk (.inl rfl)); have n1_ := Aside0.mk (hb); have n2_ := Aside0.mk (hi); clear HK; clear HB; clear HI0; have HK := n0_; have HB := n1_; have HI0 := n2_; clear n0_ n1_ n2_; (try clear hb); (try clear hb2); (try clear hk); (try clear hi)))
   go_ret2
   exact ⟨ab7, by repeat (first | (with_reducible first | exact HI0.out | apply IsS40.alloc | apply IsS40.drewN | apply IsS40.drew | apply IsS40.set_3 | apply IsS40.set_4) | exact HI0.out), by repeat (first | (with_reducible first | exact HB.out | apply below_alloc | apply pw_below_drewN | apply below_drew1 | refine below_set ?_ (IsS40.ge HI0.out)) | exact HB.out), by repeat (first | (with_reducible first | exact HK.out | apply KeepBut.set_ | apply keep_drewN | apply keep_drew | apply keep_alloc) | exact HK.out)⟩
  ·rw [if_neg c5] at H
   have c5b0 := decide_eq_false c5
   clear c5
   by_cases c10 : 0 ≤ t367
   case neg => rw [if_neg c10] at H; exact absurd H (by simp)
   rw [if_pos c10] at H
   have c10b0 := decide_eq_true c10
   clear c10
   by_cases c11 : t367 < (s0_1.length : Int)
   case neg => rw [if_neg c11] at H; exact absurd H (by simp)
   rw [if_pos c11] at H
   have c11b0 := decide_eq_true c11
   clear c11
   by_cases c12 : 0 ≤ (rd s0_1 t367)
   case neg => rw [if_neg c12] at H; exact absurd H (by simp)
   rw [if_pos c12] at H
   have c12b0 := decide_eq_true c12
   clear c12
   by_cases c13 : (rd s0_1 t367) < (s0_0.length : Int)
   case neg => rw [if_neg c13] at H; exact absurd H (by simp)
   rw [if_pos c13] at H
   have c13b0 := decide_eq_true c13
   clear c13
   by_cases c14 : 0 ≤ ((rd_T50 s0_0 (rd s0_1 t367)).f5)
   case neg => rw [if_neg c14] at H; exact absurd H (by simp)
   rw [if_pos c14] at H
   have c14b0 := decide_eq_true c14
   clear c14
   by_cases c15 : ((rd_T50 s0_0 (rd s0_1 t367)).f5) < (s0_0.length : Int)
   case neg => rw [if_neg c15] at H; exact absurd H (by simp)
   rw [if_pos c15] at H
   have c15b0 := decide_eq_true c15
   clear c15
   replace H := Option.bind_eq_some_iff.mp H
   obtain ⟨t376, A160, H⟩ := H
   try dsimp only at H
   have A16 := Aside0.mk A160
   clear A160
   simp only [Option.some.injEq, Prod.mk.injEq] at H
   obtain ⟨rfl, rfl, rfl, rfl⟩ := H
   go_enter Try.func34, Try.ntmps34
   go_wp2_with (first | ((with_reducible refine gate_callee (f := 53) rfl ?_); refine goesL_ (some 8) rfl rfl Try.func53 (by kernel_rfl) rfl #[.pointer (some ⟨g, 0, none⟩)] rfl ab5 ?_; (with_reducible refine (impl_Page_inTable.calls g s0_0 s0_1 s0_2 s0_3 s0_4 true t362 t363 w0 _ ?side1 ?side2 M_ ?side3 A2.out).mono ?_); (case side1 => repeat (first | (with_reducible first | exact HI0.out | apply IsS40.alloc | apply IsS40.drewN | apply IsS40.drew | apply IsS40.set_3 | apply IsS40.set_4) | exact HI0.out)); (case side2 => repeat (first | (with_reducible first | exact HB.out | apply below_alloc | apply pw_below_drewN | apply below_drew1 | refine below_set ?_ (IsS40.ge HI0.out)) | exact HB.out)); (case side3 => exact HM_.out); rintro e w17 ⟨rfl, hi, hb, hk⟩; refine ⟨_, rfl, ?_⟩; have n0_ := Aside0.mk (KeepBut.trans (by repeat (first | (with_reducible first | exact HK.out | apply KeepBut.set_ | apply keep_drewN | apply keep_drew | apply keep_alloc) | exact HK.out)) hk (.inl rfl)); have n1_ := Aside0.mk (hb); have n2_ := Aside0.mk (hi); clear HK; clear HB; clear HI0; have HK := n0_; have HB := n1_; have HI0 := n2_; clear n0_ n1_ n2_; (try clear hb); (try clear hb2); (try clear hk); (try clear hi)) | ((with_reducible refine gate_callee (f := 55) rfl ?_); refine goesL_ (some 13) rfl rfl Try.func55 (by kernel_rfl) rfl #[.pointer (some ⟨g, 0, none⟩)] rfl ab5 ?_; (with_reducible refine (impl_Page_tableOpen.calls g s0_0 s0_1 s0_2 t362 t363 t367 t368 t369 w0 _ ?side1 ?side2 A4.out).mono ?_); (case side1 => repeat (first | (with_reducible first | exact HI0.out | apply IsS40.alloc | apply IsS40.drewN | apply IsS40.drew | apply IsS40.set_3 | apply IsS40.set_4) | exact HI0.out)); (case side2 => repeat (first | (with_reducible first | exact HB.out | apply below_alloc | apply pw_below_drewN | apply below_drew1 | refine below_set ?_ (IsS40.ge HI0.out)) | exact HB.out)); rintro e w18 ⟨rfl, hi, hb, hk⟩; refine ⟨_, rfl, ?_⟩; have n0_ := Aside0.mk (KeepBut.trans (by repeat (first | (with_reducible first | exact HK.out | apply KeepBut.set_ | apply keep_drewN | apply keep_drew | apply keep_alloc) | exact HK.out)) hk (.inl rfl)); have n1_ := Aside0.mk (hb); have n2_ := Aside0.mk (hi); clear HK; clear HB; clear HI0; have HK := n0_; have HB := n1_; have HI0 := n2_; clear n0_ n1_ n2_; (try clear hb); (try clear hb2); (try clear hk); (try clear hi); obtain ⟨ASz19_0, cSz19_0, ASz19_1, cSz19_1, ASz19_2, cSz19_2, HGz19, hgz19, HSz19_0, HSz19_1, HSz19_2⟩ := HI0.out; have hcz19_0 := cellS40_0 HGz19; have hcz19_1 := cellS40_1 HGz19; have hcz19_2 := cellS40_2 HGz19; have hcz19_3 := cellS40_3 HGz19; have hcz19_4 := cellS40_4 HGz19; have hfz19_3 := blk_frozen HGz19 3; have hfz19_4 := blk_frozen HGz19 4; clear HGz19 hgz19; have p373 : 0 ≤ (t367 : Int) := of_decide_eq_true ab4; have q373 : t367 < (s0_1.length : Int) := of_decide_eq_true ab4; obtain ⟨ad373, e373, hx373_0⟩ := Kd.at_int HSz19_1 t367 p373 q373; cases e373; replace hx373_0 := pw_cell_below HB.out hx373_0; replace p373 := eq_true p373; replace q373 := eq_true q373; have p374 : 0 ≤ ((rd s0_1 t367) : Int) := of_decide_eq_true ab4; have q374 : (rd s0_1 t367) < (s0_0.length : Int) := of_decide_eq_true ab4; obtain ⟨ad374, A374_3, c374_3, A374_6, c374_6, e374, hx374_0, hx374_1, hx374_2, hx374_3, hx374_4, hx374_5, hx374_6, hl374_3, hi374_3, hl374_6, hi374_6⟩ := at_T50 HSz19_0 (rd s0_1 t367) p374 q374; cases e374; replace hx374_0 := pw_cell_below HB.out hx374_0; replace hx374_1 := pw_cell_below HB.out hx374_1; replace hx374_2 := pw_cell_below HB.out hx374_2; replace hx374_3 := pw_cell_below HB.out hx374_3; replace hx374_4 := pw_cell_below HB.out hx374_4; replace hx374_5 := pw_cell_below HB.out hx374_5; replace hx374_6 := pw_cell_below HB.out hx374_6; have HR374_3 := Aside0.mk hi374_3; have HC374_3 := Aside0.mk hl374_3; clear hi374_3 hl374_3; have HR374_6 := Aside0.mk hi374_6; have HC374_6 := Aside0.mk hl374_6; clear hi374_6 hl374_6; replace p374 := eq_true p374; replace q374 := eq_true q374; have p375 : 0 ≤ (((rd_T50 s0_0 (rd s0_1 t367)).f5) : Int) := of_decide_eq_true ab4; have q375 : ((rd_T50 s0_0 (rd s0_1 t367)).f5) < (s0_0.length : Int) := of_decide_eq_true ab4; obtain ⟨ad375, A375_3, c375_3, A375_6, c375_6, e375, hx375_0, hx375_1, hx375_2, hx375_3, hx375_4, hx375_5, hx375_6, hl375_3, hi375_3, hl375_6, hi375_6⟩ := at_T50 HSz19_0 ((rd_T50 s0_0 (rd s0_1 t367)).f5) p375 q375; obtain rfl : ad374 = ad375 := (by injection e375); replace hx375_0 := pw_cell_below HB.out hx375_0; replace hx375_1 := pw_cell_below HB.out hx375_1; replace hx375_2 := pw_cell_below HB.out hx375_2; replace hx375_3 := pw_cell_below HB.out hx375_3; replace hx375_4 := pw_cell_below HB.out hx375_4; replace hx375_5 := pw_cell_below HB.out hx375_5; replace hx375_6 := pw_cell_below HB.out hx375_6; have HR375_3 := Aside0.mk hi375_3; have HC375_3 := Aside0.mk hl375_3; clear hi375_3 hl375_3; have HR375_6 := Aside0.mk hi375_6; have HC375_6 := Aside0.mk hl375_6; clear hi375_6 hl375_6; replace p375 := eq_true p375; replace q375 := eq_true q375) | ((with_reducible refine gate_callee (f := 49) rfl ?_); refine goesL_ (some 43) rfl rfl Try.func49 (by kernel_rfl) rfl #[.slice A375_6 ((rd_T50 s0_0 ((rd_T50 s0_0 (rd s0_1 t367)).f5)).f6).length c375_6, .int .i64 (rd s0_1 t367)] rfl ab5 ?_; (with_reducible refine (slices_Index_int_int.calls k _ _ ((rd_T50 s0_0 ((rd_T50 s0_0 (rd s0_1 t367)).f5)).f6) (rd s0_1 t367) t376 _ ?side1 ?side2 A16.out).mono ?_); (case side1 => exact Kd.C_below HR375_6.out (by repeat (first | (with_reducible first | exact HB.out | apply below_alloc | apply pw_below_drewN | apply below_drew1 | refine below_set ?_ (IsS40.ge HI0.out)) | exact HB.out))); (case side2 => exact HC375_6.out); rintro e w' ⟨rfl, ⟨nd, rfl⟩⟩; refine ⟨_, rfl, ?_⟩))
   go_ret2
   exact ⟨ab7, by repeat (first | (with_reducible first | exact HI0.out | apply IsS40.alloc | apply IsS40.drewN | apply IsS40.drew | apply IsS40.set_3 | apply IsS40.set_4) | exact HI0.out), by repeat (first | (with_reducible first | exact HB.out | apply below_alloc | apply pw_below_drewN | apply below_drew1 | refine below_set ?_ (IsS40.ge HI0.out)) | exact HB.out), by repeat (first | (with_reducible first | exact HK.out | apply KeepBut.set_ | apply keep_drewN | apply keep_drew | apply keep_alloc) | exact HK.out)⟩
 ·replace c3 := Bool.eq_false_iff.mpr c3
  subst c3
  rw [if_neg (show ¬ (false = true) by decide)] at H
  replace H := Option.bind_eq_some_iff.mp H
  obtain ⟨⟨t364, t365, t366⟩, A200, H⟩ := H
  try dsimp only at H
  have A20 := Aside0.mk A200
  clear A200
  simp only [Option.some.injEq, Prod.mk.injEq] at H
  obtain ⟨rfl, rfl, rfl, rfl⟩ := H
  go_enter Try.func34, Try.ntmps34
  go_wp2_with (first | ((with_reducible refine gate_callee (f := 53) rfl ?_); refine goesL_ (some 8) rfl rfl Try.func53 (by kernel_rfl) rfl #[.pointer (some ⟨g, 0, none⟩)] rfl ab5 ?_; (with_reducible refine (impl_Page_inTable.calls g s0_0 s0_1 s0_2 s0_3 s0_4 false t362 t363 w0 _ ?side1 ?side2 M_ ?side3 A2.out).mono ?_); (case side1 => repeat (first | (with_reducible first | exact HI0.out | apply IsS40.alloc | apply IsS40.drewN | apply IsS40.drew | apply IsS40.set_3 | apply IsS40.set_4) | exact HI0.out)); (case side2 => repeat (first | (with_reducible first | exact HB.out | apply below_alloc | apply pw_below_drewN | apply below_drew1 | refine below_set ?_ (IsS40.ge HI0.out)) | exact HB.out)); (case side3 => exact HM_.out); rintro e w21 ⟨rfl, hi, hb, hk⟩; refine ⟨_, rfl, ?_⟩; have n0_ := Aside0.mk (KeepBut.trans (by repeat (first | (with_reducible first | exact HK.out | apply KeepBut.set_ | apply keep_drewN | apply keep_drew | apply keep_alloc) | exact HK.out)) hk (.inl rfl)); have n1_ := Aside0.mk (hb); have n2_ := Aside0.mk (hi); clear HK; clear HB; clear HI0; have HK := n0_; have HB := n1_; have HI0 := n2_; clear n0_ n1_ n2_; (try clear hb); (try clear hb2); (try clear hk); (try clear hi)) | ((with_reducible refine gate_callee (f := 54) rfl ?_); refine goesL_ (some 11) rfl rfl Try.func54 (by kernel_rfl) rfl #[.pointer (some ⟨g, 0, none⟩)] rfl ab5 ?_; (with_reducible refine (impl_Page_last.calls g s0_0 s0_1 s0_2 t362 t363 t364 t365 t366 w0 _ ?side1 ?side2 A20.out).mono ?_); (case side1 => repeat (first | (with_reducible first | exact HI0.out | apply IsS40.alloc | apply IsS40.drewN | apply IsS40.drew | apply IsS40.set_3 | apply IsS40.set_4) | exact HI0.out)); (case side2 => repeat (first | (with_reducible first | exact HB.out | apply below_alloc | apply pw_below_drewN | apply below_drew1 | refine below_set ?_ (IsS40.ge HI0.out)) | exact HB.out)); rintro e w22 ⟨rfl, hi, hb, hk⟩; refine ⟨_, rfl, ?_⟩; have n0_ := Aside0.mk (KeepBut.trans (by repeat (first | (with_reducible first | exact HK.out | apply KeepBut.set_ | apply keep_drewN | apply keep_drew | apply keep_alloc) | exact HK.out)) hk (.inl rfl)); have n1_ := Aside0.mk (hb); have n2_ := Aside0.mk (hi); clear HK; clear HB; clear HI0; have HK := n0_; have HB := n1_; have HI0 := n2_; clear n0_ n1_ n2_; (try clear hb); (try clear hb2); (try clear hk); (try clear hi)))
  go_ret2
  exact ⟨ab7, by repeat (first | (with_reducible first | exact HI0.out | apply IsS40.alloc | apply IsS40.drewN | apply IsS40.drew | apply IsS40.set_3 | apply IsS40.set_4) | exact HI0.out), by repeat (first | (with_reducible first | exact HB.out | apply below_alloc | apply pw_below_drewN | apply below_drew1 | refine below_set ?_ (IsS40.ge HI0.out)) | exact HB.out), by repeat (first | (with_reducible first | exact HK.out | apply KeepBut.set_ | apply keep_drewN | apply keep_drew | apply keep_alloc) | exact HK.out)⟩
def impl_Place.f (k : Nat) (s0_0 : List (S50)) (s0_1 : List Int) (s0_2 : List Int) (s0_3 : Int) (s0_4 : Int) : Option (Int × Int) := (impl_PageOk.f k s0_0 s0_1 s0_2 s0_3 s0_4).bind fun t => if t = true then (impl_Page_place.f k s0_0 s0_1 s0_2 s0_3 s0_4).bind fun u => some (u.1, u.2.1) else some (0, -1)
theorem impl_Place.mono : ∀ a0 a1 a2 a3 a4 k, LeO (impl_Place.f k a0 a1 a2 a3 a4) (impl_Place.f (k + 1) a0 a1 a2 a3 a4) := fun _ _ _ _ _ _ => LeO.bind (impl_PageOk.mono _ _ _ _ _ _) (fun _ => LeO.ite (LeO.bind (impl_Page_place.mono _ _ _ _ _ _) (fun _ => LeO.refl _)) (LeO.refl _))
set_option maxHeartbeats 8000000 in
set_option maxRecDepth 100000 in
theorem impl_Place.calls (k : Nat) (A0_0 : Option Addr) (c0_0 : Nat) (s0_0 : List (S50)) (A0_1 : Option Addr) (c0_1 : Nat) (s0_1 : List Int) (A0_2 : Option Addr) (c0_2 : Nat) (s0_2 : List Int) (s0_3 : Int) (s0_4 : Int) (r1 : Int) (r2 : Int) (w0 : World) (hr0_0 : Kd.C k50 w0 A0_0 s0_0.length s0_0) (hc0_0 : s0_0.length ≤ c0_0) (hr0_1 : Kd.C (Kd.int .i64) w0 A0_1 s0_1.length s0_1) (hc0_1 : s0_1.length ≤ c0_1) (hr0_2 : Kd.C (Kd.int .i64) w0 A0_2 s0_2.length s0_2) (hc0_2 : s0_2.length ≤ c0_2) (M_ : Int) (hm_ : w0.cell? ⟨0, 0, none⟩ = some (.int .i64 M_)) (h : impl_Place.f k s0_0 s0_1 s0_2 s0_3 s0_4 = some (r1, r2)) :
  Calls Try.prog 17 #[.agg #[.slice A0_0 s0_0.length c0_0, .slice A0_1 s0_1.length c0_1, .slice A0_2 s0_2.length c0_2, .int .i64 s0_3, .int .i64 s0_4]] w0 fun e w' => e = .returned (.tuple #[.int .i64 r1, .int .i64 r2]) ∧ Below w0.heap.size w0 w' := by
 have HR := Aside0.mk (And.intro hr0_0 (And.intro hc0_0 (And.intro hr0_1 (And.intro hc0_1 (And.intro hr0_2 hc0_2)))))
 have HM := Aside0.mk hm_
 clear hr0_0 hc0_0 hr0_1 hc0_1 hr0_2 hc0_2 hm_
 obtain ⟨t, ht, h⟩ := Option.bind_eq_some_iff.mp h
 have A1 := Aside0.mk ht
 clear ht
 by_cases c : t = true
 ·subst c
  rw [if_pos rfl] at h
  obtain ⟨⟨u1, u2, u3, u4⟩, hu, h⟩ := Option.bind_eq_some_iff.mp h
  obtain ⟨rfl, rfl⟩ : u1 = r1 ∧ u2 = r2 := by simpa using h
  have A2 := Aside0.mk hu
  clear hu h
  go_enter Try.func17, Try.ntmps17
  go_wp2_with (first | ((with_reducible refine gate_dst (N := 1) rfl ?_); refine box_event ?hg (N := 1) ?hd (cs := #[.slice A0_0 s0_0.length c0_0, .slice A0_1 s0_1.length c0_1, .slice A0_2 s0_2.length c0_2, .int .i64 s0_3, .int .i64 s0_4]) (t := 40) ?hr ?_; (case hd => rfl); (case hg => rfl); (case hr => first | (go_simp; done) | (go_simp; rfl)); intro g hg w hbox hb; have HI0 := Aside0.mk (pl_box hg hbox hb HR.out.1 HR.out.2.1 HR.out.2.2.1 HR.out.2.2.2.1 HR.out.2.2.2.2.1 HR.out.2.2.2.2.2); have HB := Aside0.mk hb; have HK := Aside0.mk (KeepBut.refl w g none); have HM_ := Aside0.mk HM.out; have HL := Aside0.mk hb.size; have HW0 := Aside0.mk hb.size; have hcz1_0 := cellS40_0 hbox; have hcz1_1 := cellS40_1 hbox; have hcz1_2 := cellS40_2 hbox; have hcz1_3 := cellS40_3 hbox; have hcz1_4 := cellS40_4 hbox; have hfz1_3 := blk_frozen hbox 3; have hfz1_4 := blk_frozen hbox 4; clear hb hbox hg; skip) | (go_at_call 33; (with_reducible refine (impl_PageOk.calls k A0_0 c0_0 s0_0 A0_1 c0_1 s0_1 A0_2 c0_2 s0_2 s0_3 s0_4 true _ ?s1 HR.out.2.1 ?s2 HR.out.2.2.2.1 ?s3 HR.out.2.2.2.2.2 M_ ?s4 A1.out).mono ?_); (case s1 => exact Kd.C_below HR.out.1 (by repeat (first | (with_reducible first | exact HB.out | apply below_alloc | apply pw_below_drewN | apply below_drew1 | refine below_set ?_ (IsS40.ge HI0.out)) | exact HB.out))); (case s2 => exact Kd.C_below HR.out.2.2.1 (by repeat (first | (with_reducible first | exact HB.out | apply below_alloc | apply pw_below_drewN | apply below_drew1 | refine below_set ?_ (IsS40.ge HI0.out)) | exact HB.out))); (case s3 => exact Kd.C_below HR.out.2.2.2.2.1 (by repeat (first | (with_reducible first | exact HB.out | apply below_alloc | apply pw_below_drewN | apply below_drew1 | refine below_set ?_ (IsS40.ge HI0.out)) | exact HB.out))); (case s4 => exact pw_cell_below (by repeat (first | (with_reducible first | exact HB.out | apply below_alloc | apply pw_below_drewN | apply below_drew1 | refine below_set ?_ (IsS40.ge HI0.out)) | exact HB.out)) HM.out); rintro e w2 ⟨rfl, hb⟩; have n0_ := Aside0.mk (KeepBut.trans (by repeat (first | (with_reducible first | exact HK.out | apply KeepBut.set_ | apply keep_drewN | apply keep_drew | apply keep_alloc) | exact HK.out)) (KeepBut.of_below hb g none) (.inl rfl)); have n1_ := Aside0.mk (below_step (by repeat (first | (with_reducible first | exact HB.out | apply below_alloc | apply pw_below_drewN | apply below_drew1 | refine below_set ?_ (IsS40.ge HI0.out)) | exact HB.out)) hb); have n2_ := Aside0.mk (IsS40.below (by repeat (first | (with_reducible first | exact HI0.out | apply IsS40.alloc | apply IsS40.drewN | apply IsS40.drew | apply IsS40.set_3 | apply IsS40.set_4) | exact HI0.out)) hb); clear HK HB HI0; have HK := n0_; have HB := n1_; have HI0 := n2_; clear n0_ n1_ n2_ hb) | (go_at_call 34; (with_reducible refine (impl_Page_place.calls k g s0_0 s0_1 s0_2 s0_3 s0_4 u1 u2 u3 u4 w0 _ ?side1 ?side2 M_ ?side3 A2.out).mono ?_); (case side1 => exact by repeat (first | (with_reducible first | exact HI0.out | apply IsS40.alloc | apply IsS40.drewN | apply IsS40.drew | apply IsS40.set_3 | apply IsS40.set_4) | exact HI0.out)); (case side2 => exact by repeat (first | (with_reducible first | exact HB.out | apply below_alloc | apply pw_below_drewN | apply below_drew1 | refine below_set ?_ (IsS40.ge HI0.out)) | exact HB.out)); (case side3 => exact HM.out); rintro e w3 ⟨rfl, hi, hb, hk⟩; clear HK HB HI0; have HB := Aside0.mk hb; have HI0 := Aside0.mk hi; clear hi hb hk))
  go_ret2
  exact ⟨rfl, by repeat (first | (with_reducible first | exact HB.out | apply below_alloc | apply pw_below_drewN | apply below_drew1 | refine below_set ?_ (IsS40.ge HI0.out)) | exact HB.out)⟩
 ·have c' := Bool.eq_false_iff.mpr c
  subst c'
  rw [if_neg (by simp)] at h
  obtain ⟨rfl, rfl⟩ : 0 = r1 ∧ -1 = r2 := by simpa using h
  clear h c
  go_enter Try.func17, Try.ntmps17
  go_wp2_with (first | ((with_reducible refine gate_dst (N := 1) rfl ?_); refine box_event ?hg (N := 1) ?hd (cs := #[.slice A0_0 s0_0.length c0_0, .slice A0_1 s0_1.length c0_1, .slice A0_2 s0_2.length c0_2, .int .i64 s0_3, .int .i64 s0_4]) (t := 40) ?hr ?_; (case hd => rfl); (case hg => rfl); (case hr => first | (go_simp; done) | (go_simp; rfl)); intro g hg w hbox hb; have HI0 := Aside0.mk (pl_box hg hbox hb HR.out.1 HR.out.2.1 HR.out.2.2.1 HR.out.2.2.2.1 HR.out.2.2.2.2.1 HR.out.2.2.2.2.2); have HB := Aside0.mk hb; have HK := Aside0.mk (KeepBut.refl w g none); have HM_ := Aside0.mk HM.out; have HL := Aside0.mk hb.size; have HW0 := Aside0.mk hb.size; have hcz1_0 := cellS40_0 hbox; have hcz1_1 := cellS40_1 hbox; have hcz1_2 := cellS40_2 hbox; have hcz1_3 := cellS40_3 hbox; have hcz1_4 := cellS40_4 hbox; have hfz1_3 := blk_frozen hbox 3; have hfz1_4 := blk_frozen hbox 4; clear hb hbox hg; skip) | (go_at_call 33; (with_reducible refine (impl_PageOk.calls k A0_0 c0_0 s0_0 A0_1 c0_1 s0_1 A0_2 c0_2 s0_2 s0_3 s0_4 false _ ?s1 HR.out.2.1 ?s2 HR.out.2.2.2.1 ?s3 HR.out.2.2.2.2.2 M_ ?s4 A1.out).mono ?_); (case s1 => exact Kd.C_below HR.out.1 (by repeat (first | (with_reducible first | exact HB.out | apply below_alloc | apply pw_below_drewN | apply below_drew1 | refine below_set ?_ (IsS40.ge HI0.out)) | exact HB.out))); (case s2 => exact Kd.C_below HR.out.2.2.1 (by repeat (first | (with_reducible first | exact HB.out | apply below_alloc | apply pw_below_drewN | apply below_drew1 | refine below_set ?_ (IsS40.ge HI0.out)) | exact HB.out))); (case s3 => exact Kd.C_below HR.out.2.2.2.2.1 (by repeat (first | (with_reducible first | exact HB.out | apply below_alloc | apply pw_below_drewN | apply below_drew1 | refine below_set ?_ (IsS40.ge HI0.out)) | exact HB.out))); (case s4 => exact pw_cell_below (by repeat (first | (with_reducible first | exact HB.out | apply below_alloc | apply pw_below_drewN | apply below_drew1 | refine below_set ?_ (IsS40.ge HI0.out)) | exact HB.out)) HM.out); rintro e w2 ⟨rfl, hb⟩; have n0_ := Aside0.mk (KeepBut.trans (by repeat (first | (with_reducible first | exact HK.out | apply KeepBut.set_ | apply keep_drewN | apply keep_drew | apply keep_alloc) | exact HK.out)) (KeepBut.of_below hb g none) (.inl rfl)); have n1_ := Aside0.mk (below_step (by repeat (first | (with_reducible first | exact HB.out | apply below_alloc | apply pw_below_drewN | apply below_drew1 | refine below_set ?_ (IsS40.ge HI0.out)) | exact HB.out)) hb); have n2_ := Aside0.mk (IsS40.below (by repeat (first | (with_reducible first | exact HI0.out | apply IsS40.alloc | apply IsS40.drewN | apply IsS40.drew | apply IsS40.set_3 | apply IsS40.set_4) | exact HI0.out)) hb); clear HK HB HI0; have HK := n0_; have HB := n1_; have HI0 := n2_; clear n0_ n1_ n2_ hb))
  go_ret2
  exact ⟨rfl, by repeat (first | (with_reducible first | exact HB.out | apply below_alloc | apply pw_below_drewN | apply below_drew1 | refine below_set ?_ (IsS40.ge HI0.out)) | exact HB.out)⟩


end Go.Proofs.Ytgljgbkbjlondaa.P
