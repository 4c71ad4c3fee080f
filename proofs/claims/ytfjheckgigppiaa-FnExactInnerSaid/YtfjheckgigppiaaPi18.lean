-- WRITTEN BY hprint.py, this session's own program, over the kit's printer: not typed by hand; Lean checks it
import Derived.Test.YtfjheckgigppiaaPi0
import Derived.Test.YtfjheckgigppiaaPi8
import Derived.Test.YtfjheckgigppiaaPi9
import Derived.Test.YtfjheckgigppiaaPi13
import Derived.Test.YtfjheckgigppiaaPi17
namespace Go.Proofs.Ytfjheckgigppiaa.P
open Go.RowKit Go.Proofs.YtfjheckgigppiaaW.PrintWords Go.Proofs.YtfjheckgigppiaaW.PrintLast Go.Proofs.YtfjheckgigppiaaW.PrintMore
attribute [local go_sem] max2_int min2_int max_two min_two max_three min_three max_four min_four   -- for this text's walks alone
set_option linter.unusedVariables false
set_option linter.unusedSimpArgs false

/-! ### impl_Inner: function 25 (by hand) -/
mutual
theorem impl_textsUnder.mono_f : ∀ k a0 a1 a2, LeO (impl_textsUnder.f k a0 a1 a2) (impl_textsUnder.f (k + 1) a0 a1 a2)
 | 0, _, _, _ => fun r h => by simp [impl_textsUnder.f] at h
 | k + 1, a0, a1, a2 => by
  simp only [impl_textsUnder.f]
  exact LeO.ite (LeO.ite (LeO.ite (LeO.ite (impl_textsUnder.mono_l k _ _ _ _) (LeO.none _)) (impl_textsUnder.mono_l k _ _ _ _)) (LeO.none _)) (LeO.none _)
theorem impl_textsUnder.mono_l : ∀ k a0 a1 a2 a3, LeO (impl_textsUnder.l0 k a0 a1 a2 a3) (impl_textsUnder.l0 (k + 1) a0 a1 a2 a3)
 | 0, _, _, _, _ => fun r h => by simp [impl_textsUnder.l0] at h
 | k + 1, a0, a1, a2, a3 => by
  simp only [impl_textsUnder.l0]
  exact LeO.ite (LeO.ite (LeO.bind (impl_textsUnder.mono_f k _ _ _) (fun _ => impl_textsUnder.mono_l k _ _ _ _)) (LeO.none _)) (LeO.refl _)
end
def impl_Inner.f (k : Nat) (l0 : List S70) (a1 : Int) : Option ByteArray := (impl_inRange.f a1 0 (wrap64 ((l0.length : Int) - 1))).bind fun t => if t = true then ((impl_TreeOk.f k l0).bind fun u => if u = true then impl_textsUnder.f k l0 a1 (⟨#[]⟩ : ByteArray) else some (⟨#[]⟩ : ByteArray)) else some (⟨#[]⟩ : ByteArray)
theorem impl_Inner.mono : ∀ a0 a1 k, LeO (impl_Inner.f k a0 a1) (impl_Inner.f (k + 1) a0 a1) := fun _ _ _ => by
 unfold impl_Inner.f
 exact LeO.bind (LeO.refl _) (fun _ => LeO.ite (LeO.bind (impl_TreeOk.mono _ _) (fun _ => LeO.ite (impl_textsUnder.mono_f _ _ _ _) (LeO.refl _))) (LeO.refl _))
set_option maxHeartbeats 8000000 in
set_option maxRecDepth 100000 in
theorem impl_Inner.calls (k : Nat) (A0 : Option Addr) (c0 : Nat) (l0 : List S70) (a1 : Int) (r : ByteArray) (w : World) (hr0 : Kd.C k70 w A0 l0.length l0) (hc0 : l0.length ≤ c0) (h : impl_Inner.f k l0 a1 = some r) :
  Calls Try.prog 25 #[.slice A0 l0.length c0, .int .i64 a1] w fun e w' => e = .returned (.string r) ∧ Below w.heap.size w w' := by
 have HR0 := Aside0.mk hr0
 have HC0 := Aside0.mk hc0
 clear hr0 hc0
 have HB := Aside0.mk (Below.refl w.heap.size w)
 unfold impl_Inner.f at h
 obtain ⟨t, h1, h⟩ := Option.bind_eq_some_iff.mp h
 have A1 := Aside0.mk h1
 clear h1
 cases t with
 | false =>
  rw [if_neg Bool.false_ne_true] at h
  obtain rfl := Option.some.inj h
  go_enter Try.func25, Try.ntmps25
  go_wp2_with (go_at_call 67; (with_reducible refine (impl_inRange.calls a1 0 (wrap64 ((l0.length : Int) - 1)) false _ A1.out).mono ?_); rintro e w' ⟨rfl, ⟨nd, rfl⟩⟩)
  go_ret
  exact ⟨by first | rfl | (simp; done), by repeat (first | exact Below.refl _ _ | apply pw_below_drewN)⟩
 | true =>
  rw [if_pos rfl] at h
  obtain ⟨u, h2, h⟩ := Option.bind_eq_some_iff.mp h
  have A2 := Aside0.mk h2
  clear h2
  cases u with
  | false =>
   rw [if_neg Bool.false_ne_true] at h
   obtain rfl := Option.some.inj h
   go_enter Try.func25, Try.ntmps25
   go_wp2_with (first | (go_at_call 67; (with_reducible refine (impl_inRange.calls a1 0 (wrap64 ((l0.length : Int) - 1)) true _ A1.out).mono ?_); rintro e w' ⟨rfl, ⟨nd, rfl⟩⟩) | (go_at_call 62; (with_reducible refine (impl_TreeOk.calls k _ _ l0 false _ ?side1 HC0.out A2.out).mono ?_); (case side1 => repeat (first | exact HR0.out | (with_reducible refine Kd.C_alloc ?_ _) | (with_reducible refine Kd.C_drewN ?_ _) | (with_reducible refine Kd.C_drew ?_))); rintro e w2 ⟨rfl, hb⟩; have n0_ := Aside0.mk (below_step (by repeat (first | (with_reducible first | exact HB.out | apply below_alloc | apply pw_below_drewN | apply below_drew1) | exact HB.out)) hb); clear HB hb; have HB := n0_; clear n0_))
   go_ret
   exact ⟨by first | rfl | (simp; done), HB.out⟩
  | true =>
   rw [if_pos rfl] at h
   have A3 := Aside0.mk h
   clear h
   go_enter Try.func25, Try.ntmps25
   go_wp2_with (first | (go_at_call 67; (with_reducible refine (impl_inRange.calls a1 0 (wrap64 ((l0.length : Int) - 1)) true _ A1.out).mono ?_); rintro e w' ⟨rfl, ⟨nd, rfl⟩⟩) | (go_at_call 62; (with_reducible refine (impl_TreeOk.calls k _ _ l0 true _ ?side1 HC0.out A2.out).mono ?_); (case side1 => repeat (first | exact HR0.out | (with_reducible refine Kd.C_alloc ?_ _) | (with_reducible refine Kd.C_drewN ?_ _) | (with_reducible refine Kd.C_drew ?_))); rintro e w2 ⟨rfl, hb⟩; have n0_ := Aside0.mk (below_step (by repeat (first | (with_reducible first | exact HB.out | apply below_alloc | apply pw_below_drewN | apply below_drew1) | exact HB.out)) hb); clear HB hb; have HB := n0_; clear n0_; have HR2 := Aside0.mk (Kd.C_below HR0.out HB.out)) | (go_at_call 68; (with_reducible refine (impl_textsUnder.calls_b w2 w2.heap.size k _ _ l0 a1 (⟨#[]⟩ : ByteArray) r _ HR2.out HC0.out ?side1 ?side2 A3.out).mono ?_); (case side1 => exact (Below.refl _ w2).alloc (Nat.le_refl _) _); (case side2 => exact Lib.IsBuilderF.of (Lib.fresh_isBuilder 54 5 w2)); rintro e w3 ⟨rfl, h3, b3⟩; have H3 := Aside0.mk h3; have B3 := Aside0.mk b3; clear h3 b3) | (go_at_call 50; (with_reducible refine (bu_String w2.heap.size w2.heap.size r.data.toList _ (by rw [← Op.strCells_bytes]; exact H3.out) B3.out.size).mono ?_); rintro e w4 ⟨rfl, _, b4, _⟩))
   go_ret
   exact ⟨by first | rfl | rw [Op.string_back] | simp, below_step HB.out (B3.out.trans b4)⟩


end Go.Proofs.Ytfjheckgigppiaa.P
