-- WRITTEN BY hprint.py, this session's own program, over the kit's printer: not typed by hand; Lean checks it
import Derived.Test.YtgljgbkbjlondaaDoorPp0
import Derived.Test.YtgljgbkbjlondaaDoorPp8
import Derived.Test.YtgljgbkbjlondaaDoorPp13
import Derived.Test.YtgljgbkbjlondaaDoorPp26
namespace Go.Proofs.YtgljgbkbjlondaaDoor.P
open Go.RowKit Go.Proofs.YtgljgbkbjlondaaDoorW.PrintWords Go.Proofs.YtgljgbkbjlondaaDoorW.PrintLast Go.Proofs.YtgljgbkbjlondaaDoorW.PrintMore
attribute [local go_sem] max2_int min2_int max_two min_two max_three min_three max_four min_four   -- for this text's walks alone
set_option linter.unusedVariables false
set_option linter.unusedSimpArgs false

/-! ### impl_PageText: function 33 (by hand) -/
def impl_PageText.f (k : Nat) (l0 : List S90) : Option ByteArray := (impl_TreeOk.f k l0).bind fun u => if u = true then impl_sayItem.f k (⟨#[]⟩ : ByteArray) l0 0 else some (⟨#[]⟩ : ByteArray)
theorem impl_PageText.mono : ∀ a0 k, LeO (impl_PageText.f k a0) (impl_PageText.f (k + 1) a0) := fun _ _ => by
 unfold impl_PageText.f
 exact LeO.bind (impl_TreeOk.mono _ _) (fun _ => LeO.ite (impl_sayItem.mono _ _ _ _) (LeO.refl _))
theorem say_new (w2 : World) : Say w2 w2.heap.size (⟨#[]⟩ : ByteArray) (w2.alloc (.cells #[.pointer none, .slice none 0 0] 64 (0, 0))) (w2.alloc (.cells #[.pointer none, .slice none 0 0] 64 (0, 0))) :=
 ⟨Lib.IsBuilderF.of (Lib.fresh_isBuilder 64 5 w2), (Below.refl _ w2).alloc (Nat.le_refl _) _, Lib.OthersKept.refl _ _ _, Nat.le_refl _, by simp⟩
set_option maxHeartbeats 8000000 in
set_option maxRecDepth 100000 in
theorem impl_PageText.calls (k : Nat) (A0 : Option Addr) (c0 : Nat) (l0 : List S90) (r : ByteArray) (w : World) (hr0 : Kd.C k90 w A0 l0.length l0) (hc0 : l0.length ≤ c0) (M_ : Int) (hm_ : w.cell? ⟨0, 0, none⟩ = some (.int .i64 M_)) (h : impl_PageText.f k l0 = some r) :
  Calls Tryd.prog 33 #[.slice A0 l0.length c0] w fun e w' => e = .returned (.string r) ∧ Below w.heap.size w w' := by
 have HR0 := Aside0.mk hr0
 have HC0 := Aside0.mk hc0
 have HM := Aside0.mk hm_
 clear hr0 hc0 hm_
 have HB := Aside0.mk (Below.refl w.heap.size w)
 unfold impl_PageText.f at h
 obtain ⟨u, h2, h⟩ := Option.bind_eq_some_iff.mp h
 have A2 := Aside0.mk h2
 clear h2
 cases u with
 | false =>
  rw [if_neg Bool.false_ne_true] at h
  obtain rfl := Option.some.inj h
  go_enter Tryd.func33, Tryd.ntmps33
  go_wp2_with (go_at_call 77; (with_reducible refine (impl_TreeOk.calls k _ _ l0 false _ ?side1 HC0.out A2.out).mono ?_); (case side1 => exact HR0.out); rintro e w2 ⟨rfl, hb⟩; have n0_ := Aside0.mk (below_step ab1 hb); clear HB hb; have HB := n0_; clear n0_)
  go_ret
  exact ⟨by first | rfl | (simp; done), HB.out⟩
 | true =>
  rw [if_pos rfl] at h
  have A3 := Aside0.mk h
  clear h
  go_enter Tryd.func33, Tryd.ntmps33
  go_wp2_with (first | (go_at_call 77; (with_reducible refine (impl_TreeOk.calls k _ _ l0 true _ ?side1 HC0.out A2.out).mono ?_); (case side1 => exact HR0.out); rintro e w2 ⟨rfl, hb⟩; have n0_ := Aside0.mk (below_step ab1 hb); clear HB hb; have HB := n0_; clear n0_; have HR2 := Aside0.mk (Kd.C_below HR0.out HB.out); have HM2 := Aside0.mk (pw_cell_below HB.out HM.out)) | (go_at_call 78; (with_reducible refine (impl_sayItem.calls_b w2 w2.heap.size M_ HM2.out k (⟨#[]⟩ : ByteArray) _ _ l0 0 r _ HR2.out HC0.out ?side1 A3.out).mono ?_); (case side1 => exact say_new w2); rintro e w3 ⟨rfl, hs⟩; have HS := Aside0.mk hs; clear hs) | (go_at_call 52; (with_reducible refine (bu_String w2.heap.size w2.heap.size r.data.toList _ (by rw [← Op.strCells_bytes]; exact HS.out.bu) HS.out.below.size).mono ?_); rintro e w4 ⟨rfl, _, b4, _⟩))
  go_ret
  exact ⟨by first | rfl | rw [Op.string_back] | simp, below_step HB.out (HS.out.below.trans b4)⟩


end Go.Proofs.YtgljgbkbjlondaaDoor.P
