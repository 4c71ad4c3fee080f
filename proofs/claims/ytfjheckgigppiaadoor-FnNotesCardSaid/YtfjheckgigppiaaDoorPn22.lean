-- WRITTEN BY hprint.py, this session's own program, over the kit's printer: not typed by hand; Lean checks it
import Derived.Test.YtfjheckgigppiaaDoorPn0
import Derived.Test.YtfjheckgigppiaaDoorPn3
import Derived.Test.YtfjheckgigppiaaDoorPn11
import Derived.Test.YtfjheckgigppiaaDoorPn20
import Derived.Test.YtfjheckgigppiaaDoorPn21
namespace Go.Proofs.YtfjheckgigppiaaDoor.P
open Go.RowKit Go.Proofs.YtfjheckgigppiaaDoorW.PrintWords Go.Proofs.YtfjheckgigppiaaDoorW.PrintLast Go.Proofs.YtfjheckgigppiaaDoorW.PrintMore
attribute [local go_sem] max2_int min2_int max_two min_two max_three min_three max_four min_four   -- for this text's walks alone
set_option linter.unusedVariables false
set_option linter.unusedSimpArgs false

/-! ### impl_XmlNote: function 19 (by hand) -/
def impl_XmlNote.g (k : Nat) (a1 : Int) (z : ByteArray) (n : Int) : Option (ByteArray × Int) := (impl_NoteOk.f k (z.extract 0 (n : Int).toNat)).bind fun q => if q = true then ((strings_HasPrefix.f (z.extract (n : Int).toNat z.size) (⟨#[45, 45, 62]⟩ : ByteArray)).bind fun p => if p = true then some (z.extract 0 (n : Int).toNat, wrap64 (wrap64 (wrap64 (a1 + 4) + n) + 3)) else some ((⟨#[]⟩ : ByteArray), -1)) else some ((⟨#[]⟩ : ByteArray), -1)
def impl_XmlNote.f (k : Nat) (a0 : ByteArray) (a1 : Int) : Option (ByteArray × Int) := (impl_inRange.f a1 0 (wrap64 ((a0.size : Int) - 1))).bind fun t => if t = true then (if 0 ≤ a1 then (if a1 ≤ (a0.size : Int) then ((strings_CutPrefix.f (a0.extract (a1 : Int).toNat a0.size) (⟨#[60, 33, 45, 45]⟩ : ByteArray)).bind fun z => if z.1.size ≤ 100000000 then (if z.2 = true then (if Lib.index z.1.data.toList (⟨#[45, 45]⟩ : ByteArray).data.toList < 0 then some ((⟨#[]⟩ : ByteArray), -1) else (if Lib.index z.1.data.toList (⟨#[45, 45]⟩ : ByteArray).data.toList ≤ (z.1.size : Int) then impl_XmlNote.g k a1 z.1 (Lib.index z.1.data.toList (⟨#[45, 45]⟩ : ByteArray).data.toList) else none)) else some ((⟨#[]⟩ : ByteArray), -1)) else none) else none) else none) else some ((⟨#[]⟩ : ByteArray), -1)
theorem impl_XmlNote.mono : ∀ a0 a1 k, LeO (impl_XmlNote.f k a0 a1) (impl_XmlNote.f (k + 1) a0 a1) := fun a0 a1 k => by
 unfold impl_XmlNote.f impl_XmlNote.g
 repeat' first
  | (with_reducible exact impl_NoteOk.mono _ _)
  | (with_reducible exact LeO.refl _)
  | (with_reducible exact LeO.none _)
  | (with_reducible refine LeO.ite ?_ ?_)
  | (with_reducible refine LeO.bind ?_ (fun _ => ?_))
set_option maxHeartbeats 16000000 in
set_option maxRecDepth 100000 in
theorem impl_XmlNote.calls_m (k : Nat) (a0 : ByteArray) (a1 : Int) (r1 : ByteArray) (r2 : Int) (m : Int) (w : World) (hm : w.cell? ⟨0, 0, none⟩ = some (.int .i64 m)) (h : impl_XmlNote.f k a0 a1 = some (r1, r2)) :
  Calls Tryd.prog 19 #[.string a0, .int .i64 a1] w fun e w' => e = .returned (.tuple #[.string r1, .int .i64 r2]) ∧ Below w.heap.size w w' := by
 have HB := Aside0.mk (Below.refl w.heap.size w)
 have M0 := Aside0.mk hm
 clear hm
 unfold impl_XmlNote.f at h
 obtain ⟨t, h1, h⟩ := Option.bind_eq_some_iff.mp h
 have HR := Aside0.mk h1
 clear h1
 cases t with
 | false =>
  rw [if_neg (by decide)] at h
  obtain ⟨rfl, rfl⟩ := Prod.mk.inj (Option.some.inj h)
  clear h
  go_enter Tryd.func19, Tryd.ntmps19
  go_wp2_with (go_at_call 37; (with_reducible refine (impl_inRange.calls a1 0 (wrap64 ((a0.size : Int) - 1)) false _ HR.out).mono ?_); rintro e w1 ⟨rfl, ⟨nd, rfl⟩⟩)
  go_wp2
  go_ret2
  exact ⟨rfl, by repeat (first | (with_reducible first | exact HB.out | apply below_alloc | apply pw_below_drewN | apply below_drew1) | exact HB.out)⟩
 | true =>
  rw [if_pos rfl] at h
  by_cases c1 : 0 ≤ a1
  case neg => rw [if_neg c1] at h; cases h
  rw [if_pos c1] at h
  by_cases c2 : a1 ≤ (a0.size : Int)
  case neg => rw [if_neg c2] at h; cases h
  rw [if_pos c2] at h
  have c1b0 := eq_true c1
  have c1b1 := decide_eq_true c1
  have c2b0 := eq_true c2
  have c2b1 := decide_eq_true c2
  clear c1 c2
  obtain ⟨⟨z, ok⟩, h1, h⟩ := Option.bind_eq_some_iff.mp h
  have A1 := Aside0.mk h1
  clear h1
  by_cases c3 : z.size ≤ 100000000
  case neg => rw [if_neg c3] at h; cases h
  rw [if_pos c3] at h
  have Z1 := Aside0.mk c3
  clear c3
  obtain ⟨n, hn⟩ : ∃ n, Lib.index z.data.toList (⟨#[45, 45]⟩ : ByteArray).data.toList = n := ⟨_, rfl⟩
  replace h : (if ok = true then (if n < 0 then some ((⟨#[]⟩ : ByteArray), -1) else (if n ≤ (z.size : Int) then impl_XmlNote.g k a1 z n else none)) else some ((⟨#[]⟩ : ByteArray), -1)) = some (r1, r2) := by rw [← hn]; exact h
  have N1 := Aside0.mk hn
  clear hn
  cases ok with
  | false =>
   rw [if_neg (by decide)] at h
   obtain ⟨rfl, rfl⟩ := Prod.mk.inj (Option.some.inj h)
   clear h
   go_enter Tryd.func19, Tryd.ntmps19
   go_wp2_with (go_at_call 37; (with_reducible refine (impl_inRange.calls a1 0 (wrap64 ((a0.size : Int) - 1)) true _ HR.out).mono ?_); rintro e w1 ⟨rfl, ⟨nd, rfl⟩⟩)
   go_wp2_with (go_at_call 38; (with_reducible refine (strings_CutPrefix.calls (a0.extract (a1 : Int).toNat a0.size) (⟨#[60, 33, 45, 45]⟩ : ByteArray) z false _ A1.out).mono ?_); rintro e w2 ⟨rfl, ⟨nd2, rfl⟩⟩)
   go_wp2_with (go_at_call 39; (with_reducible refine (bu_Index z (⟨#[45, 45]⟩ : ByteArray) n m _ N1.out Z1.out (pw_cell_below (pw_below_drewN (Below.refl _ _) _) M0.out)).mono ?_); rintro e w3 ⟨rfl, rfl⟩)
   go_wp2
   go_ret2
   exact ⟨rfl, by repeat (first | (with_reducible first | exact HB.out | apply below_alloc | apply pw_below_drewN | apply below_drew1) | exact HB.out)⟩
  | true =>
   rw [if_pos rfl] at h
   by_cases c4 : n < 0
   ·rw [if_pos c4] at h
    obtain ⟨rfl, rfl⟩ := Prod.mk.inj (Option.some.inj h)
    clear h
    have c4b0 := decide_eq_true c4
    clear c4
    go_enter Tryd.func19, Tryd.ntmps19
    go_wp2_with (go_at_call 37; (with_reducible refine (impl_inRange.calls a1 0 (wrap64 ((a0.size : Int) - 1)) true _ HR.out).mono ?_); rintro e w1 ⟨rfl, ⟨nd, rfl⟩⟩)
    go_wp2_with (go_at_call 38; (with_reducible refine (strings_CutPrefix.calls (a0.extract (a1 : Int).toNat a0.size) (⟨#[60, 33, 45, 45]⟩ : ByteArray) z true _ A1.out).mono ?_); rintro e w2 ⟨rfl, ⟨nd2, rfl⟩⟩)
    go_wp2_with (go_at_call 39; (with_reducible refine (bu_Index z (⟨#[45, 45]⟩ : ByteArray) n m _ N1.out Z1.out (pw_cell_below (pw_below_drewN (Below.refl _ _) _) M0.out)).mono ?_); rintro e w3 ⟨rfl, rfl⟩)
    go_wp2
    go_ret2
    exact ⟨rfl, by repeat (first | (with_reducible first | exact HB.out | apply below_alloc | apply pw_below_drewN | apply below_drew1) | exact HB.out)⟩
   rw [if_neg c4] at h
   by_cases c5 : n ≤ (z.size : Int)
   case neg => rw [if_neg c5] at h; cases h
   rw [if_pos c5] at h
   have c4b0 := decide_eq_false c4
   have c6b0 := eq_true (show 0 ≤ n by omega)
   have c6b1 : decide (0 ≤ n) = true := decide_eq_true (show 0 ≤ n by omega)
   have c5b0 := eq_true c5
   have c5b1 := decide_eq_true c5
   clear c4 c5
   unfold impl_XmlNote.g at h
   obtain ⟨q, h1, h⟩ := Option.bind_eq_some_iff.mp h
   have A2 := Aside0.mk h1
   clear h1
   cases q with
   | false =>
    rw [if_neg (by decide)] at h
    obtain ⟨rfl, rfl⟩ := Prod.mk.inj (Option.some.inj h)
    clear h
    go_enter Tryd.func19, Tryd.ntmps19
    go_wp2_with (go_at_call 37; (with_reducible refine (impl_inRange.calls a1 0 (wrap64 ((a0.size : Int) - 1)) true _ HR.out).mono ?_); rintro e w1 ⟨rfl, ⟨nd, rfl⟩⟩)
    go_wp2_with (go_at_call 38; (with_reducible refine (strings_CutPrefix.calls (a0.extract (a1 : Int).toNat a0.size) (⟨#[60, 33, 45, 45]⟩ : ByteArray) z true _ A1.out).mono ?_); rintro e w2 ⟨rfl, ⟨nd2, rfl⟩⟩)
    go_wp2_with (go_at_call 39; (with_reducible refine (bu_Index z (⟨#[45, 45]⟩ : ByteArray) n m _ N1.out Z1.out (pw_cell_below (pw_below_drewN (Below.refl _ _) _) M0.out)).mono ?_); rintro e w3 ⟨rfl, rfl⟩)
    go_wp2_with (go_at_call 17; (with_reducible refine (impl_NoteOk.calls_m k (z.extract 0 (n : Int).toNat) false m _ (pw_cell_below (pw_below_drewN (Below.refl _ _) _) M0.out) A2.out).mono ?_); rintro e w4 ⟨rfl, b1⟩)
    have B1 := Aside0.mk (below_step (pw_below_drewN HB.out _) b1)
    clear b1
    go_wp2
    go_ret2
    exact ⟨rfl, by repeat (first | (with_reducible first | exact B1.out | apply below_alloc | apply pw_below_drewN | apply below_drew1) | exact B1.out)⟩
   | true =>
    rw [if_pos rfl] at h
    obtain ⟨p, h1, h⟩ := Option.bind_eq_some_iff.mp h
    have A3 := Aside0.mk h1
    clear h1
    cases p with
    | false =>
     rw [if_neg (by decide)] at h
     obtain ⟨rfl, rfl⟩ := Prod.mk.inj (Option.some.inj h)
     clear h
     go_enter Tryd.func19, Tryd.ntmps19
     go_wp2_with (go_at_call 37; (with_reducible refine (impl_inRange.calls a1 0 (wrap64 ((a0.size : Int) - 1)) true _ HR.out).mono ?_); rintro e w1 ⟨rfl, ⟨nd, rfl⟩⟩)
     go_wp2_with (go_at_call 38; (with_reducible refine (strings_CutPrefix.calls (a0.extract (a1 : Int).toNat a0.size) (⟨#[60, 33, 45, 45]⟩ : ByteArray) z true _ A1.out).mono ?_); rintro e w2 ⟨rfl, ⟨nd2, rfl⟩⟩)
     go_wp2_with (go_at_call 39; (with_reducible refine (bu_Index z (⟨#[45, 45]⟩ : ByteArray) n m _ N1.out Z1.out (pw_cell_below (pw_below_drewN (Below.refl _ _) _) M0.out)).mono ?_); rintro e w3 ⟨rfl, rfl⟩)
     go_wp2_with (go_at_call 17; (with_reducible refine (impl_NoteOk.calls_m k (z.extract 0 (n : Int).toNat) true m _ (pw_cell_below (pw_below_drewN (Below.refl _ _) _) M0.out) A2.out).mono ?_); rintro e w4 ⟨rfl, b1⟩)
     have B1 := Aside0.mk (below_step (pw_below_drewN HB.out _) b1)
     clear b1
     go_wp2_with (go_at_call 40; (with_reducible refine (strings_HasPrefix.calls (z.extract (n : Int).toNat z.size) (⟨#[45, 45, 62]⟩ : ByteArray) false _ A3.out).mono ?_); rintro e w5 ⟨rfl, ⟨nd3, rfl⟩⟩)
     go_wp2
     go_ret2
     exact ⟨rfl, by repeat (first | (with_reducible first | exact B1.out | apply below_alloc | apply pw_below_drewN | apply below_drew1) | exact B1.out)⟩
    | true =>
     rw [if_pos rfl] at h
     obtain ⟨rfl, rfl⟩ := Prod.mk.inj (Option.some.inj h)
     clear h
     go_enter Tryd.func19, Tryd.ntmps19
     go_wp2_with (go_at_call 37; (with_reducible refine (impl_inRange.calls a1 0 (wrap64 ((a0.size : Int) - 1)) true _ HR.out).mono ?_); rintro e w1 ⟨rfl, ⟨nd, rfl⟩⟩)
     go_wp2_with (go_at_call 38; (with_reducible refine (strings_CutPrefix.calls (a0.extract (a1 : Int).toNat a0.size) (⟨#[60, 33, 45, 45]⟩ : ByteArray) z true _ A1.out).mono ?_); rintro e w2 ⟨rfl, ⟨nd2, rfl⟩⟩)
     go_wp2_with (go_at_call 39; (with_reducible refine (bu_Index z (⟨#[45, 45]⟩ : ByteArray) n m _ N1.out Z1.out (pw_cell_below (pw_below_drewN (Below.refl _ _) _) M0.out)).mono ?_); rintro e w3 ⟨rfl, rfl⟩)
     go_wp2_with (go_at_call 17; (with_reducible refine (impl_NoteOk.calls_m k (z.extract 0 (n : Int).toNat) true m _ (pw_cell_below (pw_below_drewN (Below.refl _ _) _) M0.out) A2.out).mono ?_); rintro e w4 ⟨rfl, b1⟩)
     have B1 := Aside0.mk (below_step (pw_below_drewN HB.out _) b1)
     clear b1
     go_wp2_with (go_at_call 40; (with_reducible refine (strings_HasPrefix.calls (z.extract (n : Int).toNat z.size) (⟨#[45, 45, 62]⟩ : ByteArray) true _ A3.out).mono ?_); rintro e w5 ⟨rfl, ⟨nd3, rfl⟩⟩)
     go_wp2
     go_ret2
     exact ⟨rfl, by repeat (first | (with_reducible first | exact B1.out | apply below_alloc | apply pw_below_drewN | apply below_drew1) | exact B1.out)⟩
theorem impl_XmlNote.calls (k : Nat) (a0 : ByteArray) (a1 : Int) (r1 : ByteArray) (r2 : Int) (w : World) (M_ : Int) (hm_ : w.cell? ⟨0, 0, none⟩ = some (.int .i64 M_)) (h : impl_XmlNote.f k a0 a1 = some (r1, r2)) :
  Calls Tryd.prog 19 #[.string a0, .int .i64 a1] w fun e w' => e = .returned (.tuple #[.string r1, .int .i64 r2]) ∧ Below w.heap.size w w' := impl_XmlNote.calls_m k a0 a1 r1 r2 M_ w hm_ h


end Go.Proofs.YtfjheckgigppiaaDoor.P
