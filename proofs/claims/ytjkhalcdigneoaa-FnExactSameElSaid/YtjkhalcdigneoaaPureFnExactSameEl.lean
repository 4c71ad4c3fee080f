/- The program's SameEl and the reference's tell the same for every two trees of elements: the pure statement of the law FnExactSameEl. No conditions but the row's. -/
import Derived.Test.YtjkhalcdigneoaaElBase
import Derived.Test.YtjkhalcdigneoaaPe7
namespace Go.Proofs.Ytjkhalcdigneoaa.Pure
open Go.RowKit Go.Proofs.Ytjkhalcdigneoaa Go.Proofs.Ytjkhalcdigneoaa.P Go.Proofs.Ytjkhalcdigneoaa.El Go.Proofs.YtjkhalcdigneoaaW.PrintWords Go.Proofs.YtjkhalcdigneoaaW.PrintLast

theorem Attrs_loop (xs ys : List S53) (hx : xs.length ≤ 1048576) (hxy : xs.length = ys.length) : ∀ (d j : Nat), xs.length - j = d → j ≤ xs.length →
    ∃ b, Ev (fun k => spec_l6Attrs.l0 k xs ys j) b ∧ Ev (fun k => impl_Attr.l0 k xs ys xs.length j) b := by
  intro d
  induction d with
  | zero =>
    intro j hd hj
    refine ⟨true, Ev.step (f := fun k => spec_l6Attrs.j1 k xs ys j false) (fun k => ?_) (Ev.here fun k => ?_), Ev.here fun k => ?_⟩
    · simp only [spec_l6Attrs.l0]; rw [if_neg (by omega)]
    · simp only [spec_l6Attrs.j1]; rw [if_neg (by decide), hxy]; simp
    · simp only [impl_Attr.l0]; rw [if_neg (by omega)]
  | succ d ih =>
    intro j hd hj
    have hil : j < xs.length := by omega
    obtain ⟨b, e1, e2⟩ := ih (j + 1) (by omega) (by omega)
    have hw : wrap64 ((j : Int) + 1) = ((j + 1 : Nat) : Int) := by rw [w64 (by omega) (by omega)]; rfl
    have h1 : ∀ k, spec_l6Attrs.l0 (k + 1) xs ys j = spec_l6Attrs.j1 k xs ys j true := fun k => by
      simp only [spec_l6Attrs.l0]; rw [if_pos (by omega), decide_eq_true (by omega)]
    by_cases c : (!((rd_T53 xs j).f0.toList == (rd_T53 ys j).f0.toList) || !((rd_T53 xs j).f1.toList == (rd_T53 ys j).f1.toList)) = true
    · refine ⟨false, Ev.step h1 (Ev.here fun k => ?_), Ev.here fun k => ?_⟩
      · simp only [spec_l6Attrs.j1]; rw [if_pos True.intro, if_pos (by omega), if_pos (by omega), if_pos (by omega), if_pos c]
      · simp only [impl_Attr.l0]; rw [if_pos (by omega), if_pos (by omega), if_pos (by omega), if_pos (by omega), if_pos c]
    · refine ⟨b, Ev.step h1 (Ev.step (fun k => ?_) e1), Ev.step (fun k => ?_) e2⟩
      · simp only [spec_l6Attrs.j1]; rw [if_pos True.intro, if_pos (by omega), if_pos (by omega), if_pos (by omega), if_neg c, hw]
      · simp only [impl_Attr.l0]; rw [if_pos (by omega), if_pos (by omega), if_pos (by omega), if_pos (by omega), if_neg c, hw]
theorem Attrs_apart (xs ys : List S53) (hx : xs.length ≤ 1048576) (hxy : xs.length ≠ ys.length) : ∀ (d j : Nat), xs.length - j = d → j ≤ xs.length →
    Ev (fun k => spec_l6Attrs.l0 k xs ys j) false := by
  intro d
  have hend : ∀ j : Nat, Ev (fun k => spec_l6Attrs.j1 k xs ys j false) false := fun j => Ev.here fun k => by
    simp only [spec_l6Attrs.j1]; rw [if_neg (by decide)]
    congr 1
    rw [beq_eq_false_iff_ne]; omega
  induction d with
  | zero =>
    intro j hd hj
    refine Ev.step (fun k => ?_) (hend j)
    simp only [spec_l6Attrs.l0]; rw [if_neg (by omega)]
  | succ d ih =>
    intro j hd hj
    have hil : j < xs.length := by omega
    have hw : wrap64 ((j : Int) + 1) = ((j + 1 : Nat) : Int) := by rw [w64 (by omega) (by omega)]; rfl
    by_cases cy : j < ys.length
    · have h1 : ∀ k, spec_l6Attrs.l0 (k + 1) xs ys j = spec_l6Attrs.j1 k xs ys j true := fun k => by
        simp only [spec_l6Attrs.l0]; rw [if_pos (by omega), decide_eq_true (by omega)]
      by_cases c : (!((rd_T53 xs j).f0.toList == (rd_T53 ys j).f0.toList) || !((rd_T53 xs j).f1.toList == (rd_T53 ys j).f1.toList)) = true
      · refine Ev.step h1 (Ev.here fun k => ?_)
        simp only [spec_l6Attrs.j1]; rw [if_pos True.intro, if_pos (by omega), if_pos (by omega), if_pos (by omega), if_pos c]
      · refine Ev.step h1 (Ev.step (fun k => ?_) (ih (j + 1) (by omega) (by omega)))
        simp only [spec_l6Attrs.j1]; rw [if_pos True.intro, if_pos (by omega), if_pos (by omega), if_pos (by omega), if_neg c, hw]
    · refine Ev.step (fun k => ?_) (hend j)
      simp only [spec_l6Attrs.l0]; rw [if_pos (by omega), decide_eq_false (by omega)]
theorem Attrs_same (xs ys : List S53) (hx : xs.length ≤ 1048576) : ∃ b, Ev (fun k => spec_l6Attrs.f k xs ys) b ∧ Ev (fun k => impl_Attr.f k xs ys) b := by
  unfold spec_l6Attrs.f impl_Attr.f
  by_cases c : xs.length = ys.length
  · obtain ⟨b, e1, e2⟩ := Attrs_loop xs ys hx c xs.length 0 (by omega) (by omega)
    exact ⟨b, e1, Ev.ite_pos (by omega) e2⟩
  · exact ⟨false, Attrs_apart xs ys hx c xs.length 0 (by omega) (by omega), Ev.ite_neg (by omega) (Ev.const fun _ => rfl)⟩

theorem SameEl_loop (x y : S33) (hlen : x.f5.length ≤ 1048576) (hxy : x.f5.length = y.f5.length)
    (hx : ∀ z ∈ x.f5, ∀ u : S33, ∃ b, Ev (fun k => spec_SameEl.f k z.f0 z.f1 z.f2 z.f3 z.f4 z.f5 u.f0 u.f1 u.f2 u.f3 u.f4 u.f5) b ∧ Ev (fun k => impl_SameEl.f k z.f0 z.f1 z.f2 z.f3 z.f4 z.f5 u.f0 u.f1 u.f2 u.f3 u.f4 u.f5) b) :
    ∀ (d j : Nat), x.f5.length - j = d → j ≤ x.f5.length →
    ∃ b, Ev (fun k => spec_SameEl.l0 k j x.f0 x.f1 x.f2 x.f3 x.f4 x.f5 y.f0 y.f1 y.f2 y.f3 y.f4 y.f5) b ∧ Ev (fun k => impl_El.l0 k y.f5 x.f5 x.f5.length j) b := by
  intro d
  induction d with
  | zero =>
    intro j hd hj
    refine ⟨true, Ev.here fun k => ?_, Ev.here fun k => ?_⟩
    · simp only [spec_SameEl.l0]; rw [if_neg (by omega)]
    · simp only [impl_El.l0]; rw [if_neg (by omega)]
  | succ d ih =>
    intro j hd hj
    have hil : j < x.f5.length := by omega
    have hil2 : j < y.f5.length := by omega
    obtain ⟨t, e1, e2⟩ := hx x.f5[j] (List.getElem_mem hil) y.f5[j]
    have hr1 : rd_T33 x.f5 (j : Int) = x.f5[j] := rdT x.f5 _ j hil
    have hr2 : rd_T33 y.f5 (j : Int) = y.f5[j] := rdT y.f5 _ j hil2
    obtain ⟨b, er1, er2⟩ := ih (j + 1) (by omega) (by omega)
    have hw : wrap64 ((j : Int) + 1) = ((j + 1 : Nat) : Int) := by rw [w64 (by omega) (by omega)]; rfl
    by_cases c : t = true
    · refine ⟨b, Ev.step (fun k => by simp only [spec_SameEl.l0]; rw [if_pos (by omega), if_pos (by omega), if_pos (by omega), hr1, hr2, hw]) (Ev.bind e1 (Ev.ite_pos c er1)), Ev.step (fun k => by simp only [impl_El.l0]; rw [if_pos (by omega), if_pos (by omega), if_pos (by omega), if_pos (by omega), hr1, hr2, hw]) (Ev.bind e2 (Ev.ite_pos c er2))⟩
    · refine ⟨false, Ev.step (fun k => by simp only [spec_SameEl.l0]; rw [if_pos (by omega), if_pos (by omega), if_pos (by omega), hr1, hr2, hw]) (Ev.bind e1 (Ev.ite_neg c (Ev.const fun _ => rfl))), Ev.step (fun k => by simp only [impl_El.l0]; rw [if_pos (by omega), if_pos (by omega), if_pos (by omega), if_pos (by omega), hr1, hr2, hw]) (Ev.bind e2 (Ev.ite_neg c (Ev.const fun _ => rfl)))⟩

set_option maxHeartbeats 1000000 in
theorem SameEl_same : ∀ (m : Nat) (x y : S33), G33 1048576 m x → ∃ b, Ev (fun k => spec_SameEl.f k x.f0 x.f1 x.f2 x.f3 x.f4 x.f5 y.f0 y.f1 y.f2 y.f3 y.f4 y.f5) b ∧ Ev (fun k => impl_SameEl.f k x.f0 x.f1 x.f2 x.f3 x.f4 x.f5 y.f0 y.f1 y.f2 y.f3 y.f4 y.f5) b := by
  intro m
  induction m with
  | zero => intro x y hy; exact hy.elim
  | succ m ih =>
    intro x y hx
    obtain ⟨_, _, _, ⟨hl3, _⟩, _, hl5, hg5⟩ := hx
    obtain ⟨q, q1, q2⟩ := Attrs_same x.f3 y.f3 hl3
    have S0 : Ev (fun k => spec_SameEl.j0 k true x.f0 x.f1 x.f2 x.f3 x.f4 x.f5 y.f0 y.f1 y.f2 y.f3 y.f4 y.f5) false := Ev.here fun k => by simp only [spec_SameEl.j0]; rw [if_pos True.intro]
    have I0 : Ev (fun k => impl_SameEl.j0 k true x.f0 x.f1 x.f2 x.f3 x.f4 x.f5 y.f0 y.f1 y.f2 y.f3 y.f4 y.f5) false := Ev.here fun k => by simp only [impl_SameEl.j0]; rw [if_pos True.intro]
    by_cases c0 : x.f0 = y.f0
    case neg => exact ⟨false, Ev.step (fun k => by simp only [spec_SameEl.f]; rw [if_neg c0]) S0, Ev.step (fun k => by simp only [impl_SameEl.f]; rw [if_neg c0]) I0⟩
    by_cases c1 : x.f1 = y.f1
    case neg => exact ⟨false, Ev.step (fun k => by simp only [spec_SameEl.f]; rw [if_pos c0, if_neg c1]) S0, Ev.step (fun k => by simp only [impl_SameEl.f]; rw [if_pos c0, if_neg c1]) I0⟩
    by_cases c2 : x.f2.toList = y.f2.toList
    case neg => exact ⟨false, Ev.step (fun k => by simp only [spec_SameEl.f]; rw [if_pos c0, if_pos c1, if_neg c2]) S0, Ev.step (fun k => by simp only [impl_SameEl.f]; rw [if_pos c0, if_pos c1, if_neg c2]) I0⟩
    by_cases c4 : x.f4.toList = y.f4.toList
    case neg => exact ⟨false, Ev.step (fun k => by simp only [spec_SameEl.f]; rw [if_pos c0, if_pos c1, if_pos c2, if_neg c4]) S0, Ev.step (fun k => by simp only [impl_SameEl.f]; rw [if_pos c0, if_pos c1, if_pos c2, bne_iff_ne.mpr c4]) I0⟩
    have hi : ∀ k, impl_SameEl.f (k + 1) x.f0 x.f1 x.f2 x.f3 x.f4 x.f5 y.f0 y.f1 y.f2 y.f3 y.f4 y.f5 = impl_SameEl.j0 k false x.f0 x.f1 x.f2 x.f3 x.f4 x.f5 y.f0 y.f1 y.f2 y.f3 y.f4 y.f5 := fun k => by
      simp only [impl_SameEl.f]; rw [if_pos c0, if_pos c1, if_pos c2, bne_eq_false_iff_eq.mpr c4]
    have hj : ∀ k, impl_SameEl.j0 (k + 1) false x.f0 x.f1 x.f2 x.f3 x.f4 x.f5 y.f0 y.f1 y.f2 y.f3 y.f4 y.f5 = (impl_Attr.f k x.f3 y.f3).bind fun t => if t = true then (impl_El.f k x.f5 y.f5).bind fun u => some u else some false := fun k => by
      simp only [impl_SameEl.j0]; rw [if_neg (by decide)]
    by_cases c5 : x.f5.length = y.f5.length
    case neg =>
      have hel : Ev (fun k => impl_El.f k x.f5 y.f5) false := Ev.here fun k => by simp only [impl_El.f]; rw [if_neg (by omega)]
      refine ⟨false, Ev.step (fun k => by simp only [spec_SameEl.f]; rw [if_pos c0, if_pos c1, if_pos c2, if_pos c4, if_neg (by omega)]) S0, Ev.step hi (Ev.step hj (Ev.bind q2 ?_))⟩
      by_cases cq : q = true
      · exact Ev.ite_pos cq (Ev.bind hel (Ev.const fun _ => rfl))
      · exact Ev.ite_neg cq (Ev.const fun _ => rfl)
    obtain ⟨b, e1, e2⟩ := SameEl_loop x y hl5 c5 (fun z hz u => ih z u (hg5 z hz)) x.f5.length 0 (by omega) (by omega)
    have hel : Ev (fun k => impl_El.f k x.f5 y.f5) b := Ev.step (fun k => by simp only [impl_El.f]; rw [if_pos (by omega)]; rfl) e2
    have hs : ∀ k, spec_SameEl.f (k + 1) x.f0 x.f1 x.f2 x.f3 x.f4 x.f5 y.f0 y.f1 y.f2 y.f3 y.f4 y.f5 = (spec_l6Attrs.f k x.f3 y.f3).bind fun t => spec_SameEl.j0 k (!t) x.f0 x.f1 x.f2 x.f3 x.f4 x.f5 y.f0 y.f1 y.f2 y.f3 y.f4 y.f5 := fun k => by
      simp only [spec_SameEl.f]; rw [if_pos c0, if_pos c1, if_pos c2, if_pos c4, if_pos (by omega)]
    cases q with
    | true =>
      refine ⟨b, Ev.step hs (Ev.bind q1 (Ev.step (fun k => ?_) e1)), Ev.step hi (Ev.step hj (Ev.bind q2 (Ev.ite_pos rfl (Ev.bind hel (Ev.const fun _ => rfl)))))⟩
      simp only [spec_SameEl.j0]; rw [if_neg (by decide)]; rfl
    | false => exact ⟨false, Ev.step hs (Ev.bind q1 S0), Ev.step hi (Ev.step hj (Ev.bind q2 (Ev.ite_neg (by decide) (Ev.const fun _ => rfl))))⟩

theorem FnExactSameEl : laws_FnExactSameEl.Pure := by
  intro n x n' x' hx hx'
  obtain ⟨t, et, t0, t1, tq⟩ := szEl_tells n x hx 1048576 (by omega) (by omega)
  unfold laws_FnExactSameEl.f
  by_cases c : t < 0
  · exact (Ev.bind et (Ev.ite_pos c (Ev.const fun _ => rfl))).rounds
  · obtain ⟨t', et', t0', t1', tq'⟩ := szEl_tells n' x' hx' t (by omega) (by omega)
    by_cases c' : t' < 0
    · exact (Ev.bind et (Ev.ite_neg c (Ev.bind et' (Ev.ite_pos c' (Ev.const fun _ => rfl))))).rounds
    · obtain ⟨z, ez, gz⟩ := toEl_tells n x (tq (by omega))
      obtain ⟨z', ez', gz'⟩ := toEl_tells n' x' (tq' (by omega))
      obtain ⟨r, e1, e2⟩ := SameEl_same n z z' gz
      exact (Ev.bind et (Ev.ite_neg c (Ev.bind et' (Ev.ite_neg c' (Ev.bind ez (Ev.bind ez' (Ev.bind e1 (Ev.bind ez (Ev.bind ez' (Ev.bind e2 (Ev.ite_neg (by simp) (Ev.bind ez (Ev.bind (eqEl_self n z gz) (Ev.ite_pos rfl (Ev.bind ez' (Ev.bind (eqEl_self n' z' gz') (Ev.ite_pos rfl (Ev.const fun _ => rfl)))))))))))))))))).rounds
end Go.Proofs.Ytjkhalcdigneoaa.Pure
