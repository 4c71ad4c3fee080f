/- The program's XmlName and the reference's tell the same: the pure statement of the law FnExactXmlName. No conditions but the row's. -/
import Derived.Test.YtjkhalcdigneoaaSignList
import Derived.Test.YtjkhalcdigneoaaPs9
namespace Go.Proofs.Ytjkhalcdigneoaa.Pure
open Go.RowKit Go.Proofs.Ytjkhalcdigneoaa Go.Proofs.Ytjkhalcdigneoaa.P Go.Proofs.Ytjkhalcdigneoaa.Evs Go.Proofs.Ytjkhalcdigneoaa.Sg Go.Proofs.YtjkhalcdigneoaaW.PrintWords Go.Proofs.YtjkhalcdigneoaaW.PrintLast

theorem cleanSign_end (s : ByteArray) (k : Nat) : impl_cleanSign.f k s (s.size : Int) = some (-1, 0) := by
  unfold impl_cleanSign.f
  rw [if_pos (by omega)]
theorem cleanSign_tells (s : ByteArray) (j m : Nat) (n : Int) (t : ByteArray) (hs : s.size ≤ 1048576) (hj : j < s.size) (hm : j + m ≤ s.size) (e : Ev (fun k => impl_getSign.f k s j) (n, (m : Int))) (et : Ev (fun k => impl_PutSign.f k n) t) :
    Ev (fun k => impl_cleanSign.f k s j) (if t.toList = (s.extract j (j + m)).toList then (n, (m : Int)) else (-1, 0)) := by
  have hw : wrap64 ((j : Int) + (m : Int)) = ((j + m : Nat) : Int) := by rw [w64 (by omega) (by omega)]; rfl
  unfold impl_cleanSign.f
  refine Ev.ite_neg (by omega) (Ev.bind e (Ev.bind et (Ev.ite_pos (by omega) ?_)))
  simp only [hw, Int.toNat_natCast]
  refine Ev.ite_pos (by omega) (Ev.ite_pos (by omega) ?_)
  by_cases c : t.toList = (s.extract j (j + m)).toList
  · rw [if_pos c, if_pos c]; exact Ev.now _
  · rw [if_neg c, if_neg c]; exact Ev.now _
set_option maxHeartbeats 1000000 in
theorem XmlName_loop (s : ByteArray) (at_ : Nat) (hs : s.size ≤ 1048576) : ∀ (d j : Nat), s.size - j ≤ d → at_ ≤ j → j ≤ s.size →
    ∃ r, Ev (fun k => spec_XmlName.l0 k s at_ j) r ∧ Ev (fun k => impl_XmlName.l0 k s at_ j) r := by
  intro d
  have hE : ∀ j : Nat, at_ ≤ j → j ≤ s.size → (if (0 : Int) ≤ (at_ : Int) then (if (at_ : Int) ≤ (j : Int) then (if (j : Int) ≤ (s.size : Int) then (some (s.extract ((at_ : Int)).toNat ((j : Int)).toNat, (j : Int))) else none) else none) else none) = some (s.extract at_ j, (j : Int)) := fun j h1 h2 => by
    rw [if_pos (by omega), if_pos (by omega), if_pos (by omega), Int.toNat_natCast, Int.toNat_natCast]
  induction d with
  | zero =>
    intro j hd h1 h2
    obtain rfl : j = s.size := by omega
    refine ⟨(s.extract at_ s.size, (s.size : Int)), Ev.here fun k => ?_, Ev.here fun k => ?_⟩
    · simp only [spec_XmlName.l0]; rw [if_neg (by omega)]; exact hE _ h1 h2
    · simp only [impl_XmlName.l0, cleanSign_end, Option.bind_some]; rw [if_pos (by decide)]; exact hE _ h1 h2
  | succ d ih =>
    intro j hd h1 h2
    by_cases c : j < s.size
    · obtain ⟨n, m, e1, e2, hm1, hm2, hn⟩ := GetSign_same s j hs c
      obtain ⟨t, p1, p2, _, _⟩ := PutSign_same n
      have ec := cleanSign_tells s j m n t hs c hm2 e2 p2
      obtain ⟨b1, f1, f2⟩ := IsFirst_same n
      obtain ⟨b2, g1, g2⟩ := IsNext_same n
      obtain ⟨r, r1, r2⟩ := ih (j + m) (by omega) (by omega) hm2
      have hw : wrap64 ((j : Int) + (m : Int)) = ((j + m : Nat) : Int) := by rw [w64 (by omega) (by omega)]; rfl
      have hEj := hE j h1 h2
      have hspec : ∀ k, spec_XmlName.l0 (k + 1) s at_ j = (spec_GetSign.f k s j).bind fun z => if (j : Int) = at_ then ((spec_IsFirst.f k z.1).bind fun x => if x = true then ((spec_IsNext.f k z.1).bind fun y => if y = true then ((spec_PutSign.f k z.1).bind fun q => if (0 : Int) ≤ j then (if (j : Int) ≤ wrap64 ((j : Int) + z.2) then (if wrap64 ((j : Int) + z.2) ≤ (s.size : Int) then (if q.toList = (s.extract ((j : Int)).toNat (wrap64 ((j : Int) + z.2)).toNat).toList then spec_XmlName.l0 k s at_ (wrap64 ((j : Int) + z.2)) else some (s.extract at_ j, (j : Int))) else none) else none) else none) else some (s.extract at_ j, (j : Int))) else some (s.extract at_ j, (j : Int))) else ((spec_IsNext.f k z.1).bind fun y => if y = true then ((spec_PutSign.f k z.1).bind fun q => if (0 : Int) ≤ j then (if (j : Int) ≤ wrap64 ((j : Int) + z.2) then (if wrap64 ((j : Int) + z.2) ≤ (s.size : Int) then (if q.toList = (s.extract ((j : Int)).toNat (wrap64 ((j : Int) + z.2)).toNat).toList then spec_XmlName.l0 k s at_ (wrap64 ((j : Int) + z.2)) else some (s.extract at_ j, (j : Int))) else none) else none) else none) else some (s.extract at_ j, (j : Int))) := fun k => by
        simp only [spec_XmlName.l0, hEj]; rw [if_pos (by omega)]
      have himpl : ∀ k, impl_XmlName.l0 (k + 1) s at_ j = (impl_cleanSign.f k s j).bind fun z => if z.1 < 0 then some (s.extract at_ j, (j : Int)) else if (j : Int) = at_ then ((impl_IsFirst.f z.1).bind fun x => if x = true then ((impl_IsNext.f z.1).bind fun y => if y = true then impl_XmlName.l0 k s at_ (wrap64 ((j : Int) + z.2)) else some (s.extract at_ j, (j : Int))) else some (s.extract at_ j, (j : Int))) else ((impl_IsNext.f z.1).bind fun y => if y = true then impl_XmlName.l0 k s at_ (wrap64 ((j : Int) + z.2)) else some (s.extract at_ j, (j : Int))) := fun k => by
        simp only [impl_XmlName.l0, hEj]
      have tail : ∀ R, (t.toList = (s.extract j (j + m)).toList → R = r) → (¬ t.toList = (s.extract j (j + m)).toList → R = (s.extract at_ j, (j : Int))) →
          Ev (fun k => (spec_PutSign.f k n).bind fun q => if (0 : Int) ≤ j then (if (j : Int) ≤ wrap64 ((j : Int) + m) then (if wrap64 ((j : Int) + m) ≤ (s.size : Int) then (if q.toList = (s.extract ((j : Int)).toNat (wrap64 ((j : Int) + m)).toNat).toList then spec_XmlName.l0 k s at_ (wrap64 ((j : Int) + m)) else some (s.extract at_ j, (j : Int))) else none) else none) else none) R := fun R hR1 hR2 => by
        simp only [hw, Int.toNat_natCast]
        refine Ev.bind p1 (Ev.ite_pos (by omega) (Ev.ite_pos (by omega) (Ev.ite_pos (by omega) ?_)))
        by_cases q : t.toList = (s.extract j (j + m)).toList
        · rw [hR1 q]; exact Ev.ite_pos q r1
        · rw [hR2 q]; exact Ev.ite_neg q (Ev.now _)
      by_cases q : t.toList = (s.extract j (j + m)).toList
      · rw [if_pos q] at ec
        have T := tail r (fun _ => rfl) (fun h => absurd q h)
        have r2' : Ev (fun k => impl_XmlName.l0 k s at_ (wrap64 ((j : Int) + m))) r := by rw [hw]; exact r2
        by_cases c0 : (j : Int) = at_
        · cases b1 with
          | true => cases b2 with
            | true => exact ⟨r, Ev.step hspec (Ev.bind e1 (Ev.ite_pos c0 (Ev.bind f1 (Ev.ite_pos rfl (Ev.bind g1 (Ev.ite_pos rfl T)))))), Ev.step himpl (Ev.bind ec (Ev.ite_neg (by show ¬ n < 0; omega) (Ev.ite_pos c0 (Ev.opt f2 (Ev.ite_pos rfl (Ev.opt g2 (Ev.ite_pos rfl r2')))))))⟩
            | false => exact ⟨_, Ev.step hspec (Ev.bind e1 (Ev.ite_pos c0 (Ev.bind f1 (Ev.ite_pos rfl (Ev.bind g1 (Ev.ite_neg (by decide) (Ev.now _))))))), Ev.step himpl (Ev.bind ec (Ev.ite_neg (by show ¬ n < 0; omega) (Ev.ite_pos c0 (Ev.opt f2 (Ev.ite_pos rfl (Ev.opt g2 (Ev.ite_neg (by decide) (Ev.now _))))))))⟩
          | false => exact ⟨_, Ev.step hspec (Ev.bind e1 (Ev.ite_pos c0 (Ev.bind f1 (Ev.ite_neg (by decide) (Ev.now _))))), Ev.step himpl (Ev.bind ec (Ev.ite_neg (by show ¬ n < 0; omega) (Ev.ite_pos c0 (Ev.opt f2 (Ev.ite_neg (by decide) (Ev.now _))))))⟩
        · cases b2 with
          | true => exact ⟨r, Ev.step hspec (Ev.bind e1 (Ev.ite_neg c0 (Ev.bind g1 (Ev.ite_pos rfl T)))), Ev.step himpl (Ev.bind ec (Ev.ite_neg (by show ¬ n < 0; omega) (Ev.ite_neg c0 (Ev.opt g2 (Ev.ite_pos rfl r2')))))⟩
          | false => exact ⟨_, Ev.step hspec (Ev.bind e1 (Ev.ite_neg c0 (Ev.bind g1 (Ev.ite_neg (by decide) (Ev.now _))))), Ev.step himpl (Ev.bind ec (Ev.ite_neg (by show ¬ n < 0; omega) (Ev.ite_neg c0 (Ev.opt g2 (Ev.ite_neg (by decide) (Ev.now _))))))⟩
      · rw [if_neg q] at ec
        have T := tail (s.extract at_ j, (j : Int)) (fun h => absurd h q) (fun _ => rfl)
        refine ⟨(s.extract at_ j, (j : Int)), Ev.step hspec (Ev.bind e1 ?_), Ev.step himpl (Ev.bind ec (Ev.ite_pos (by decide) (Ev.now _)))⟩
        by_cases c0 : (j : Int) = at_
        · cases b1 with
          | true => cases b2 with
            | true => exact Ev.ite_pos c0 (Ev.bind f1 (Ev.ite_pos rfl (Ev.bind g1 (Ev.ite_pos rfl T))))
            | false => exact Ev.ite_pos c0 (Ev.bind f1 (Ev.ite_pos rfl (Ev.bind g1 (Ev.ite_neg (by decide) (Ev.now _)))))
          | false => exact Ev.ite_pos c0 (Ev.bind f1 (Ev.ite_neg (by decide) (Ev.now _)))
        · cases b2 with
          | true => exact Ev.ite_neg c0 (Ev.bind g1 (Ev.ite_pos rfl T))
          | false => exact Ev.ite_neg c0 (Ev.bind g1 (Ev.ite_neg (by decide) (Ev.now _)))
    · obtain rfl : j = s.size := by omega
      refine ⟨(s.extract at_ s.size, (s.size : Int)), Ev.here fun k => ?_, Ev.here fun k => ?_⟩
      · simp only [spec_XmlName.l0]; rw [if_neg (by omega)]; exact hE _ h1 h2
      · simp only [impl_XmlName.l0, cleanSign_end, Option.bind_some]; rw [if_pos (by decide)]; exact hE _ h1 h2
theorem XmlName_same (s : ByteArray) (a : Int) (hs : s.size ≤ 1048576) (ha0 : -9223372036854775808 ≤ a) (ha1 : a ≤ 9223372036854775807) : ∃ r, Ev (fun k => spec_XmlName.f k s a) r ∧ Ev (fun k => impl_XmlName.f k s a) r := by
  have hw : wrap64 ((s.size : Int) - 1) = (s.size : Int) - 1 := w64 (by omega) (by omega)
  by_cases c : 0 ≤ a ∧ a ≤ s.size
  · obtain ⟨at_, rfl⟩ := Int.eq_ofNat_of_zero_le c.1
    by_cases c2 : at_ < s.size
    · obtain ⟨r, e1, e2⟩ := XmlName_loop s at_ hs s.size at_ (by omega) (by omega) (by omega)
      refine ⟨r, Ev.step (fun k => ?_) e1, ?_⟩
      · unfold spec_XmlName.f
        rw [if_neg (by omega), decide_eq_false (by omega)]
        simp only [spec_XmlName.j0]
        rw [if_neg (by decide)]
      · unfold impl_XmlName.f
        rw [inRange_eq, hw]
        exact Ev.opt rfl (Ev.ite_pos (decide_eq_true (by omega)) e2)
    · obtain rfl : at_ = s.size := by omega
      have he : s.extract s.size s.size = (⟨#[]⟩ : ByteArray) := by
        apply ByteArray.ext
        simp
      refine ⟨((⟨#[]⟩ : ByteArray), (s.size : Int)), ⟨2, fun k hk => ?_⟩, ?_⟩
      · obtain ⟨k, rfl⟩ : ∃ q, k = q + 2 := ⟨k - 2, by omega⟩
        show (if (s.size : Int) < 0 then _ else spec_XmlName.j0 (k + 2) s s.size (decide ((s.size : Int) > s.size))) = _
        rw [if_neg (by omega), decide_eq_false (by omega)]
        simp only [spec_XmlName.j0, spec_XmlName.l0]
        rw [if_neg (by decide), if_neg (by omega), if_pos (by omega), if_pos (by omega), if_pos (by omega), Int.toNat_natCast, he]
      · unfold impl_XmlName.f
        rw [inRange_eq, hw]
        exact Ev.opt rfl (Ev.ite_neg (by rw [decide_eq_true_iff]; omega) (Ev.now _))
  · refine ⟨((⟨#[]⟩ : ByteArray), a), Ev.here fun k => ?_, ?_⟩
    · unfold spec_XmlName.f
      by_cases c2 : a < 0
      · rw [if_pos c2]; simp only [spec_XmlName.j0]; rw [if_pos True.intro]
      · rw [if_neg c2, decide_eq_true (by omega)]; simp only [spec_XmlName.j0]; rw [if_pos True.intro]
    · unfold impl_XmlName.f
      rw [inRange_eq, hw]
      exact Ev.opt rfl (Ev.ite_neg (by rw [decide_eq_true_iff]; omega) (Ev.now _))
theorem FnExactXmlName : laws_FnExactXmlName.Pure := by
  intro s a _ ha
  unfold laws_FnExactXmlName.f
  have ha' : -9223372036854775808 ≤ a ∧ a ≤ 9223372036854775807 := by
    simp only [Lit.wf, Bool.and_eq_true, decide_eq_true_eq] at ha
    exact ha
  by_cases c : (s.size : Int) > 1048576
  · exact (Ev.ite_pos c (Ev.now _)).rounds
  · obtain ⟨r, h1, h2⟩ := XmlName_same s a (by omega) ha'.1 ha'.2
    exact (Ev.ite_neg c (Ev.bind h1 (Ev.bind h2 (Ev.ite_pos rfl (Ev.ite_pos rfl (Ev.now _)))))).rounds
end Go.Proofs.Ytjkhalcdigneoaa.Pure
