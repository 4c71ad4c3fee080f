/- References in a text: the program's Ref and Refs and the reference's tell the same at every place. No conditions but the sizes. -/
import Derived.Test.YtgljgbkbjlondaaDoorRefTellsr
import Derived.Test.YtgljgbkbjlondaaDoorPr12
import Derived.Test.YtgljgbkbjlondaaDoorPr14
import Derived.Test.YtgljgbkbjlondaaDoorPr15
import Derived.Test.YtgljgbkbjlondaaDoorPr16
import Derived.Test.YtgljgbkbjlondaaDoorPr5
import Derived.Test.YtgljgbkbjlondaaDoorPr6
set_option linter.unusedVariables false
set_option linter.unusedSimpArgs false
namespace Go.Proofs.YtgljgbkbjlondaaDoor.Rf
open Go Go.RowKit Go.Proofs.YtgljgbkbjlondaaDoor.P Go.Proofs.YtgljgbkbjlondaaDoor.Evs Go.Proofs.YtgljgbkbjlondaaDoorW.PrintWords Go.Proofs.YtgljgbkbjlondaaDoorW.PrintLast

def NoR : ByteArray × Int := ((⟨#[]⟩ : ByteArray), (0 : Int))
theorem empty_iff (a : ByteArray) : a.toList = ([] : List UInt8) ↔ a.size = 0 := by
 rw [toList_data, ← size_list]
 exact List.length_eq_zero_iff.symm
theorem drop2 (s : ByteArray) (a b : Nat) : (s.data.toList.drop a).drop b = s.data.toList.drop (a + b) := List.drop_drop
theorem num_tail (s : ByteArray) (hs : s.size ≤ 4194304) (hex : Bool) (at_ i pre : Nat) (hi : i = at_ + pre) (hl : i ≤ s.size) (hp : 2 ≤ pre) :
  Ev (fun k => impl_numberRef.l0 k s at_ i (bs hex) 0 i) (pairI (numF hex (s.data.toList.drop i) pre)) ∧ Ev (fun k => spec_l3Number.l0 k s at_ i hex (bs hex) i 0) (pairI (numF hex (s.data.toList.drop i) pre)) := by
 have hc := numGo_le hex (s.data.toList.drop i) 0
 have hlen : (s.data.toList.drop i).length = s.size - i := List.length_drop
 have hdd : (s.data.toList.drop i).drop (numGo hex (s.data.toList.drop i) 0).2 = s.data.toList.drop (i + (numGo hex (s.data.toList.drop i) 0).2) := drop2 s i _
 have key : ∀ (n : Int) (c : Nat), (numGo hex (s.data.toList.drop i) 0) = (n, c) →
   Ev (fun k => impl_numberRef.j3 k s at_ i n ((i + c : Nat) : Int)) (pairI (numF hex (s.data.toList.drop i) pre)) ∧ Ev (fun k => spec_l3Number.j3 k s at_ ((i + c : Nat) : Int) hex (bs hex) i n false) (pairI (numF hex (s.data.toList.drop i) pre)) := fun n c e => by
  rw [e] at hc hdd
  replace hc : c ≤ (s.data.toList.drop i).length := hc
  replace hdd : (s.data.toList.drop i).drop c = s.data.toList.drop (i + c) := hdd
  have hle : i + c ≤ s.size := by omega
  have hF : numF hex (s.data.toList.drop i) pre = if c = 0 then ((⟨#[]⟩ : ByteArray), 0) else (ps (nb n), pre + c + sc (s.data.toList.drop (i + c))) := by
   unfold numF
   rw [e]
   show (if c = 0 then _ else (ps (nb n), pre + c + sc ((s.data.toList.drop i).drop c))) = _
   rw [hdd]
  rw [hF]
  by_cases c0 : c = 0
  ·rw [if_pos c0]
   refine ⟨Ev.here fun k => ?_, Ev.here fun k => ?_⟩
   ·simp only [impl_numberRef.j3]; rw [if_pos (by omega)]; rfl
   ·simp only [spec_l3Number.j3]; rw [if_neg Bool.false_ne_true, if_pos (by omega)]; rfl
  ·rw [if_neg c0]
   have hsc : sc (s.data.toList.drop (i + c)) ≤ 1 := by unfold sc; split <;> omega
   have hw : wrap64 (((i + c + sc (s.data.toList.drop (i + c)) : Nat) : Int) - (at_ : Int)) = ((pre + c + sc (s.data.toList.drop (i + c)) : Nat) : Int) := by rw [w64 (by omega) (by omega)]; omega
   refine ⟨?_, ?_⟩
   ·have hend := end_impl s hs (i + c) hle
    refine Ev.step (f := fun k => (impl_Numbered.f n).bind fun t173 => ((impl_PutSign.f k t173).bind fun t174 => ((impl_withEnd.f s ((i + c : Nat) : Int)).bind fun t175 => (some (t174, wrap64 (t175 - (at_ : Int))))))) (fun k => ?_) (Ev.opt (nb_impl n) (Ev.bind (ps_impl (nb n)) (Ev.opt hend ?_)))
    ·simp only [impl_numberRef.j3]; rw [if_neg (by omega)]
    ·rw [hw]; exact Ev.now _
   ·have f1 : sc (s.data.toList.drop (i + c)) = 1 → Ev (fun k => spec_l3Number.j4 k at_ ((i + c : Nat) : Int) n true) (pairI (ps (nb n), pre + c + sc (s.data.toList.drop (i + c)))) := fun q => by
     refine Ev.step (f := fun k => (spec_Numbered.f k n).bind fun t249 => ((spec_PutSign.f k t249).bind fun t250 => (some (t250, wrap64 ((wrap64 (((i + c : Nat) : Int) + 1)) - (at_ : Int)))))) (fun k => ?_) (Ev.bind (nb_spec n) (Ev.bind (ps_spec (nb n)) ?_))
     ·simp only [spec_l3Number.j4]; rw [if_pos True.intro]
     ·rw [q] at hw ⊢
      rw [succ64 (j := i + c) (by omega), hw]; exact Ev.now _
    have f0 : sc (s.data.toList.drop (i + c)) = 0 → Ev (fun k => spec_l3Number.j4 k at_ ((i + c : Nat) : Int) n false) (pairI (ps (nb n), pre + c + sc (s.data.toList.drop (i + c)))) := fun q => by
     refine Ev.step (f := fun k => (spec_Numbered.f k n).bind fun t251 => ((spec_PutSign.f k t251).bind fun t252 => (some (t252, wrap64 (((i + c : Nat) : Int) - (at_ : Int)))))) (fun k => ?_) (Ev.bind (nb_spec n) (Ev.bind (ps_spec (nb n)) ?_))
     ·simp only [spec_l3Number.j4]; rw [if_neg Bool.false_ne_true]
     ·rw [q] at hw ⊢
      rw [Nat.add_zero] at hw
      rw [hw]; exact Ev.now _
    by_cases c1 : i + c < s.size
    ·have hh : bt s ((i + c : Nat) : Int) = 59 ↔ (s.data.toList.drop (i + c)).head? = some 59 := head_iff s (i + c) 59 (by decide) c1
     by_cases c2 : bt s ((i + c : Nat) : Int) = 59
     ·refine Ev.step (fun k => ?_) (f1 (by unfold sc; rw [if_pos (hh.mp c2)]))
      simp only [spec_l3Number.j3]
      rw [if_neg Bool.false_ne_true, if_neg (by omega), if_pos (by omega), if_pos (by omega), show (bt s ((i + c : Nat) : Int) == 59) = true from beq_iff_eq.mpr c2]
     ·refine Ev.step (fun k => ?_) (f0 (by unfold sc; rw [if_neg (fun z => c2 (hh.mpr z))]))
      simp only [spec_l3Number.j3]
      rw [if_neg Bool.false_ne_true, if_neg (by omega), if_pos (by omega), if_pos (by omega), show (bt s ((i + c : Nat) : Int) == 59) = false from beq_eq_false_iff_ne.mpr c2]
    ·refine Ev.step (fun k => ?_) (f0 (by rw [drop_end s (i + c) (by omega)]; rfl))
     simp only [spec_l3Number.j3]
     rw [if_neg Bool.false_ne_true, if_neg (by omega), if_neg (by omega)]
 obtain ⟨k1, k2⟩ := key _ _ rfl
 exact ⟨num_impl s hs hex at_ i (s.size - i) i 0 rfl hl (by omega) (by omega) _ k1, num_spec s hs hex at_ i (s.size - i) i 0 rfl hl (by omega) (by omega) _ k2⟩
theorem num_tells (s : ByteArray) (hs : s.size ≤ 4194304) (at_ : Nat) (hl : at_ + 2 ≤ s.size) :
  Ev (fun k => impl_numberRef.f k s at_) (pairI (refNum (s.data.toList.drop (at_ + 2)))) ∧ Ev (fun k => spec_l3Number.f k s at_) (pairI (refNum (s.data.toList.drop (at_ + 2)))) := by
 have hw : wrap64 ((at_ : Int) + 2) = ((at_ + 2 : Nat) : Int) := by rw [w64 (by omega) (by omega)]; rfl
 have hw3 : wrap64 (((at_ + 2 : Nat) : Int) + 1) = ((at_ + 3 : Nat) : Int) := succ64 (by omega)
 obtain ⟨a1, a2⟩ := num_tail s hs false at_ (at_ + 2) 2 rfl hl (by omega)
 have j2i : Ev (fun k => impl_numberRef.j0 k s at_ ((at_ + 2 : Nat) : Int) 10 false) (pairI (numF false (s.data.toList.drop (at_ + 2)) 2)) :=
  Ev.step (f := fun k => impl_numberRef.j1 k s at_ ((at_ + 2 : Nat) : Int) 10) (fun k => by simp only [impl_numberRef.j0]; rw [if_neg Bool.false_ne_true]) (Ev.step (fun k => by simp only [impl_numberRef.j1]; rfl) a1)
 have j2s : Ev (fun k => spec_l3Number.j0 k s at_ ((at_ + 2 : Nat) : Int) false) (pairI (numF false (s.data.toList.drop (at_ + 2)) 2)) :=
  Ev.step (f := fun k => spec_l3Number.j1 k s at_ ((at_ + 2 : Nat) : Int) false 10) (fun k => by simp only [spec_l3Number.j0]; rw [if_neg Bool.false_ne_true]) (Ev.step (fun k => by simp only [spec_l3Number.j1]; rfl) a2)
 unfold impl_numberRef.f spec_l3Number.f
 rw [hw]
 by_cases c : at_ + 2 < s.size
 ·obtain ⟨b, e1, e2⟩ := bt_byte s (at_ + 2) c
  have hd : (b :: s.data.toList.drop (at_ + 2 + 1)).drop 1 = s.data.toList.drop (at_ + 3) := rfl
  obtain ⟨b1, b2⟩ := num_tail s hs true at_ (at_ + 3) 3 rfl (by omega) (by omega)
  have j3i : Ev (fun k => impl_numberRef.j0 k s at_ ((at_ + 2 : Nat) : Int) 10 true) (pairI (numF true (s.data.toList.drop (at_ + 3)) 3)) :=
   Ev.step (f := fun k => impl_numberRef.j1 k s at_ ((at_ + 3 : Nat) : Int) 16) (fun k => by simp only [impl_numberRef.j0, hw3]; rw [if_pos True.intro]) (Ev.step (fun k => by simp only [impl_numberRef.j1]; rfl) b1)
  have j3s : Ev (fun k => spec_l3Number.j0 k s at_ ((at_ + 2 : Nat) : Int) true) (pairI (numF true (s.data.toList.drop (at_ + 3)) 3)) :=
   Ev.step (f := fun k => spec_l3Number.j1 k s at_ ((at_ + 3 : Nat) : Int) true 16) (fun k => by simp only [spec_l3Number.j0, hw3]; rw [if_pos True.intro]) (Ev.step (fun k => by simp only [spec_l3Number.j1]; rfl) b2)
  have h120 : ((b.toNat : Int) = 120) ↔ b = 120 := byte_eq b 120 (by decide)
  have h88 : ((b.toNat : Int) = 88) ↔ b = 88 := byte_eq b 88 (by decide)
  have hX : isX (b :: s.data.toList.drop (at_ + 2 + 1)) = (b == 120 || b == 88) := by
   unfold isX
   rw [List.head?_cons]
   rfl
  rw [e2]
  unfold refNum
  rw [e1] at j2i j2s ⊢
  rw [hX]
  by_cases c1 : b = 120
  ·rw [show (b == 120) = true from beq_iff_eq.mpr c1, Bool.true_or, if_pos rfl]
   exact ⟨Ev.ite_pos (by omega) (Ev.ite_pos (by omega) (Ev.ite_pos (h120.mpr c1) j3i)), Ev.ite_pos (by omega) (Ev.ite_pos (by omega) (Ev.ite_pos (h120.mpr c1) j3s))⟩
  ·rw [show (b == 120) = false from beq_eq_false_iff_ne.mpr c1, Bool.false_or]
   by_cases c2 : b = 88
   ·rw [show (b == 88) = true from beq_iff_eq.mpr c2, if_pos rfl, show ((b.toNat : Int) == 88) = true from beq_iff_eq.mpr (h88.mpr c2)]
    exact ⟨Ev.ite_pos (by omega) (Ev.ite_pos (by omega) (Ev.ite_neg (fun q => c1 (h120.mp q)) j3i)), Ev.ite_pos (by omega) (Ev.ite_pos (by omega) (Ev.ite_neg (fun q => c1 (h120.mp q)) j3s))⟩
   ·rw [show (b == 88) = false from beq_eq_false_iff_ne.mpr c2, if_neg Bool.false_ne_true, show ((b.toNat : Int) == 88) = false from beq_eq_false_iff_ne.mpr (fun q => c2 (h88.mp q))]
    exact ⟨Ev.ite_pos (by omega) (Ev.ite_pos (by omega) (Ev.ite_neg (fun q => c1 (h120.mp q)) j2i)), Ev.ite_pos (by omega) (Ev.ite_pos (by omega) (Ev.ite_neg (fun q => c1 (h120.mp q)) j2s))⟩
 ·rw [drop_end s (at_ + 2) (by omega)] at j2i j2s ⊢
  exact ⟨Ev.ite_neg (by omega) j2i, Ev.ite_neg (by omega) j2s⟩
theorem hash_prefix (l : List UInt8) : ([35] : List UInt8).isPrefixOf l = (l.head? == some 35) := by
 cases l with
 | nil => rfl
 | cons b l =>
  show (((35 : UInt8) == b) && true) = (some b == some 35)
  rw [Bool.and_true]
  rw [Bool.eq_iff_iff, beq_iff_eq, beq_iff_eq, Option.some.injEq]
  exact eq_comm
theorem name_tells (s : ByteArray) (hs : s.size ≤ 4194304) (at_ : Nat) (v : Bool) (h : at_ < s.size) :
  Ev (fun k => impl_Ref.l0 k s at_ v (s.extract (at_ + 1) s.size) (⟨#[]⟩ : ByteArray) names ((names.length : Nat) : Int) 0) (pairI (refName v (s.data.toList.drop (at_ + 1)))) ∧ Ev (fun k => spec_Ref.j1 k s at_ v false) (pairI (refName v (s.data.toList.drop (at_ + 1)))) := by
 have hlen : (s.data.toList.drop (at_ + 1)).length = s.size - (at_ + 1) := List.length_drop
 have hble := best_le (s.data.toList.drop (at_ + 1))
 have hb6 := (best_prefix (s.data.toList.drop (at_ + 1))).2
 have i0 := best_impl s hs at_ v (at_ + 1) (by omega) 14 0 (⟨#[]⟩ : ByteArray) (by omega) (by omega)
 have s0 := best_spec s hs (at_ + 1) (by omega) 14 0 (⟨#[]⟩ : ByteArray) (by omega) (by omega)
 rw [List.drop_zero] at i0 s0
 replace s0 : Ev (fun k => spec_l3Longest.f k s ((at_ + 1 : Nat) : Int)) (best (s.data.toList.drop (at_ + 1))) := Ev.opt (a := names) rfl s0
 refine ⟨i0 _ ?_, ?_⟩
 ·show Ev (fun k => impl_Ref.l0 k s at_ v (s.extract (at_ + 1) s.size) (best (s.data.toList.drop (at_ + 1))) names ((names.length : Nat) : Int) 14) _
  clear i0 s0
  unfold refName
  generalize best (s.data.toList.drop (at_ + 1)) = nm at hble hb6
  have hdd : (s.data.toList.drop (at_ + 1)).drop nm.size = s.data.toList.drop (at_ + 1 + nm.size) := drop2 s _ _
  rw [hdd]
  have hn : names.length = 14 := rfl
  have hwe : wrap64 ((wrap64 ((at_ : Int) + 1)) + (nm.size : Int)) = ((at_ + 1 + nm.size : Nat) : Int) := by rw [succ64 (j := at_) (by omega), w64 (by omega) (by omega)]; rfl
  have he := end_impl s hs (at_ + 1 + nm.size) (by omega)
  have hsc : sc (s.data.toList.drop (at_ + 1 + nm.size)) ≤ 1 := by unfold sc; split <;> omega
  have hstep : ∀ k, impl_Ref.l0 (k + 1) s at_ v (s.extract (at_ + 1) s.size) nm names ((names.length : Nat) : Int) 14 = (if nm.toList = ([] : List UInt8) then (some ((⟨#[]⟩ : ByteArray), 0)) else ((impl_withEnd.f s ((at_ + 1 + nm.size : Nat) : Int)).bind fun t189 => (if t189 = ((at_ + 1 + nm.size : Nat) : Int) then (if v = true then ((impl_isAfter.f k s ((at_ + 1 + nm.size : Nat) : Int)).bind fun t190 => (impl_Ref.j2 k s at_ nm ((at_ + 1 + nm.size : Nat) : Int) t190)) else (impl_Ref.j2 k s at_ nm ((at_ + 1 + nm.size : Nat) : Int) false)) else (impl_Ref.j2 k s at_ nm ((at_ + 1 + nm.size : Nat) : Int) false)))) := fun k => by
   simp only [impl_Ref.l0, hwe]
   rw [if_neg (by omega)]
  have jn : ∀ z : Nat, z = sc (s.data.toList.drop (at_ + 1 + nm.size)) → Ev (fun k => impl_Ref.j2 k s at_ nm ((at_ + 1 + nm.size : Nat) : Int) false) (pairI (ps (sg nm), 1 + nm.size + z)) := fun z hz => by
   refine Ev.step (f := fun k => (impl_NameSign.f k nm).bind fun t191 => ((impl_PutSign.f k t191).bind fun t192 => ((impl_withEnd.f s ((at_ + 1 + nm.size : Nat) : Int)).bind fun t193 => (some (t192, wrap64 (t193 - (at_ : Int))))))) (fun k => ?_) (Ev.bind (sg_impl nm) (Ev.bind (ps_impl (sg nm)) (Ev.opt he ?_)))
   ·simp only [impl_Ref.j2]; rw [if_neg Bool.false_ne_true]
   ·rw [← hz, show wrap64 (((at_ + 1 + nm.size + z : Nat) : Int) - (at_ : Int)) = ((1 + nm.size + z : Nat) : Int) by rw [w64 (by omega) (by omega)]; omega]
    exact Ev.now _
  have jy : Ev (fun k => impl_Ref.j2 k s at_ nm ((at_ + 1 + nm.size : Nat) : Int) true) (pairI ((⟨#[]⟩ : ByteArray), 0)) := Ev.here fun k => by
   simp only [impl_Ref.j2]; rw [if_pos True.intro]; rfl
  refine Ev.step hstep ?_
  by_cases c0 : nm.size = 0
  ·rw [if_pos c0]
   exact Ev.ite_pos ((empty_iff nm).mpr c0) (Ev.now _)
  rw [if_neg c0]
  refine Ev.ite_neg (fun q => c0 ((empty_iff nm).mp q)) (Ev.opt he ?_)
  by_cases c1 : sc (s.data.toList.drop (at_ + 1 + nm.size)) = 0
  ·refine Ev.ite_pos (by rw [c1]; rfl) ?_
   cases v with
   | false =>
    rw [if_neg (by simp)]
    exact Ev.ite_neg Bool.false_ne_true (jn _ rfl)
   | true =>
    refine Ev.ite_pos rfl (Ev.bind (aft_impl s (at_ + 1 + nm.size)) ?_)
    cases q : aft (s.data.toList.drop (at_ + 1 + nm.size)) with
    | true => rw [if_pos ⟨c1, rfl⟩]; exact jy
    | false => rw [if_neg (by simp)]; exact jn _ rfl
  ·rw [if_neg (fun q => c1 q.1)]
   exact Ev.ite_neg (by omega) (jn _ rfl)
 ·have hw1 : wrap64 ((at_ : Int) + 1) = ((at_ + 1 : Nat) : Int) := succ64 (by omega)
  refine Ev.step (f := fun k => (spec_l3Longest.f k s ((at_ + 1 : Nat) : Int)).bind fun t263 => (if t263.toList = ([] : List UInt8) then (some ((⟨#[]⟩ : ByteArray), 0)) else (if (wrap64 (((at_ + 1 : Nat) : Int) + (t263.size : Int))) < (s.size : Int) then (if 0 ≤ (wrap64 (((at_ + 1 : Nat) : Int) + (t263.size : Int))) then (spec_Ref.j2 k s at_ v t263 (wrap64 (((at_ + 1 : Nat) : Int) + (t263.size : Int))) ((bt s (wrap64 (((at_ + 1 : Nat) : Int) + (t263.size : Int)))) == 59)) else (none)) else (spec_Ref.j2 k s at_ v t263 (wrap64 (((at_ + 1 : Nat) : Int) + (t263.size : Int))) false)))) (fun k => ?_) (Ev.bind s0 ?_)
  ·simp only [spec_Ref.j1, hw1]; rw [if_neg Bool.false_ne_true]
  clear i0 s0
  unfold refName
  generalize best (s.data.toList.drop (at_ + 1)) = nm at hble hb6
  have hdd : (s.data.toList.drop (at_ + 1)).drop nm.size = s.data.toList.drop (at_ + 1 + nm.size) := drop2 s _ _
  rw [hdd]
  have hwe : wrap64 (((at_ + 1 : Nat) : Int) + (nm.size : Int)) = ((at_ + 1 + nm.size : Nat) : Int) := by rw [w64 (by omega) (by omega)]; rfl
  simp only [hwe]
  have j3n : Ev (fun k => spec_Ref.j3 k at_ nm ((at_ + 1 + nm.size : Nat) : Int) false) (pairI (ps (sg nm), 1 + nm.size + 0)) := by
   refine Ev.step (f := fun k => (spec_NameSign.f k nm).bind fun t268 => ((spec_PutSign.f k t268).bind fun t269 => (some (t269, wrap64 (((at_ + 1 + nm.size : Nat) : Int) - (at_ : Int)))))) (fun k => ?_) (Ev.bind (sg_spec nm) (Ev.bind (ps_spec (sg nm)) ?_))
   ·simp only [spec_Ref.j3]; rw [if_neg Bool.false_ne_true]
   ·rw [show wrap64 (((at_ + 1 + nm.size : Nat) : Int) - (at_ : Int)) = ((1 + nm.size + 0 : Nat) : Int) by rw [w64 (by omega) (by omega)]; omega]
    exact Ev.now _
  have j3y : Ev (fun k => spec_Ref.j3 k at_ nm ((at_ + 1 + nm.size : Nat) : Int) true) (pairI ((⟨#[]⟩ : ByteArray), 0)) := Ev.here fun k => by
   simp only [spec_Ref.j3]; rw [if_pos True.intro]; rfl
  by_cases c0 : nm.size = 0
  ·rw [if_pos c0]
   exact Ev.ite_pos ((empty_iff nm).mpr c0) (Ev.now _)
  rw [if_neg c0]
  refine Ev.ite_neg (fun q => c0 ((empty_iff nm).mp q)) ?_
  by_cases c : at_ + 1 + nm.size < s.size
  ·refine Ev.ite_pos (by omega) (Ev.ite_pos (by omega) ?_)
   obtain ⟨b, e1, e2⟩ := bt_byte s (at_ + 1 + nm.size) c
   have h59 : ((b.toNat : Int) = 59) ↔ b = 59 := byte_eq b 59 (by decide)
   have h61 : ((b.toNat : Int) = 61) ↔ b = 61 := byte_eq b 61 (by decide)
   rw [e1, e2]
   have hsc : sc (b :: s.data.toList.drop (at_ + 1 + nm.size + 1)) = if b = 59 then 1 else 0 := by
    unfold sc; rw [List.head?_cons]; simp only [Option.some.injEq]
   rw [hsc]
   by_cases c1 : b = 59
   ·rw [if_pos c1, show ((b.toNat : Int) == 59) = true from beq_iff_eq.mpr (h59.mpr c1), if_neg (by simp)]
    refine Ev.step (f := fun k => (spec_NameSign.f k nm).bind fun t264 => ((spec_PutSign.f k t264).bind fun t265 => (some (t265, wrap64 ((wrap64 (((at_ + 1 + nm.size : Nat) : Int) + 1)) - (at_ : Int)))))) (fun k => ?_) (Ev.bind (sg_spec nm) (Ev.bind (ps_spec (sg nm)) ?_))
    ·simp only [spec_Ref.j2]; rw [if_pos True.intro]
    ·rw [succ64 (j := at_ + 1 + nm.size) (by omega), show wrap64 (((at_ + 1 + nm.size + 1 : Nat) : Int) - (at_ : Int)) = ((1 + nm.size + 1 : Nat) : Int) by rw [w64 (by omega) (by omega)]; omega]
     exact Ev.now _
   ·rw [if_neg c1, show ((b.toNat : Int) == 59) = false from beq_eq_false_iff_ne.mpr (fun q => c1 (h59.mp q))]
    have hj : ∀ k, spec_Ref.j2 (k + 1) s at_ v nm ((at_ + 1 + nm.size : Nat) : Int) false = (if v = true then (if (b.toNat : Int) = 61 then (spec_Ref.j3 k at_ nm ((at_ + 1 + nm.size : Nat) : Int) true) else ((spec_IsLetter.f (wrap64 (b.toNat : Int))).bind fun t266 => (if t266 = true then (spec_Ref.j3 k at_ nm ((at_ + 1 + nm.size : Nat) : Int) true) else ((spec_l3Digit.f k (b.toNat : Int) false).bind fun t267 => (spec_Ref.j3 k at_ nm ((at_ + 1 + nm.size : Nat) : Int) (decide (t267 ≥ 0))))))) else (spec_Ref.j3 k at_ nm ((at_ + 1 + nm.size : Nat) : Int) false)) := fun k => by
     simp only [spec_Ref.j2, e2]
     rw [if_neg Bool.false_ne_true, if_pos (show ((at_ + 1 + nm.size : Nat) : Int) < (s.size : Int) by omega), if_pos (show (0 : Int) ≤ ((at_ + 1 + nm.size : Nat) : Int) by omega)]
    refine Ev.step hj ?_
    rw [show aft (b :: s.data.toList.drop (at_ + 1 + nm.size + 1)) = (b == 61 || lt b || decide (0 ≤ dg false b)) from rfl]
    cases v with
    | false =>
     rw [if_neg (by simp)]
     exact Ev.ite_neg Bool.false_ne_true j3n
    | true =>
     refine Ev.ite_pos rfl ?_
     by_cases c2 : b = 61
     ·rw [show (b == 61) = true from beq_iff_eq.mpr c2, Bool.true_or, Bool.true_or, if_pos ⟨rfl, rfl⟩]
      exact Ev.ite_pos (h61.mpr c2) j3y
     ·rw [show (b == 61) = false from beq_eq_false_iff_ne.mpr c2, Bool.false_or]
      refine Ev.ite_neg (fun q => c2 (h61.mp q)) (Ev.opt (lt_spec b) ?_)
      cases lt b with
      | true => rw [if_pos ⟨rfl, rfl⟩]; exact Ev.ite_pos rfl j3y
      | false =>
       refine Ev.ite_neg Bool.false_ne_true (Ev.bind (dg_spec false b) ?_)
       rw [Bool.false_or]
       by_cases c3 : 0 ≤ dg false b
       ·rw [decide_eq_true c3, if_pos ⟨rfl, rfl⟩]; exact j3y
       ·rw [decide_eq_false c3, if_neg (by simp)]; exact j3n
  ·rw [drop_end s (at_ + 1 + nm.size) (by omega)]
   have hsc : sc [] = 0 := rfl
   rw [if_neg (by show ¬ (sc [] = 0 ∧ (v && false) = true); simp), hsc]
   refine Ev.ite_neg (by omega) ?_
   have hj : ∀ k, spec_Ref.j2 (k + 1) s at_ v nm ((at_ + 1 + nm.size : Nat) : Int) false = (if v = true then (spec_Ref.j3 k at_ nm ((at_ + 1 + nm.size : Nat) : Int) false) else (spec_Ref.j3 k at_ nm ((at_ + 1 + nm.size : Nat) : Int) false)) := fun k => by
    simp only [spec_Ref.j2]
    rw [if_neg Bool.false_ne_true, if_neg (show ¬ ((at_ + 1 + nm.size : Nat) : Int) < (s.size : Int) by omega)]
   refine Ev.step hj ?_
   cases v with
   | true => exact Ev.ite_pos rfl j3n
   | false => exact Ev.ite_neg Bool.false_ne_true j3n
theorem ref_tells (s : ByteArray) (hs : s.size ≤ 4194304) (at_ : Nat) (v : Bool) (h : at_ < s.size) :
  Ev (fun k => impl_Ref.f k s at_ v) (pairI (refV v (s.data.toList.drop at_))) ∧ Ev (fun k => spec_Ref.f k s at_ v) (pairI (refV v (s.data.toList.drop at_))) := by
 obtain ⟨b, e1, e2⟩ := bt_byte s at_ h
 have hin : impl_inRange.f (at_ : Int) 0 (wrap64 ((s.size : Int) - 1)) = some true := by
  rw [Sg.inRange_eq, w64 (by omega) (by omega), decide_eq_true (by omega)]
 have h38 : ((b.toNat : Int) = 38) ↔ b = 38 := byte_eq b 38 (by decide)
 have hw1 : wrap64 ((at_ : Int) + 1) = ((at_ + 1 : Nat) : Int) := succ64 (by omega)
 rw [e1, refV_cons]
 unfold impl_Ref.f spec_Ref.f
 rw [hin, e2]
 have wrapi : ∀ (q : Bool) (r : ByteArray × Int), Ev (fun k => impl_Ref.j0 k s at_ v q) r → ((b.toNat : Int) != 38) = q → Ev (fun k => (some true).bind fun t180 => (if t180 = true then (if 0 ≤ (at_ : Int) then (if (at_ : Int) < (s.size : Int) then (impl_Ref.j0 k s at_ v ((b.toNat : Int) != 38)) else (none)) else (none)) else (impl_Ref.j0 k s at_ v true))) r := fun q r hr hq => by
  rw [hq]
  exact Ev.opt rfl (Ev.ite_pos rfl (Ev.ite_pos (by omega) (Ev.ite_pos (by omega) hr)))
 have wraps : ∀ (q : Bool) (r : ByteArray × Int), Ev (fun k => spec_Ref.j0 k s at_ v q) r → ((b.toNat : Int) != 38) = q → Ev (fun k => if (at_ : Int) < 0 then (spec_Ref.j0 k s at_ v true) else (if (at_ : Int) ≥ (s.size : Int) then (spec_Ref.j0 k s at_ v true) else (if 0 ≤ (at_ : Int) then (if (at_ : Int) < (s.size : Int) then (spec_Ref.j0 k s at_ v ((b.toNat : Int) != 38)) else (none)) else (none)))) r := fun q r hr hq => by
  rw [hq]
  exact Ev.ite_neg (by omega) (Ev.ite_neg (by omega) (Ev.ite_pos (by omega) (Ev.ite_pos (by omega) hr)))
 by_cases c : b = 38
 ·have hq : ((b.toNat : Int) != 38) = false := by rw [bne_eq_false_iff_eq]; exact h38.mpr c
  rw [if_pos c]
  obtain ⟨n1, n2⟩ := name_tells s hs at_ v h
  have hji : ∀ k, impl_Ref.j0 (k + 1) s at_ v false = (if ((s.data.toList.drop (at_ + 1)).head? == some 35) = true then ((impl_numberRef.f k s at_).bind fun bt182 => (some (bt182.1, bt182.2))) else (impl_Ref.l0 k s at_ v (s.extract (at_ + 1) s.size) (⟨#[]⟩ : ByteArray) names ((names.length : Nat) : Int) 0)) := fun k => by
   simp only [impl_Ref.j0, hw1, Int.toNat_natCast, has_prefix, rest_list]
   rw [if_neg Bool.false_ne_true, if_pos (by omega), if_pos (by omega)]
   rw [hash_prefix]
   rfl
  by_cases c2 : (s.data.toList.drop (at_ + 1)).head? = some 35
  ·rw [if_pos c2, drop2 s (at_ + 1) 1]
   have hlt : at_ + 1 < s.size := by
    rcases Nat.lt_or_ge (at_ + 1) s.size with q | q
    ·exact q
    ·rw [drop_end s _ q] at c2; cases c2
   obtain ⟨m1, m2⟩ := num_tells s hs at_ (by omega)
   have hh : bt s ((at_ + 1 : Nat) : Int) = 35 ↔ (s.data.toList.drop (at_ + 1)).head? = some 35 := head_iff s (at_ + 1) 35 (by decide) hlt
   refine ⟨wrapi false _ (Ev.step hji (Ev.ite_pos (by rw [c2]; rfl) (Ev.bind m1 (Ev.now _)))) hq, wraps false _ ?_ hq⟩
   have j1 : Ev (fun k => spec_Ref.j1 k s at_ v true) (pairI (refNum (s.data.toList.drop (at_ + 1 + 1)))) := by
    refine Ev.step (f := fun k => (spec_l3Number.f k s at_).bind fun bt261 => (some (bt261.1, bt261.2))) (fun k => ?_) (Ev.bind m2 (Ev.now _))
    simp only [spec_Ref.j1]; rw [if_pos True.intro]
   refine Ev.step (fun k => ?_) j1
   simp only [spec_Ref.j0, hw1]
   rw [if_neg Bool.false_ne_true, if_pos (by omega), if_pos (by omega), show (bt s ((at_ + 1 : Nat) : Int) == 35) = true from beq_iff_eq.mpr (hh.mpr c2)]
  ·rw [if_neg c2]
   refine ⟨wrapi false _ (Ev.step hji (Ev.ite_neg (by rw [beq_iff_eq]; exact c2) n1)) hq, wraps false _ ?_ hq⟩
   refine Ev.step (fun k => ?_) n2
   simp only [spec_Ref.j0, hw1]
   by_cases c3 : at_ + 1 < s.size
   ·have hh : bt s ((at_ + 1 : Nat) : Int) = 35 ↔ (s.data.toList.drop (at_ + 1)).head? = some 35 := head_iff s (at_ + 1) 35 (by decide) c3
    rw [if_neg Bool.false_ne_true, if_pos (by omega), if_pos (by omega), show (bt s ((at_ + 1 : Nat) : Int) == 35) = false from beq_eq_false_iff_ne.mpr (fun q => c2 (hh.mp q))]
   ·rw [if_neg Bool.false_ne_true, if_neg (by omega)]
 ·have hq : ((b.toNat : Int) != 38) = true := by rw [bne_iff_ne]; exact fun q => c (h38.mp q)
  rw [if_neg c]
  exact ⟨wrapi true _ (Ev.here fun k => by simp only [impl_Ref.j0]; rw [if_pos True.intro]; rfl) hq, wraps true _ (Ev.here fun k => by simp only [spec_Ref.j0]; rw [if_pos True.intro]; rfl) hq⟩
theorem ref_out (s : ByteArray) (hs : s.size ≤ 4194304) (a : Int) (v : Bool) (h : a < 0 ∨ (s.size : Int) ≤ a) : Ev (fun k => impl_Ref.f k s a v) NoR ∧ Ev (fun k => spec_Ref.f k s a v) NoR := by
 have hin : impl_inRange.f a 0 (wrap64 ((s.size : Int) - 1)) = some false := by
  rw [Sg.inRange_eq, w64 (by omega) (by omega), decide_eq_false (by omega)]
 have i0 : Ev (fun k => impl_Ref.j0 k s a v true) NoR := Ev.here fun k => by simp only [impl_Ref.j0]; rw [if_pos True.intro]; rfl
 have s0 : Ev (fun k => spec_Ref.j0 k s a v true) NoR := Ev.here fun k => by simp only [spec_Ref.j0]; rw [if_pos True.intro]; rfl
 refine ⟨Ev.opt hin (Ev.ite_neg Bool.false_ne_true i0), ?_⟩
 unfold spec_Ref.f
 by_cases c : a < 0
 ·exact Ev.ite_pos c s0
 ·exact Ev.ite_neg c (Ev.ite_pos (by omega) s0)

/-! ### all references of a text -/
noncomputable def refs (v : Bool) : Nat → List UInt8 → List UInt8
 | 0, _ => []
 | _ + 1, [] => []
 | f + 1, b :: l => if (refV v (b :: l)).2 = 0 then b :: refs v f l else (refV v (b :: l)).1.data.toList ++ refs v f ((b :: l).drop (refV v (b :: l)).2)
theorem refs_nil (v : Bool) (f : Nat) : refs v f [] = [] := by cases f <;> rfl
theorem refs_cons (v : Bool) (f : Nat) (b : UInt8) (l : List UInt8) : refs v (f + 1) (b :: l) = if (refV v (b :: l)).2 = 0 then b :: refs v f l else (refV v (b :: l)).1.data.toList ++ refs v f ((b :: l).drop (refV v (b :: l)).2) := rfl
def ints (l : List UInt8) : List Int := l.map fun b => (b.toNat : Int)
theorem ints_append (a b : List UInt8) : ints (a ++ b) = ints a ++ ints b := List.map_append
theorem bytes_ints (t : ByteArray) : bytesOf t = ints t.data.toList := rfl
def mk (l : List UInt8) : ByteArray := ⟨l.toArray⟩
theorem mk_list (t : ByteArray) : mk t.data.toList = t := rfl
theorem mk_append (a b : List UInt8) : mk (a ++ b) = mk a ++ mk b := by
 apply ByteArray.ext
 show (a ++ b).toArray = _
 rw [ByteArray.data_append]
 show (a ++ b).toArray = a.toArray ++ b.toArray
 simp
theorem mk_size (a : List UInt8) : (mk a).size = a.length := by show a.toArray.size = _; simp
theorem room1 {a S i B : Nat} (h : a + 4 * (S - i) ≤ B) (hi : i < S) : a + 1 ≤ B ∧ a + 1 + 4 * (S - (i + 1)) ≤ B := ⟨by omega, by omega⟩
theorem room2 {a p n S i B : Nat} (h : a + 4 * (S - i) ≤ B) (hp : p ≤ 4) (hn : 1 ≤ n) (hi : i + n ≤ S) : a + p ≤ B ∧ a + p + 4 * (S - (i + n)) ≤ B := ⟨by omega, by omega⟩
theorem less1 {S i f : Nat} (h : S - i ≤ f + 1) : S - (i + 1) ≤ f := by omega
theorem less2 {S i n f : Nat} (h : S - i ≤ f + 1) (hn : 1 ≤ n) : S - (i + n) ≤ f := by omega
theorem refs_impl (s : ByteArray) (hs : s.size ≤ 4194304) (v : Bool) : ∀ (f i : Nat) (acc : ByteArray), s.size - i ≤ f → i ≤ s.size → acc.size + 4 * (s.size - i) ≤ 140737488355328 →
  Ev (fun k => impl_Refs.l0 k s v acc i) (acc ++ mk (refs v f (s.data.toList.drop i))) := by
 intro f
 induction f with
 | zero =>
  intro i acc hd hi ha
  refine Ev.here fun k => ?_
  simp only [impl_Refs.l0]
  rw [if_neg (by omega)]
  show some acc = some (acc ++ mk [])
  rw [show mk [] = ByteArray.empty from rfl, ByteArray.append_empty]
 | succ f ih =>
  intro i acc hd hi ha
  by_cases c : i < s.size
  ·obtain ⟨b, e1, e2⟩ := bt_byte s i c
   obtain ⟨r1, _⟩ := ref_tells s hs i v c
   obtain ⟨q1, q2⟩ := refV_le v (s.data.toList.drop i)
   have hlen : (s.data.toList.drop i).length = s.size - i := List.length_drop
   have hw : wrap64 ((i : Int) + 1) = ((i + 1 : Nat) : Int) := succ64 (by omega)
   rw [e1, refs_cons, ← e1]
   generalize refV v (s.data.toList.drop i) = p at r1 q1 q2
   obtain ⟨pt, pn⟩ := p
   replace q1 : pn ≤ (s.data.toList.drop i).length := q1
   replace q2 : pn = 0 ∨ (1 ≤ pt.size ∧ pt.size ≤ 4 ∧ 1 ≤ pn) := q2
   have hin : i + pn ≤ s.size := by omega
   have hstep : ∀ k, impl_Refs.l0 (k + 1) s v acc i = (impl_Ref.f k s i v).bind fun t => if t.2 = 0 then (if acc.size + 1 ≤ 140737488355328 then impl_Refs.l0 k s v (acc ++ (⟨#[UInt8.ofNat (b.toNat : Int).toNat]⟩ : ByteArray)) ((i + 1 : Nat) : Int) else none) else (if acc.size + t.1.size ≤ 140737488355328 then impl_Refs.l0 k s v (acc ++ t.1) (wrap64 ((i : Int) + t.2)) else none) := fun k => by
    simp only [impl_Refs.l0, e2, hw]
    rw [if_pos (by omega)]
    simp only [if_pos (show (0 : Int) ≤ (i : Int) by omega)]
   refine Ev.step hstep (Ev.bind r1 ?_)
   by_cases c0 : pn = 0
   ·rw [if_pos c0]
    have hz : (pn : Int) = 0 := by omega
    obtain ⟨hle, hle2⟩ := room1 ha c
    refine Ev.ite_pos hz (Ev.ite_pos hle ?_)
    have h := ih (i + 1) (acc ++ (⟨#[UInt8.ofNat (b.toNat : Int).toNat]⟩ : ByteArray)) (less1 hd) c (by rw [ByteArray.size_append]; exact hle2)
    have hb : (⟨#[UInt8.ofNat (b.toNat : Int).toNat]⟩ : ByteArray) = mk [b] := by
     rw [Int.toNat_natCast, UInt8.ofNat_toNat]; rfl
    rw [hb, ByteArray.append_assoc, ← mk_append] at h
    rw [hb]
    exact h
   ·rw [if_neg c0]
    obtain ⟨s1, s4, n1⟩ := q2.resolve_left c0
    have hwn : wrap64 ((i : Int) + (pn : Int)) = ((i + pn : Nat) : Int) := by rw [w64 (by omega) (by omega)]; rfl
    have hz : ¬ (pn : Int) = 0 := by omega
    obtain ⟨hle, hle2⟩ := room2 ha s4 n1 hin
    have hle3 := less2 hd n1
    refine Ev.ite_neg hz (Ev.ite_pos hle ?_)
    have h := ih (i + pn) (acc ++ pt) hle3 hin (by rw [ByteArray.size_append]; exact hle2)
    rw [drop2 s i pn, mk_append, mk_list, ← ByteArray.append_assoc]
    show Ev (fun k => impl_Refs.l0 k s v (acc ++ pt) (wrap64 ((i : Int) + (pn : Int)))) _
    rw [hwn]
    exact h
  ·rw [drop_end s i (by omega), refs_nil]
   refine Ev.here fun k => ?_
   simp only [impl_Refs.l0]
   rw [if_neg (by omega)]
   rw [show mk [] = ByteArray.empty from rfl, ByteArray.append_empty]
theorem refs_spec (s : ByteArray) (hs : s.size ≤ 4194304) (v : Bool) : ∀ (f i : Nat) (acc : List UInt8), s.size - i ≤ f → i ≤ s.size → acc.length + 4 * (s.size - i) ≤ 70368744177664 →
  Ev (fun k => spec_Refs.l0 k s v (ints acc) i) (mk (acc ++ refs v f (s.data.toList.drop i))) := by
 have fin : ∀ acc : List UInt8, strOfNums (ints acc) = mk acc := fun acc => Lib.Lz.strOfNums_map acc
 intro f
 induction f with
 | zero =>
  intro i acc hd hi ha
  refine Ev.here fun k => ?_
  simp only [spec_Refs.l0]
  rw [if_neg (by omega), fin]
  show _ = some (mk (acc ++ []))
  rw [List.append_nil]
 | succ f ih =>
  intro i acc hd hi ha
  by_cases c : i < s.size
  ·obtain ⟨b, e1, e2⟩ := bt_byte s i c
   obtain ⟨_, r1⟩ := ref_tells s hs i v c
   obtain ⟨q1, q2⟩ := refV_le v (s.data.toList.drop i)
   have hlen : (s.data.toList.drop i).length = s.size - i := List.length_drop
   have hw : wrap64 ((i : Int) + 1) = ((i + 1 : Nat) : Int) := succ64 (by omega)
   have hal : (ints acc).length = acc.length := List.length_map _
   rw [e1, refs_cons, ← e1]
   generalize refV v (s.data.toList.drop i) = p at r1 q1 q2
   obtain ⟨pt, pn⟩ := p
   replace q1 : pn ≤ (s.data.toList.drop i).length := q1
   replace q2 : pn = 0 ∨ (1 ≤ pt.size ∧ pt.size ≤ 4 ∧ 1 ≤ pn) := q2
   have hin : i + pn ≤ s.size := by omega
   have hstep : ∀ k, spec_Refs.l0 (k + 1) s v (ints acc) i = (spec_Ref.f k s i v).bind fun bt293 => (if bt293.2 > 0 then (if (ints acc).length + (bytesOf bt293.1).length < 140737488355328 then (spec_Refs.l0 k s v (ints acc ++ (bytesOf bt293.1)) (wrap64 ((i : Int) + bt293.2))) else (none)) else (if (ints acc).length < 140737488355328 then (spec_Refs.l0 k s v (ints acc ++ [(b.toNat : Int)]) ((i + 1 : Nat) : Int)) else (none))) := fun k => by
    simp only [spec_Refs.l0, e2, hw]
    rw [if_pos (by omega)]
    simp only [if_pos (show (0 : Int) ≤ (i : Int) by omega)]
   refine Ev.step hstep (Ev.bind r1 ?_)
   by_cases c0 : pn = 0
   ·rw [if_pos c0]
    have hz : ¬ (pn : Int) > 0 := by omega
    obtain ⟨hle1, hle2⟩ := room1 ha c
    have hle : (ints acc).length < 140737488355328 := by rw [hal]; exact Nat.lt_of_lt_of_le (Nat.lt_of_succ_le hle1) (by decide)
    refine Ev.ite_neg hz (Ev.ite_pos hle ?_)
    have h := ih (i + 1) (acc ++ [b]) (less1 hd) c (by rw [List.length_append]; exact hle2)
    rw [ints_append, List.append_assoc] at h
    exact h
   ·rw [if_neg c0]
    obtain ⟨s1, s4, n1⟩ := q2.resolve_left c0
    have hwn : wrap64 ((i : Int) + (pn : Int)) = ((i + pn : Nat) : Int) := by rw [w64 (by omega) (by omega)]; rfl
    have hz : (pn : Int) > 0 := by omega
    obtain ⟨hle1, hle2⟩ := room2 ha s4 n1 hin
    have hle : (ints acc).length + pt.size < 140737488355328 := by rw [hal]; exact Nat.lt_of_le_of_lt hle1 (by decide)
    have hle3 := less2 hd n1
    have hbl : (bytesOf pt).length = pt.size := by rw [bytes_ints]; unfold ints; rw [List.length_map]; rfl
    refine Ev.ite_pos hz (Ev.ite_pos (hbl.symm ▸ hle) ?_)
    have h := ih (i + pn) (acc ++ pt.data.toList) hle3 hin (by rw [List.length_append, size_list]; exact hle2)
    rw [drop2 s i pn]
    show Ev (fun k => spec_Refs.l0 k s v (ints acc ++ bytesOf pt) (wrap64 ((i : Int) + (pn : Int)))) _
    rw [hwn, bytes_ints, ← ints_append]
    rw [List.append_assoc] at h
    exact h
  ·rw [drop_end s i (by omega), refs_nil, List.append_nil]
   refine Ev.here fun k => ?_
   simp only [spec_Refs.l0]
   rw [if_neg (by omega), fin]
theorem Refs_tells (s : ByteArray) (hs : s.size ≤ 4194304) (v : Bool) : Ev (fun k => impl_Refs.f k s v) (mk (refs v s.size s.data.toList)) ∧ Ev (fun k => spec_Refs.f k s v) (mk (refs v s.size s.data.toList)) := by
 have h1 := refs_impl s hs v s.size 0 (⟨#[]⟩ : ByteArray) (by omega) (by omega) (by show 0 + _ ≤ _; omega)
 have h2 := refs_spec s hs v s.size 0 [] (by omega) (by omega) (by show 0 + _ ≤ _; omega)
 rw [List.drop_zero] at h1 h2
 rw [show (⟨#[]⟩ : ByteArray) = ByteArray.empty from rfl, ByteArray.empty_append] at h1
 exact ⟨h1, h2⟩
theorem refs_plain (v : Bool) : ∀ (f : Nat) (l : List UInt8), l.length ≤ f → (38 : UInt8) ∉ l → refs v f l = l
 | _, [], _, _ => refs_nil v _
 | 0, b :: l, h, _ => absurd h (by simp)
 | f + 1, b :: l, h, hn => by
  have hb : ¬ b = 38 := fun e => hn (by rw [e]; exact List.mem_cons_self)
  rw [refs_cons, show refV v (b :: l) = ((⟨#[]⟩ : ByteArray), 0) from by rw [refV_cons, if_neg hb], if_pos rfl, refs_plain v f l (by rw [List.length_cons] at h; omega) (fun q => hn (List.mem_cons_of_mem _ q))]
end Go.Proofs.YtgljgbkbjlondaaDoor.Rf
