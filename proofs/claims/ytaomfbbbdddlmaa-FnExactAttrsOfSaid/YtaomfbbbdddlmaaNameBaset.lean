/- A name made of any text: the program's NameOf and the reference's tell the same. No conditions but the size. -/
import Derived.Test.YtaomfbbbdddlmaaNameSignst
import Derived.Test.YtaomfbbbdddlmaaQt13
import Derived.Test.YtaomfbbbdddlmaaQt3
set_option linter.unusedVariables false
set_option linter.unusedSimpArgs false
namespace Go.Proofs.Ytaomfbbbdddlmaa.Sg
open Go Go.RowKit Go.Proofs.Ytaomfbbbdddlmaa.P Go.Proofs.Ytaomfbbbdddlmaa.Evs Go.Proofs.YtaomfbbbdddlmaaW.PrintWords Go.Proofs.YtaomfbbbdddlmaaW.PrintLast

/-! ### six digits -/
def digs : ByteArray := ⟨#[48, 49, 50, 51, 52, 53, 54, 55, 56, 57, 65, 66, 67, 68, 69, 70]⟩
theorem and15_le (x : Int) : 0 ≤ bits .and .i64 x 15 ∧ bits .and .i64 x 15 ≤ 15 := by
  have h : ((BitVec.ofInt 64 x) &&& (BitVec.ofInt 64 15)).toNat ≤ 15 := by
    rw [BitVec.toNat_and]
    exact Nat.and_le_right
  have e : bits .and .i64 x 15 = IntKind.i64.wrap ((((BitVec.ofInt 64 x) &&& (BitVec.ofInt 64 15)).toNat : Nat) : Int) := rfl
  rw [e, wraps_i64 _ (by omega) (by omega)]
  omega
theorem dig_at : ∀ d : Nat, d < 16 → (strOfNums [bt digs (d : Int)]).data = (digs.extract d (d + 1)).data := by decide +kernel
theorem dig_cut (d : Nat) (h : d < 16) : strOfNums [bt digs (d : Int)] = digs.extract d (d + 1) := ByteArray.ext (dig_at d h)
theorem dig_size : ∀ d : Nat, d < 16 → (digs.extract d (d + 1)).size = 1 := by decide +kernel
theorem u64_small (x : Int) (h0 : 0 ≤ x) (h1 : x < 18446744073709551616) : IntKind.u64.wrap x = x := by
  simp [IntKind.wrap, IntKind.bits, IntKind.signed]; omega
theorem app_assoc (a b c : ByteArray) : a ++ b ++ c = a ++ (b ++ c) := by
  apply ByteArray.ext
  simp [ByteArray.data_append]
theorem Hex_loop (n : Int) : ∀ (j : Nat) (acc : ByteArray) (x : List Int), j ≤ 6 → acc.size + j ≤ 100 → strOfNums x = (⟨#[85]⟩ : ByteArray) ++ acc →
    ∃ t : ByteArray, Ev (fun k => spec_l13Hex.l0 k n digs acc ((j : Int) - 1)) t ∧ Ev (fun k => impl_spelt.l0 k n x (4 * (j : Int) - 4)) ((⟨#[85]⟩ : ByteArray) ++ t) ∧ t.size = acc.size + j := by
  intro j
  induction j with
  | zero =>
    intro acc x _ _ hx
    refine ⟨acc, Ev.here fun k => ?_, Ev.here fun k => ?_, by omega⟩
    · simp only [spec_l13Hex.l0]; rw [if_neg (by omega)]
    · simp only [impl_spelt.l0]; rw [if_neg (by omega), hx]
  | succ j ih =>
    intro acc x hj ha hx
    have hlen : x.length = acc.size + 1 := by
      rw [← strOfNums_size, hx, ByteArray.size_append]
      show 1 + acc.size = _; omega
    obtain ⟨d0, d1⟩ := and15_le (shr .i64 n (4 * (j : Int)))
    generalize hD : bits .and .i64 (shr .i64 n (4 * (j : Int))) 15 = D at d0 d1
    obtain ⟨d, rfl⟩ := Int.eq_ofNat_of_zero_le d0
    have hs := dig_size d (by omega)
    obtain ⟨t, e1, e2, ht⟩ := ih (acc ++ digs.extract d (d + 1)) (x ++ [bt digs (d : Int)]) (by omega) (by rw [ByteArray.size_append]; omega) (by rw [nums_append, dig_cut d (by omega), hx, app_assoc])
    have hw1 : wrap64 (4 * (((j + 1 : Nat) : Int) - 1)) = 4 * (j : Int) := by rw [w64 (by omega) (by omega)]; omega
    have hw2 : wrap64 ((d : Int) + 1) = ((d + 1 : Nat) : Int) := by rw [w64 (by omega) (by omega)]; rfl
    have hw3 : wrap64 (((j + 1 : Nat) : Int) - 1 - 1) = (j : Int) - 1 := by rw [w64 (by omega) (by omega)]; omega
    have hw4 : IntKind.u64.wrap (4 * ((j + 1 : Nat) : Int) - 4) = 4 * (j : Int) := by rw [u64_small _ (by omega) (by omega)]; omega
    have hw5 : wrap64 (4 * ((j + 1 : Nat) : Int) - 4 - 4) = 4 * (j : Int) - 4 := by rw [w64 (by omega) (by omega)]; omega
    refine ⟨t, Ev.step (fun k => ?_) e1, Ev.step (fun k => ?_) e2, by rw [ht, ByteArray.size_append]; omega⟩
    · simp only [spec_l13Hex.l0, hw1, hD, hw2, hw3, Int.toNat_natCast]
      rw [if_pos (by omega), if_pos (by omega), if_pos (by omega), if_pos (by omega), if_pos (show ((d + 1 : Nat) : Int) ≤ (digs.size : Int) by show _ ≤ (16 : Int); omega), if_pos (by omega)]
    · simp only [impl_spelt.l0, hw4, hD, hw5]
      rw [if_pos (by omega), if_pos (by omega), if_pos (by omega), if_pos (by omega), if_pos (by omega)]
      rfl
theorem Hex_same (n : Int) : ∃ t : ByteArray, Ev (fun k => spec_l13Hex.f k n) t ∧ Ev (fun k => impl_spelt.f k n) ((⟨#[85]⟩ : ByteArray) ++ t) ∧ t.size = 6 := by
  obtain ⟨t, e1, e2, ht⟩ := Hex_loop n 6 (⟨#[]⟩ : ByteArray) [85] (by omega) (by decide) (by decide +kernel)
  exact ⟨t, e1, e2, ht⟩

/-! ### one sign, all signs -/
theorem pick_same (i n : Int) (hi : 0 ≤ i) (l : List Int) (acc : ByteArray) (ha : acc.size ≤ 100000000) :
    ∃ u : ByteArray, Ev (fun k => impl_NameOf.pick k i n) u ∧ 1 ≤ u.size ∧ u.size ≤ 7 ∧
      ∀ t, Ev (fun k => spec_NameOf.l0 k l (acc ++ u) (wrap64 (i + 1))) t →
        Ev (fun k => if i = 0 then ((spec_IsFirst.f k n).bind fun b => if b = true then spec_NameOf.j1 k l acc i n true else if i > 0 then ((spec_IsNext.f k n).bind fun b => spec_NameOf.j1 k l acc i n b) else spec_NameOf.j1 k l acc i n false) else if i > 0 then ((spec_IsNext.f k n).bind fun b => spec_NameOf.j1 k l acc i n b) else spec_NameOf.j1 k l acc i n false) t := by
  obtain ⟨p, p1, p2, p3, p4⟩ := PutSign_same n
  obtain ⟨h, h1, h2, h3⟩ := Hex_same n
  obtain ⟨b1, f1, f2⟩ := IsFirst_same n
  obtain ⟨b2, g1, g2⟩ := IsNext_same n
  have hu : ((⟨#[85]⟩ : ByteArray) ++ h).size = 7 := by rw [ByteArray.size_append, h3]; rfl
  have hu1 : (acc ++ (⟨#[85]⟩ : ByteArray)).size = acc.size + 1 := by rw [ByteArray.size_append]; rfl
  have hT : acc.size + p.size ≤ 9223372036854775807 := by omega
  have hF : (acc ++ (⟨#[85]⟩ : ByteArray)).size + h.size ≤ 9223372036854775807 := by omega
  have hF1 : acc.size + 1 ≤ 9223372036854775807 := by omega
  have jT : ∀ t, Ev (fun k => spec_NameOf.l0 k l (acc ++ p) (wrap64 (i + 1))) t → Ev (fun k => spec_NameOf.j1 k l acc i n true) t := fun t ht =>
    Ev.step (fun k => by simp only [spec_NameOf.j1]; rw [if_pos True.intro]) (Ev.bind p1 (Ev.ite_pos hT ht))
  have jF : ∀ t, Ev (fun k => spec_NameOf.l0 k l (acc ++ ((⟨#[85]⟩ : ByteArray) ++ h)) (wrap64 (i + 1))) t → Ev (fun k => spec_NameOf.j1 k l acc i n false) t := fun t ht =>
    Ev.step (fun k => by simp only [spec_NameOf.j1]; rw [if_neg (by decide), if_pos hF1]) (Ev.bind h1 (Ev.ite_pos hF (by rw [← app_assoc] at ht; exact ht)))
  by_cases c : i = 0
  · cases b1 with
    | true => exact ⟨p, Ev.opt (by rw [if_pos c]; exact f2) (Ev.ite_pos rfl p2), p3, by omega, fun t ht => Ev.ite_pos c (Ev.bind f1 (Ev.ite_pos rfl (jT t ht)))⟩
    | false => exact ⟨_, Ev.opt (by rw [if_pos c]; exact f2) (Ev.ite_neg (by decide) h2), by omega, by omega, fun t ht => Ev.ite_pos c (Ev.bind f1 (Ev.ite_neg (by decide) (Ev.ite_neg (by omega) (jF t ht))))⟩
  · cases b2 with
    | true => exact ⟨p, Ev.opt (by rw [if_neg c]; exact g2) (Ev.ite_pos rfl p2), p3, by omega, fun t ht => Ev.ite_neg c (Ev.ite_pos (by omega) (Ev.bind g1 (jT t ht)))⟩
    | false => exact ⟨_, Ev.opt (by rw [if_neg c]; exact g2) (Ev.ite_neg (by decide) h2), by omega, by omega, fun t ht => Ev.ite_neg c (Ev.ite_pos (by omega) (Ev.bind g1 (jF t ht)))⟩
theorem size_nil (t : ByteArray) : t.toList = [] ↔ t.size = 0 := by
  rw [ByteArray.toList_eq, ← List.length_eq_zero_iff]
  rfl
theorem NameOf_loop (l : List Int) (hl : l.length ≤ 1048576) : ∀ (d j : Nat) (acc : ByteArray), l.length - j = d → j ≤ l.length → acc.size ≤ 7 * j →
    ∃ t : ByteArray, Ev (fun k => impl_NameOf.l0 k l acc j) t ∧ Ev (fun k => spec_NameOf.l0 k l acc j) (if t.toList = [] then (⟨#[85]⟩ : ByteArray) else t) ∧ acc.size + (l.length - j) ≤ t.size ∧ t.size ≤ 7 * l.length := by
  intro d
  induction d with
  | zero =>
    intro j acc hd hj ha
    refine ⟨acc, Ev.here fun k => ?_, Ev.here fun k => ?_, by omega, by omega⟩
    · simp only [impl_NameOf.l0]; rw [if_neg (by omega)]
    · simp only [spec_NameOf.l0]; rw [if_neg (by omega)]
      by_cases c : acc.toList = []
      · rw [if_pos c, if_pos c]
      · rw [if_neg c, if_neg c]
  | succ d ih =>
    intro j acc hd hj ha
    have hjl : j < l.length := by omega
    obtain ⟨u, hu, hu1, hu2, hu3⟩ := pick_same (j : Int) l[j] (by omega) l acc (by omega)
    have hs : (acc ++ u).size = acc.size + u.size := ByteArray.size_append
    obtain ⟨t, e1, e2, ht1, ht2⟩ := ih (j + 1) (acc ++ u) (by omega) (by omega) (by omega)
    have hw : wrap64 ((j : Int) + 1) = ((j + 1 : Nat) : Int) := by rw [w64 (by omega) (by omega)]; rfl
    have hU : acc.size + u.size ≤ 140737488355328 := by omega
    refine ⟨t, ?_, ?_, by omega, ht2⟩
    · refine Ev.step (fun k => by simp only [impl_NameOf.l0]; rw [if_pos (by omega), if_pos (by omega), rdI l j hjl]) (Ev.bind hu (Ev.ite_pos hU ?_))
      simp only [hw]; exact e1
    · refine Ev.step (fun k => ?_) (hu3 _ (by rw [hw]; exact e2))
      simp only [spec_NameOf.l0]; rw [if_pos (by omega), if_pos (by omega), rdI l j hjl]
theorem NameOf_same (s : ByteArray) (hs : s.size ≤ 1048576) : ∃ t : ByteArray, Ev (fun k => spec_NameOf.f k s) t ∧ Ev (fun k => impl_NameOf.f k s) t ∧ t.size ≤ 7 * s.size + 1 := by
  unfold spec_NameOf.f impl_NameOf.f
  by_cases c : s.size = 0
  · obtain ⟨l, e1, e2, hl⟩ := Signs_same s hs
    obtain rfl : l = [] := List.eq_nil_of_length_eq_zero (by omega)
    refine ⟨(⟨#[85]⟩ : ByteArray), Ev.bind e1 (Ev.here fun k => ?_), Ev.ite_pos ((size_nil s).mpr c) (Ev.now _), by show 1 ≤ _; omega⟩
    simp only [spec_NameOf.l0]; rw [if_neg (by decide), if_pos ((size_nil _).mpr rfl)]
  · obtain ⟨l, e1, e2, hl, hl0⟩ := Signs_some s hs (by omega)
    obtain ⟨t, h1, h2, h3, h4⟩ := NameOf_loop l (by omega) l.length 0 (⟨#[]⟩ : ByteArray) (by omega) (by omega) (by decide)
    have h0 : (⟨#[]⟩ : ByteArray).size = 0 := rfl
    rw [if_neg (by rw [size_nil]; omega)] at h2
    exact ⟨t, Ev.bind e1 h2, Ev.ite_neg (by rw [size_nil]; exact c) (Ev.bind e2 h1), by omega⟩
end Go.Proofs.Ytaomfbbbdddlmaa.Sg
