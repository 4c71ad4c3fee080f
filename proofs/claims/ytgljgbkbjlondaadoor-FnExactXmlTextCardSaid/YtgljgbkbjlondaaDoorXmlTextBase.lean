/- A text of a strict text: the program's XmlText (it looks back for ']]' ahead of a '>') and the reference's (it looks ahead) tell the same. No conditions but the sizes. -/
import Derived.Test.YtgljgbkbjlondaaDoorXmlRefBase
import Derived.Test.YtgljgbkbjlondaaDoorFindByte
import Derived.Test.YtgljgbkbjlondaaDoorLoopBase
import Derived.Lib.IndexAny
import Derived.Test.YtgljgbkbjlondaaDoorPt18
import Derived.Test.YtgljgbkbjlondaaDoorPt21
import Derived.Test.YtgljgbkbjlondaaDoorPt22
import Derived.Test.YtgljgbkbjlondaaDoorPt3
import Derived.Test.YtgljgbkbjlondaaDoorPt4
set_option linter.unusedVariables false
set_option linter.unusedSimpArgs false
namespace Go.Proofs.YtgljgbkbjlondaaDoor.Sg
open Go Go.RowKit Go.Proofs.YtgljgbkbjlondaaDoor.P Go.Proofs.YtgljgbkbjlondaaDoor.Evs Go.Proofs.YtgljgbkbjlondaaDoor.Dg Go.Proofs.YtgljgbkbjlondaaDoorW.PrintWords Go.Proofs.YtgljgbkbjlondaaDoorW.PrintLast

/-! ### bytes of signs -/
theorem nums_of_bytes (t : ByteArray) : strOfNums (bytesOf t) = t := by
  unfold strOfNums bytesOf
  rw [List.map_map, show ((fun n : Int => UInt8.ofNat n.toNat) ∘ fun b : UInt8 => (b.toNat : Int)) = id from funext fun b => by simp, List.map_id]
theorem nums_app (a b : List Int) : strOfNums (a ++ b) = strOfNums a ++ strOfNums b := by
  apply ByteArray.ext
  simp [strOfNums, ByteArray.data_append]
theorem nums_list (l : List Int) : (strOfNums l).data.toList = l.map fun n : Int => UInt8.ofNat n.toNat := by simp [strOfNums]
theorem high_nums (l : List Int) (h : ∀ x, x ∈ l → 128 ≤ x ∧ x ≤ 255) : ∀ b, b ∈ (strOfNums l).data.toList → 128 ≤ b.toNat := fun b hb => by
  rw [nums_list] at hb
  obtain ⟨x, hx, rfl⟩ := List.mem_map.mp hb
  have := h x hx
  show 128 ≤ x.toNat % 256
  omega
theorem put_j (n : Int) (h0 : 0 ≤ n) (h1 : n ≤ 1114111) : ∃ t : ByteArray, Ev (fun k => spec_PutSign.j0 k n) t ∧ ((n < 128 ∧ t = strOfNums [n]) ∨ (128 ≤ n ∧ ∀ b, b ∈ t.data.toList → 128 ≤ b.toNat)) := by
  have a0 : (wrap64 (128 + Go.bits .and .i64 n 63)) % 256 = 128 + n % 64 := by rw [and63 n h0 (by omega), w64 (by omega) (by omega)]; omega
  have a6 : (wrap64 (128 + Go.bits .and .i64 (n / 64) 63)) % 256 = 128 + n / 64 % 64 := by rw [and63 _ (by omega) (by omega), w64 (by omega) (by omega)]; omega
  have a12 : (wrap64 (128 + Go.bits .and .i64 (n / 4096) 63)) % 256 = 128 + n / 4096 % 64 := by rw [and63 _ (by omega) (by omega), w64 (by omega) (by omega)]; omega
  by_cases c1 : n < 128
  · refine ⟨strOfNums [n % 256], Ev.here fun k => by simp only [spec_PutSign.j0]; rw [if_pos c1], Or.inl ⟨c1, by rw [show n % 256 = n by omega]⟩⟩
  by_cases c2 : n < 2048
  · refine ⟨_, Ev.here fun k => by simp only [spec_PutSign.j0]; rw [if_neg c1, if_pos c2], Or.inr ⟨by omega, high_nums _ fun x hx => ?_⟩⟩
    rw [a0, w64 (by omega) (by omega)] at hx
    simp only [List.mem_cons, List.not_mem_nil, or_false] at hx
    omega
  by_cases c3 : n < 65536
  · refine ⟨_, Ev.here fun k => by simp only [spec_PutSign.j0]; rw [if_neg c1, if_neg c2, if_pos c3], Or.inr ⟨by omega, high_nums _ fun x hx => ?_⟩⟩
    rw [a0, a6, w64 (by omega) (by omega)] at hx
    simp only [List.mem_cons, List.not_mem_nil, or_false] at hx
    omega
  · refine ⟨_, Ev.here fun k => by simp only [spec_PutSign.j0]; rw [if_neg c1, if_neg c2, if_neg c3], Or.inr ⟨by omega, high_nums _ fun x hx => ?_⟩⟩
    rw [a0, a6, a12, w64 (by omega) (by omega)] at hx
    simp only [List.mem_cons, List.not_mem_nil, or_false] at hx
    omega
theorem PutSign_bytes (n : Int) : ∃ t : ByteArray, Ev (fun k => spec_PutSign.f k n) t ∧ Ev (fun k => impl_PutSign.f k n) t ∧ 1 ≤ t.size ∧ t.size ≤ 4 ∧ ((0 ≤ n ∧ n < 128 ∧ t = strOfNums [n]) ∨ (∀ b, b ∈ t.data.toList → 128 ≤ b.toNat)) := by
  obtain ⟨t, e1, e2, h1, h2⟩ := PutSign_same n
  refine ⟨t, e1, e2, h1, h2, ?_⟩
  have e1' := e1
  unfold spec_PutSign.f at e1'
  rw [SignOk_same, SignOk_tells] at e1'
  by_cases c : (0 ≤ n ∧ n ≤ 1114111) ∧ ¬ (55296 ≤ n ∧ n ≤ 57343)
  · obtain ⟨u, eu, hu⟩ := put_j n c.1.1 c.1.2
    have : Ev (fun k => (some (decide ((0 ≤ n ∧ n ≤ 1114111) ∧ ¬ (55296 ≤ n ∧ n ≤ 57343)))).bind fun t107 => if t107 = true then spec_PutSign.j0 k n else spec_PutSign.j0 k 65533) u := Ev.opt rfl (Ev.ite_pos (decide_eq_true c) eu)
    obtain rfl := Ev.uniq e1' this
    rcases hu with ⟨q1, q2⟩ | q
    · exact Or.inl ⟨c.1.1, q1, q2⟩
    · exact Or.inr q.2
  · obtain ⟨u, eu, hu⟩ := put_j 65533 (by decide) (by decide)
    have : Ev (fun k => (some (decide ((0 ≤ n ∧ n ≤ 1114111) ∧ ¬ (55296 ≤ n ∧ n ≤ 57343)))).bind fun t107 => if t107 = true then spec_PutSign.j0 k n else spec_PutSign.j0 k 65533) u := Ev.opt rfl (Ev.ite_neg (by rw [decide_eq_true_iff]; exact c) eu)
    obtain rfl := Ev.uniq e1' this
    rcases hu with ⟨q1, _⟩ | q
    · exact absurd q1 (by decide)
    · exact Or.inr q.2
/-- What is as a piece of s, byte by byte. -/
theorem ext_byte (s t : ByteArray) (i m : Nat) (h : i + m ≤ s.size) (e : t.toList = (s.extract i (i + m)).toList) : t.size = m ∧ ∀ q, q < m → bt s ((i + q : Nat) : Int) = ((t.data.toList.getD q 0).toNat : Int) := by
  have hs : s.data.toList.length = s.size := rfl
  rw [Lib.toList_data, Lib.extract_toList, show i + m - i = m by omega] at e
  have hl : t.size = m := by
    show t.data.toList.length = m
    rw [e, List.length_take, List.length_drop]
    omega
  refine ⟨hl, fun q hq => ?_⟩
  rw [bt_list s (i + q) (by omega), e, List.getD_eq_getElem?_getD, List.getElem?_take_of_lt hq, List.getElem?_drop, List.getElem?_eq_getElem (by omega)]
  rfl
theorem suffix_two (s : ByteArray) (a i : Nat) (hi : i ≤ s.size) : Lib.hasSuffix (s.extract a i).data.toList (⟨#[93, 93]⟩ : ByteArray).data.toList = true → a + 2 ≤ i ∧ bt s ((i - 2 : Nat) : Int) = 93 ∧ bt s ((i - 1 : Nat) : Int) = 93 := by
  have hs : s.data.toList.length = s.size := rfl
  intro h
  unfold Lib.hasSuffix at h
  rw [List.isSuffixOf_iff_suffix] at h
  obtain ⟨u, hu⟩ := h
  rw [Lib.extract_data] at hu
  have hl := congrArg List.length hu
  rw [List.length_append, List.length_take, List.length_drop] at hl
  have h2 : (⟨#[93, 93]⟩ : ByteArray).data.toList.length = 2 := rfl
  rw [h2] at hl
  have g : ∀ q : Nat, (u ++ (⟨#[93, 93]⟩ : ByteArray).data.toList)[q]? = ((s.data.toList.drop a).take (i - a))[q]? := fun q => by rw [hu]
  have g0 := g u.length
  have g1 := g (u.length + 1)
  rw [List.getElem?_append_right (Nat.le_refl _), Nat.sub_self, List.getElem?_take_of_lt (by omega), List.getElem?_drop, show a + u.length = i - 2 by omega, List.getElem?_eq_getElem (l := s.data.toList) (i := i - 2) (by omega)] at g0
  rw [List.getElem?_append_right (by omega), show u.length + 1 - u.length = 1 by omega, List.getElem?_take_of_lt (by omega), List.getElem?_drop, show a + (u.length + 1) = i - 1 by omega, List.getElem?_eq_getElem (l := s.data.toList) (i := i - 1) (by omega)] at g1
  refine ⟨by omega, ?_, ?_⟩
  · have g2 : (93 : UInt8) = s.data.toList[i - 2] := Option.some.inj g0
    rw [bt_list s (i - 2) (by omega), ← g2]; rfl
  · have g2 : (93 : UInt8) = s.data.toList[i - 1] := Option.some.inj g1
    rw [bt_list s (i - 1) (by omega), ← g2]; rfl
theorem suffix_yes (s : ByteArray) (a i : Nat) (hi : i ≤ s.size) (ha : a + 2 ≤ i) (h1 : bt s ((i - 2 : Nat) : Int) = 93) (h2 : bt s ((i - 1 : Nat) : Int) = 93) : Lib.hasSuffix (s.extract a i).data.toList (⟨#[93, 93]⟩ : ByteArray).data.toList = true := by
  have hs : s.data.toList.length = s.size := rfl
  rw [bt_list s (i - 2) (by omega)] at h1
  rw [bt_list s (i - 1) (by omega)] at h2
  have b1 : s.data.toList[i - 2] = 93 := UInt8.toNat_inj.mp (by show _ = 93; omega)
  have b2 : s.data.toList[i - 1] = 93 := UInt8.toNat_inj.mp (by show _ = 93; omega)
  unfold Lib.hasSuffix
  rw [List.isSuffixOf_iff_suffix, Lib.extract_data]
  refine ⟨((s.data.toList.drop a).take (i - a)).take (i - a - 2), ?_⟩
  apply List.ext_getElem?
  intro q
  have hlen : (((s.data.toList.drop a).take (i - a)).take (i - a - 2)).length = i - a - 2 := by rw [List.length_take, List.length_take, List.length_drop]; omega
  rcases Nat.lt_or_ge q (i - a - 2) with c | c
  · rw [List.getElem?_append_left (by omega), List.getElem?_take_of_lt c]
  · rw [List.getElem?_append_right (by omega), hlen]
    rcases Nat.lt_or_ge q (i - a) with c2 | c2
    · rw [List.getElem?_take_of_lt c2, List.getElem?_drop]
      by_cases c3 : q = i - a - 2
      · subst c3
        rw [Nat.sub_self, show a + (i - a - 2) = i - 2 by omega, List.getElem?_eq_getElem (l := s.data.toList) (i := i - 2) (by omega), b1]
        rfl
      · obtain rfl : q = i - a - 1 := by omega
        rw [show i - a - 1 - (i - a - 2) = 1 by omega, show a + (i - a - 1) = i - 1 by omega, List.getElem?_eq_getElem (l := s.data.toList) (i := i - 1) (by omega), b2]
        rfl
    · rw [List.getElem?_eq_none (show (⟨#[93, 93]⟩ : ByteArray).data.toList.length ≤ q - (i - a - 2) from by show 2 ≤ q - (i - a - 2); omega), List.getElem?_eq_none (by rw [List.length_take]; omega)]
theorem cleanSign_tells (s : ByteArray) (j m : Nat) (n : Int) (t : ByteArray) (hs : s.size ≤ 1048576) (hj : j < s.size) (hm : j + m ≤ s.size) (e : Ev (fun k => impl_getSign.f k s j) (n, (m : Int))) (et : Ev (fun k => impl_PutSign.f k n) t) :
    Ev (fun k => impl_cleanSign.f k s j) (if t.toList = (s.extract j (j + m)).toList then (n, (m : Int)) else (-1, 0)) := by
  have hw : wrap64 ((j : Int) + (m : Int)) = ((j + m : Nat) : Int) := by rw [w64 (by omega) (by omega)]; rfl
  unfold impl_cleanSign.f
  refine Ev.ite_neg (by omega) (Ev.bind e (Ev.bind et ?_))
  simp only [hw, Int.toNat_natCast]
  refine Ev.ite_pos (by omega) (Ev.ite_pos (by omega) (Ev.ite_pos (by omega) ?_))
  by_cases c : t.toList = (s.extract j (j + m)).toList
  · rw [if_pos c, if_pos c]; exact Ev.now _
  · rw [if_neg c, if_neg c]; exact Ev.now _
/-! ### a sign of one byte -/
theorem many_ascii : ∀ b, b < 128 → spec_l1Many.f ((b : Nat) : Int) = some 1 := by decide +kernel
theorem getSign_ascii (s : ByteArray) (p : Nat) (hs : s.size ≤ 1048576) (hp : p < s.size) (b : Nat) (hb : bt s (p : Int) = (b : Int)) (h : b < 128) : Ev (fun k => impl_getSign.f k s p) ((b : Int), ((1 : Nat) : Int)) := by
  obtain ⟨r, m, e1, e2, _⟩ := GetSign_same s p hs hp
  have hwb : wrap64 (b : Int) = b := w64 (by omega) (by omega)
  have e3 : Ev (fun k => spec_GetSign.f k s p) ((b : Int), ((1 : Nat) : Int)) := Ev.here fun k => by
    unfold spec_GetSign.f
    rw [if_neg (by omega), decide_eq_false (by omega)]
    simp only [spec_GetSign.j0, hb, hwb]
    rw [if_neg (by decide), if_pos (by omega), if_pos (by omega), many_ascii b h]
    rfl
  exact Ev.cast e2 (Ev.uniq e1 e3)
theorem clean_ascii (s : ByteArray) (p : Nat) (hs : s.size ≤ 1048576) (hp : p < s.size) (b : Nat) (hb : bt s (p : Int) = (b : Int)) (h : b < 128) : Ev (fun k => impl_cleanSign.f k s p) ((b : Int), ((1 : Nat) : Int)) := by
  obtain ⟨t, _, e2, _, _⟩ := PutSign_same (b : Int)
  have hc := cleanSign_tells s p 1 (b : Int) t hs hp (by omega) (getSign_ascii s p hs hp b hb h) e2
  have hsl : s.data.toList.length = s.size := rfl
  have ex : (s.extract p (p + 1)).toList = [UInt8.ofNat b] := by
    rw [Lib.extract_toList, show p + 1 - p = 1 by omega, List.drop_eq_getElem_cons (by omega), List.take_succ_cons, List.take_zero]
    rw [bt_list s p (by omega)] at hb
    congr 1
    apply UInt8.toNat_inj.mp
    show _ = b % 256
    omega
  have tl : t.toList = [UInt8.ofNat b] := by
    obtain ⟨t2, p1, p2, _, _⟩ := PutSign_same (b : Int)
    obtain ⟨u, eu, hu⟩ := put_j (b : Int) (by omega) (by omega)
    have es : Ev (fun k => spec_PutSign.f k (b : Int)) u := by
      unfold spec_PutSign.f
      rw [SignOk_same, SignOk_tells]
      exact Ev.opt rfl (Ev.ite_pos (decide_eq_true (by omega)) eu)
    rw [Ev.uniq e2 p2, Ev.uniq p1 es]
    rcases hu with ⟨_, e⟩ | h3
    · rw [e, Lib.toList_data, nums_list]; rfl
    · omega
  rw [tl, ex, if_pos rfl] at hc
  exact hc
/-! ### the rounds -/
/-- A byte stands among the ends. -/
def stops (en : ByteArray) (b : UInt8) : Prop := b ∈ en.data.toList
theorem spec_find (en : ByteArray) (b : UInt8) (he : en.size ≤ 1048576) : ∃ r : Int, Ev (fun k => spec_l4Find.f k en 0 (b.toNat : Int)) r ∧ (r < 0 ↔ ¬ stops en b) := by
  obtain ⟨r, e, h⟩ := Find_some en b he en.size 0 (by omega) (by omega)
  rw [List.drop_zero] at h
  exact ⟨r, e, h⟩
theorem impl_find (en : ByteArray) (b : UInt8) : (Lib.indexByte en.data.toList b < 0) ↔ ¬ stops en b := by
  have h := Lib.contains_iff_indexByte en.data.toList b
  unfold stops
  constructor
  · intro h1 h2
    rw [List.contains_iff_mem.mpr h2] at h
    have := of_decide_eq_true h.symm
    omega
  · intro h1
    rcases Int.lt_or_le (Lib.indexByte en.data.toList b) 0 with c | c
    · exact c
    · rw [decide_eq_true c] at h
      exact absurd (List.contains_iff_mem.mp h) h1
theorem byte_of (s : ByteArray) (i : Nat) (h : i < s.data.toList.length) : (bt s (i : Int)).toNat.toUInt8 = s.data.toList[i] := by
  rw [bt_list s i h]
  apply UInt8.toNat_inj.mp
  show ((s.data.toList[i]).toNat : Int).toNat % 256 = _
  have := (s.data.toList[i]).toNat_lt
  omega
theorem XText_stop (s en : ByteArray) (a1 : Int) (i : Nat) (acc : ByteArray) (h : i < s.size → stops en (s.data.toList.getD i 0)) : Ev (fun k => impl_XmlText.l0 k s en a1 acc i) (acc, (i : Int)) := Ev.here fun k => by
  have hs : s.data.toList.length = s.size := rfl
  simp only [impl_XmlText.l0]
  by_cases c : i < s.size
  · have h1 := h c
    rw [List.getD_eq_getElem?_getD, List.getElem?_eq_getElem (by omega), Option.getD_some] at h1
    rw [if_pos (by omega), if_pos (by omega), byte_of s i (by omega), if_neg (fun h2 => (impl_find en _).mp h2 h1)]
  · rw [if_neg (by omega)]
/-- One round of the program's at a sign that is there, and no reference. -/
theorem XText_sign (s en : ByteArray) (a i : Nat) (acc : ByteArray) (n : Int) (m : Nat) (hs : s.size ≤ 1048576) (hi : i + m ≤ s.size) (hm : 1 ≤ m) (ha : a ≤ i) (hacc : acc.size ≤ i) (hst : ¬ stops en (s.data.toList.getD i 0)) (h38 : bt s (i : Int) ≠ 38)
    (hc : Ev (fun k => impl_cleanSign.f k s i) (n, (m : Int))) (hn : 0 ≤ n) (ht : isT n = true) (h13 : n ≠ 13) (h60 : n ≠ 60) :
    (n = 62 → Lib.hasSuffix (s.extract a i).data.toList (⟨#[93, 93]⟩ : ByteArray).data.toList = true → Ev (fun k => impl_XmlText.l0 k s en a acc i) NoRef) ∧
    (¬ (n = 62 ∧ Lib.hasSuffix (s.extract a i).data.toList (⟨#[93, 93]⟩ : ByteArray).data.toList = true) → ∀ r, Ev (fun k => impl_XmlText.l0 k s en a (acc ++ s.extract i (i + m)) ((i + m : Nat) : Int)) r → Ev (fun k => impl_XmlText.l0 k s en a acc i) r) := by
  have hsl : s.data.toList.length = s.size := rfl
  have hw : wrap64 ((i : Int) + (m : Int)) = ((i + m : Nat) : Int) := by rw [w64 (by omega) (by omega)]; rfl
  have hex : (s.extract i (i + m)).size = m := by rw [sub_size s i (i + m) hi]; omega
  have hsx : (s.extract a i).size ≤ 100000000 := by rw [sub_size s a i (by omega)]; omega
  have b1 : (i : Int) < (s.size : Int) := by omega
  have b2 : (0 : Int) ≤ (i : Int) := by omega
  have b3 : Lib.indexByte en.data.toList (bt s (i : Int)).toNat.toUInt8 < 0 := by
    rw [byte_of s i (by omega), impl_find]
    rw [List.getD_eq_getElem?_getD, List.getElem?_eq_getElem (by omega), Option.getD_some] at hst
    exact hst
  have b4 : (i : Int) ≤ ((i + m : Nat) : Int) := by omega
  have b5 : ((i + m : Nat) : Int) ≤ (s.size : Int) := by omega
  have b6 : acc.size + (s.extract i (i + m)).size ≤ 140737488355328 := by rw [hex]; omega
  have b7 : ¬ n < 0 := by omega
  have b8 : (0 : Int) ≤ (a : Int) := by omega
  have b9 : (a : Int) ≤ (i : Int) := by omega
  have step : ∀ r, Ev (fun k => if n = 62 then (if Lib.hasSuffix (s.extract a i).data.toList (⟨#[93, 93]⟩ : ByteArray).data.toList = true then some ((⟨#[]⟩ : ByteArray), (-1 : Int)) else impl_XmlText.l0 k s en a (acc ++ s.extract i (i + m)) ((i + m : Nat) : Int)) else impl_XmlText.l0 k s en a (acc ++ s.extract i (i + m)) ((i + m : Nat) : Int)) r → Ev (fun k => impl_XmlText.l0 k s en a acc i) r := fun r hr => by
    refine Ev.step (fun k => by simp only [impl_XmlText.l0]; rw [if_pos b1, if_pos b2, if_pos b3, if_neg h38]) (Ev.bind hc (Ev.ite_neg b7 (Ev.opt (isT_impl n) (Ev.ite_pos ht (Ev.ite_neg h13 (Ev.ite_neg h60 ?_))))))
    simp only [hw, Int.toNat_natCast]
    by_cases c : n = 62
    · refine Ev.ite_pos c (Ev.ite_pos b8 (Ev.ite_pos b9 (Ev.ite_pos hsx ?_)))
      have hr2 := Ev.un_pos c hr
      by_cases c2 : Lib.hasSuffix (s.extract a i).data.toList (⟨#[93, 93]⟩ : ByteArray).data.toList = true
      · exact Ev.ite_pos c2 (Ev.un_pos c2 hr2)
      · exact Ev.ite_neg c2 (Ev.ite_pos b4 (Ev.ite_pos b5 (Ev.ite_pos b6 (Ev.un_neg c2 hr2))))
    · exact Ev.ite_neg c (Ev.ite_pos b4 (Ev.ite_pos b5 (Ev.ite_pos b6 (Ev.un_neg c hr))))
  refine ⟨fun c c2 => step _ (Ev.ite_pos c (Ev.ite_pos c2 (Ev.now _))), fun c r hr => step r ?_⟩
  by_cases c1 : n = 62
  · exact Ev.ite_pos c1 (Ev.ite_neg (fun c2 => c ⟨c1, c2⟩) hr)
  · exact Ev.ite_neg c1 hr
theorem isT_ascii : ∀ b, 32 ≤ b → b < 128 → isT ((b : Nat) : Int) = true := fun b h1 h2 => by
  have e := isT_impl (b : Int)
  unfold impl_IsText.f at e
  rw [SignOk_tells, if_neg (by omega), if_neg (by omega), if_neg (by omega), decide_eq_true (by omega), Option.bind_some, if_pos rfl, if_pos (by omega), if_neg (by omega)] at e
  rw [← Option.some.inj e]
  rw [bne_iff_ne]
  omega
/-- The program fails where ']]>' stands at a place that it comes to, and '>' is no end. -/
theorem XText_bad (s en : ByteArray) (a i : Nat) (acc : ByteArray) (hs : s.size ≤ 1048576) (hi : i + 3 ≤ s.size) (ha : a ≤ i) (hacc : acc.size ≤ i) (h0 : bt s ((i : Nat) : Int) = 93) (h1 : bt s ((i + 1 : Nat) : Int) = 93) (h2 : bt s ((i + 2 : Nat) : Int) = 62)
    (e93 : ¬ stops en 93) (e62 : ¬ stops en 62) : Ev (fun k => impl_XmlText.l0 k s en a acc i) NoRef := by
  have hsl : s.data.toList.length = s.size := rfl
  have at_ : ∀ p b, p < s.size → bt s ((p : Nat) : Int) = ((b : UInt8).toNat : Int) → s.data.toList.getD p 0 = b := fun p b hp hb => by
    rw [List.getD_eq_getElem?_getD, List.getElem?_eq_getElem (by omega), Option.getD_some]
    rw [bt_list s p (by omega)] at hb
    exact UInt8.toNat_inj.mp (by omega)
  have g0 := at_ i 93 (by omega) h0
  have g1 := at_ (i + 1) 93 (by omega) h1
  have g2 := at_ (i + 2) 62 (by omega) h2
  have x1 : (s.extract i (i + 1)).size = 1 := by rw [sub_size s i (i + 1) (by omega)]; omega
  have x2 : (s.extract (i + 1) (i + 1 + 1)).size = 1 := by rw [sub_size s (i + 1) (i + 1 + 1) (by omega)]; omega
  have t93 := isT_ascii 93 (by omega) (by omega)
  have t62 := isT_ascii 62 (by omega) (by omega)
  refine (XText_sign s en a i acc ((93 : Nat) : Int) 1 hs (by omega) (by omega) ha hacc (by rw [g0]; exact e93) (by rw [h0]; decide) (clean_ascii s i hs (by omega) 93 h0 (by omega)) (by omega) t93 (by decide) (by decide)).2 (by rintro ⟨h, _⟩; exact absurd h (by decide)) _ ?_
  refine (XText_sign s en a (i + 1) _ ((93 : Nat) : Int) 1 hs (by omega) (by omega) (by omega) (by rw [ByteArray.size_append, x1]; omega) (by rw [g1]; exact e93) (by rw [h1]; decide) (clean_ascii s (i + 1) hs (by omega) 93 h1 (by omega)) (by omega) t93 (by decide) (by decide)).2 (by rintro ⟨h, _⟩; exact absurd h (by decide)) _ ?_
  exact (XText_sign s en a (i + 2) _ ((62 : Nat) : Int) 1 hs (by omega) (by omega) (by omega) (by rw [ByteArray.size_append, ByteArray.size_append, x1, x2]; omega) (by rw [g2]; exact e62) (by rw [h2]; decide) (clean_ascii s (i + 2) hs (by omega) 62 h2 (by omega)) (by omega) t62 (by decide) (by decide)).1 rfl (suffix_yes s a (i + 2) (by omega) (by omega) h0 h1)
/-- Nothing bad stands at the last two places that were single bytes 93. -/
def bad (s en : ByteArray) (p : Nat) : Prop := stB s p (⟨#[93, 93, 62]⟩ : ByteArray) = true ∧ ¬ stops en 62
def Back (s en : ByteArray) (a i : Nat) : Prop := (a + 1 ≤ i → bt s ((i - 1 : Nat) : Int) = 93 → ¬ bad s en (i - 1)) ∧ (a + 2 ≤ i → bt s ((i - 2 : Nat) : Int) = 93 → bt s ((i - 1 : Nat) : Int) = 93 → ¬ bad s en (i - 2))
theorem bad_of (s en : ByteArray) (p : Nat) (h : p + 3 ≤ s.size) (h0 : bt s ((p : Nat) : Int) = 93) (h1 : bt s ((p + 1 : Nat) : Int) = 93) (h2 : bt s ((p + 2 : Nat) : Int) = 62) (he : ¬ stops en 62) : bad s en p := by
  have hsl : s.data.toList.length = s.size := rfl
  refine ⟨?_, he⟩
  unfold stB
  rw [Bool.and_eq_true]
  refine ⟨decide_eq_true (by show p + 3 ≤ s.size; omega), ?_⟩
  rw [beq_iff_eq, Lib.extract_toList, Lib.toList_data]
  show (s.data.toList.drop p).take (p + 3 - p) = [93, 93, 62]
  rw [bt_list s p (by omega)] at h0
  rw [bt_list s (p + 1) (by omega)] at h1
  rw [bt_list s (p + 2) (by omega)] at h2
  have b0 : s.data.toList[p] = 93 := UInt8.toNat_inj.mp (by show _ = 93; omega)
  have b1 : s.data.toList[p + 1] = 93 := UInt8.toNat_inj.mp (by show _ = 93; omega)
  have b2 : s.data.toList[p + 2] = 62 := UInt8.toNat_inj.mp (by show _ = 62; omega)
  rw [show p + 3 - p = 3 by omega, List.drop_eq_getElem_cons (by omega), List.drop_eq_getElem_cons (i := p + 1) (by omega), List.drop_eq_getElem_cons (i := p + 1 + 1) (by omega), List.take_succ_cons, List.take_succ_cons, List.take_succ_cons, List.take_zero, b0, b1]
  congr 3
theorem nums_sign {size i m d a L : Nat} (hs : size ≤ 1048576) (hd : size - i ≤ d + 1) (ha : a ≤ i) (hm1 : 1 ≤ m) (hm2 : i + m ≤ size) (hL : L ≤ i) :
    wrap64 ((i : Int) + (m : Int)) = ((i + m : Nat) : Int) ∧ (i : Int) ≤ ((i + m : Nat) : Int) ∧ ((i + m : Nat) : Int) ≤ (size : Int) ∧ L + m < 140737488355328 ∧ size - (i + m) ≤ d ∧ a ≤ i + m ∧ L + m ≤ i + m :=
  ⟨by rw [w64 (by omega) (by omega)]; rfl, by omega, by omega, by omega, by omega, by omega, by omega⟩
theorem nums_ref {size i q d a L T : Nat} (hs : size ≤ 1048576) (hd : size - i ≤ d + 1) (ha : a ≤ i) (h2 : (i : Int) + (T : Int) ≤ (q : Int)) (h3 : (i : Int) < (q : Int)) (h4 : q ≤ size) (hL : L ≤ i) :
    size - q ≤ d ∧ a ≤ q ∧ L + T ≤ q ∧ ¬ (q : Int) < 0 ∧ L + T < 140737488355328 ∧ L + T ≤ 140737488355328 :=
  ⟨by omega, by omega, by omega, by omega, by omega, by omega⟩
/-- The reference's round at a sign. -/
theorem S_sign (s en : ByteArray) (acc : List Int) (i m : Nat) (n : Int) (t : ByteArray) (f62 : Int) (bb : Bool) (xs : List Int) (hx : bytesOf (s.extract i (i + m)) = xs) (hA : (i : Int) < (s.size : Int)) (hB : (0 : Int) ≤ (i : Int)) (c38 : ¬ bt s (i : Int) = 38)
    (g1 : Ev (fun k => spec_GetSign.f k s i) (n, (m : Int))) (p1 : Ev (fun k => spec_PutSign.f k n) t) (hw : wrap64 ((i : Int) + (m : Int)) = ((i + m : Nat) : Int)) (b4 : (i : Int) ≤ ((i + m : Nat) : Int)) (b5 : ((i + m : Nat) : Int) ≤ (s.size : Int))
    (hst : spec_l5Stands.f s i (⟨#[93, 93, 62]⟩ : ByteArray) = some bb) (ef : Ev (fun k => spec_l4Find.f k en 0 62) f62) (hroom : acc.length + xs.length < 140737488355328) (r : ByteArray × Int)
    (hr : Ev (fun k => if isT n = true then (if n = 13 then some ((⟨#[]⟩ : ByteArray), (-1 : Int)) else (if n = 60 then some ((⟨#[]⟩ : ByteArray), (-1 : Int)) else (if t.toList = (s.extract i (i + m)).toList then (if bb = true then (if f62 < 0 then some ((⟨#[]⟩ : ByteArray), (-1 : Int)) else spec_XmlText.l0 k s en (acc ++ xs) ((i + m : Nat) : Int)) else spec_XmlText.l0 k s en (acc ++ xs) ((i + m : Nat) : Int)) else some ((⟨#[]⟩ : ByteArray), (-1 : Int))))) else some ((⟨#[]⟩ : ByteArray), (-1 : Int))) r) :
    Ev (fun k => spec_XmlText.j2 k s en acc i true) r := by
  subst hx
  refine Ev.step (fun k => by simp only [spec_XmlText.j2]; rw [if_pos True.intro, if_pos hB, if_pos hA, if_neg c38]) (Ev.bind g1 (Ev.opt (isT_spec n) ?_))
  by_cases q1 : isT n = true
  case neg => exact Ev.ite_neg q1 (Ev.un_neg q1 hr)
  replace hr := Ev.un_pos q1 hr
  refine Ev.ite_pos q1 ?_
  by_cases q2 : n = 13
  · exact Ev.ite_pos q2 (Ev.un_pos q2 hr)
  replace hr := Ev.un_neg q2 hr
  refine Ev.ite_neg q2 ?_
  by_cases q3 : n = 60
  · exact Ev.ite_pos q3 (Ev.un_pos q3 hr)
  replace hr := Ev.un_neg q3 hr
  refine Ev.ite_neg q3 (Ev.bind p1 ?_)
  simp only [hw, Int.toNat_natCast]
  refine Ev.ite_pos b4 (Ev.ite_pos b5 ?_)
  by_cases q4 : t.toList = (s.extract i (i + m)).toList
  case neg => exact Ev.ite_neg q4 (Ev.un_neg q4 hr)
  replace hr := Ev.un_pos q4 hr
  refine Ev.ite_pos q4 (Ev.opt hst ?_)
  by_cases q5 : bb = true
  · replace hr := Ev.un_pos q5 hr
    refine Ev.ite_pos q5 (Ev.bind ef ?_)
    by_cases q6 : f62 < 0
    · exact Ev.ite_pos q6 (Ev.un_pos q6 hr)
    · exact Ev.ite_neg q6 (Ev.ite_pos hroom (Ev.un_neg q6 hr))
  · exact Ev.ite_neg q5 (Ev.ite_pos hroom (Ev.un_neg q5 hr))
/-- The program's round at what is no sign of a text. -/
theorem I_no (s en : ByteArray) (a i : Nat) (A : ByteArray) (hA : (i : Int) < (s.size : Int)) (hB : (0 : Int) ≤ (i : Int)) (hC : Lib.indexByte en.data.toList (bt s (i : Int)).toNat.toUInt8 < 0) (c38 : ¬ bt s (i : Int) = 38) (z : Int × Int)
    (hz : Ev (fun k => impl_cleanSign.f k s i) z) (hno : z.1 < 0 ∨ isT z.1 = false ∨ z.1 = 13 ∨ z.1 = 60) : Ev (fun k => impl_XmlText.l0 k s en a A i) NoRef := by
  refine Ev.step (fun k => by simp only [impl_XmlText.l0]; rw [if_pos hA, if_pos hB, if_pos hC, if_neg c38]) (Ev.bind hz ?_)
  by_cases q0 : z.1 < 0
  · exact Ev.ite_pos q0 (Ev.now _)
  refine Ev.ite_neg q0 (Ev.opt (isT_impl z.1) ?_)
  by_cases q1 : isT z.1 = true
  case neg => exact Ev.ite_neg q1 (Ev.now _)
  refine Ev.ite_pos q1 ?_
  by_cases q2 : z.1 = 13
  · exact Ev.ite_pos q2 (Ev.now _)
  refine Ev.ite_neg q2 ?_
  by_cases q3 : z.1 = 60
  · exact Ev.ite_pos q3 (Ev.now _)
  rcases hno with h | h | h | h
  · exact absurd h q0
  · rw [h] at q1; exact absurd q1 (by decide)
  · exact absurd h q2
  · exact absurd h q3
/-- A sign below 128 has one byte, itself. -/
theorem one_byte (n : Int) (t : ByteArray) (hn0 : 0 ≤ n) (p1 : Ev (fun k => spec_PutSign.f k n) t) (hlt : n < 128) : t = strOfNums [n] := by
  obtain ⟨u, eu, hu⟩ := put_j n hn0 (by omega)
  have es : Ev (fun k => spec_PutSign.f k n) u := by
    unfold spec_PutSign.f
    rw [SignOk_same, SignOk_tells]
    exact Ev.opt rfl (Ev.ite_pos (decide_eq_true (by omega)) eu)
  obtain rfl := Ev.uniq p1 es
  rcases hu with ⟨_, e⟩ | h3
  · exact e
  · exact absurd hlt (by omega)
theorem one_place (s : ByteArray) (i m : Nat) (n : Int) (t : ByteArray) (hn0 : 0 ≤ n) (hlt : n < 128) (ht : t = strOfNums [n]) (hts : t.size = m) (hby : ∀ q, q < m → bt s ((i + q : Nat) : Int) = ((t.data.toList.getD q 0).toNat : Int)) : m = 1 ∧ bt s (i : Int) = n := by
  have hsz : t.size = 1 := by rw [ht, strOfNums_size]; rfl
  have hm : m = 1 := hts.symm.trans hsz
  refine ⟨hm, ?_⟩
  have h0 := hby 0 (by omega)
  rw [Nat.add_zero, ht, nums_list] at h0
  rw [h0]
  show ((n.toNat % 256 : Nat) : Int) = n
  clear h0 hby
  omega
theorem high_place (s : ByteArray) (i m : Nat) (n : Int) (t : ByteArray) (hm1 : 1 ≤ m) (hge : ¬ n < 128) (p5 : (0 ≤ n ∧ n < 128 ∧ t = strOfNums [n]) ∨ (∀ b, b ∈ t.data.toList → 128 ≤ b.toNat)) (hts : t.size = m) (hby : ∀ q, q < m → bt s ((i + q : Nat) : Int) = ((t.data.toList.getD q 0).toNat : Int)) : bt s ((i + m - 1 : Nat) : Int) ≠ 93 := by
  rcases p5 with ⟨_, z2, _⟩ | z
  · exact absurd z2 hge
  · have hql : m - 1 < t.data.toList.length := by show m - 1 < t.size; rw [hts]; exact Nat.sub_lt hm1 Nat.one_pos
    have h0 := hby (m - 1) (Nat.sub_lt hm1 Nat.one_pos)
    rw [show i + (m - 1) = i + m - 1 from (Nat.add_sub_assoc hm1 i).symm] at h0
    rw [h0]
    have := z (t.data.toList.getD (m - 1) 0) (by rw [List.getD_eq_getElem?_getD, List.getElem?_eq_getElem hql]; exact List.getElem_mem hql)
    generalize (t.data.toList.getD (m - 1) 0).toNat = q at this
    clear h0 hby
    omega
theorem Back_next (s en : ByteArray) (a i m : Nat) (hB : Back s en a i) (cb : ¬ bad s en i) (hm1 : 1 ≤ m) (h : m = 1 ∨ bt s ((i + m - 1 : Nat) : Int) ≠ 93) : Back s en a (i + m) := by
  rcases h with rfl | h
  · refine ⟨fun _ _ => ?_, fun h6 h7 _ => ?_⟩
    · rw [show i + 1 - 1 = i from Nat.add_sub_cancel i 1]
      exact cb
    · rw [show i + 1 - 2 = i - 1 from Nat.add_sub_add_right i 1 1] at h7 ⊢
      exact hB.1 (Nat.le_of_succ_le_succ h6) h7
  · exact ⟨fun _ h7 => absurd h7 h, fun _ _ h8 => absurd h8 h⟩
/-- One round at a reference. -/
theorem round_ref (s en : ByteArray) (a i d : Nat) (acc : List Int) (A : ByteArray) (hs : s.size ≤ 1048576) (hd : s.size - i ≤ d + 1) (ha : a ≤ i) (hacc : acc.length ≤ i) (hAl : A.size = acc.length) (hA : (i : Int) < (s.size : Int)) (hB : (0 : Int) ≤ (i : Int)) (hC : Lib.indexByte en.data.toList (bt s (i : Int)).toNat.toUInt8 < 0) (c38 : bt s (i : Int) = 38)
    (ih : ∀ (q : Nat) (t : ByteArray), s.size - q ≤ d → a ≤ q → q ≤ s.size → acc.length + t.size ≤ q → Back s en a q → ∃ r, Ev (fun k => spec_XmlText.l0 k s en (acc ++ bytesOf t) q) r ∧ Ev (fun k => impl_XmlText.l0 k s en a (A ++ t) q) r) :
    ∃ r, Ev (fun k => spec_XmlText.j2 k s en acc i true) r ∧ Ev (fun k => impl_XmlText.l0 k s en a A i) r := by
  obtain ⟨⟨t, e⟩, r1, r2, hok⟩ := XmlRef_full s (i : Int) hs
  have S2 : ∀ r, Ev (fun k => if e < 0 then some ((⟨#[]⟩ : ByteArray), (-1 : Int)) else (if acc.length + (bytesOf t).length < 140737488355328 then (spec_XmlText.l0 k s en (acc ++ bytesOf t) e) else none)) r → Ev (fun k => spec_XmlText.j2 k s en acc i true) r := fun r hr => by
    refine Ev.step (fun k => by simp only [spec_XmlText.j2]; rw [if_pos True.intro, if_pos hB, if_pos hA, if_pos c38]) (Ev.bind r1 hr)
  have I2 : ∀ r, Ev (fun k => if e < 0 then some ((⟨#[]⟩ : ByteArray), (-1 : Int)) else (if A.size + t.size ≤ 140737488355328 then impl_XmlText.l0 k s en a (A ++ t) e else none)) r → Ev (fun k => impl_XmlText.l0 k s en a A i) r := fun r hr => by
    refine Ev.step (fun k => by simp only [impl_XmlText.l0]; rw [if_pos hA, if_pos hB, if_pos hC, if_pos c38]) (Ev.bind r2 hr)
  rcases hok with h | ⟨q, h1, h2, h3, h4, h5⟩
  · obtain ⟨rfl, rfl⟩ := Prod.mk.inj h
    exact ⟨NoRef, S2 _ (Ev.ite_pos (by decide) (Ev.now _)), I2 _ (Ev.ite_pos (by decide) (Ev.now _))⟩
  · obtain rfl : e = (q : Int) := h1
    obtain ⟨k1, k2, k3, k4, k5, k6⟩ := nums_ref hs hd ha (show (i : Int) + (t.size : Int) ≤ (q : Int) from h2) h3 h4 hacc
    have no93 : bt s ((q - 1 : Nat) : Int) ≠ 93 := by rw [h5]; decide
    obtain ⟨r, u1, u2⟩ := ih q t k1 k2 h4 k3 ⟨fun _ h9 => absurd h9 no93, fun _ _ h9 => absurd h9 no93⟩
    exact ⟨r, S2 _ (Ev.ite_neg k4 (Ev.ite_pos (by rw [bytesOf_length]; exact k5) u1)), I2 _ (Ev.ite_neg k4 (Ev.ite_pos (by rw [hAl]; exact k6) u2))⟩
theorem ex_round {X Y : Nat → Option (ByteArray × Int)} (h : ∃ r, Ev X r ∧ Ev Y r) {Z : Nat → Option (ByteArray × Int)} (hz : ∀ r, Ev X r → Ev Z r) : ∃ r, Ev Z r ∧ Ev Y r := by
  obtain ⟨r, h1, h2⟩ := h
  exact ⟨r, hz r h1, h2⟩
theorem back3 {i : Nat} (h : 2 ≤ i) : i - 2 + 3 = i + 1 ∧ i - 2 + 1 = i - 1 ∧ i - 2 + 2 = i := by omega
/-- One round at a sign. -/
theorem round_sign (s en : ByteArray) (a i d : Nat) (acc : List Int) (A : ByteArray) (hs : s.size ≤ 1048576) (he : en.size ≤ 1048576) (hd : s.size - i ≤ d + 1) (ha : a ≤ i) (hi : i < s.size) (hacc : acc.length ≤ i) (hAl : A.size = acc.length) (hA : (i : Int) < (s.size : Int)) (hB : (0 : Int) ≤ (i : Int)) (hC : Lib.indexByte en.data.toList (bt s (i : Int)).toNat.toUInt8 < 0) (hst : ¬ stops en (s.data.toList.getD i 0)) (c38 : ¬ bt s (i : Int) = 38) (hBk : Back s en a i)
    (h93 : bt s (i : Int) = 93 → ¬ stops en 93) (h62 : bt s (i : Int) = 62 → ¬ stops en 62)
    (ih : ∀ (q : Nat) (t : ByteArray), s.size - q ≤ d → a ≤ q → q ≤ s.size → acc.length + t.size ≤ q → Back s en a q → ∃ r, Ev (fun k => spec_XmlText.l0 k s en (acc ++ bytesOf t) q) r ∧ Ev (fun k => impl_XmlText.l0 k s en a (A ++ t) q) r) :
    ∃ r, Ev (fun k => spec_XmlText.j2 k s en acc i true) r ∧ Ev (fun k => impl_XmlText.l0 k s en a A i) r := by
  obtain ⟨n, m, g1, g2, hm1, hm2, hn0⟩ := GetSign_same s i hs hi
  obtain ⟨t, p1, p2, p3, p4, p5⟩ := PutSign_bytes n
  have hcl := cleanSign_tells s i m n t hs hi hm2 g2 p2
  obtain ⟨k1, k2, k3, k4, k5, k6, k7⟩ := nums_sign hs hd ha hm1 hm2 hacc
  obtain ⟨f62, ef62, hf62⟩ := spec_find en 62 he
  have hst3 : spec_l5Stands.f s i (⟨#[93, 93, 62]⟩ : ByteArray) = some (stB s i (⟨#[93, 93, 62]⟩ : ByteArray)) := Stands_all s _ i hs (by decide) (Nat.le_of_lt hi)
  have hxs : (s.extract i (i + m)).size = m := (sub_size s i (i + m) hm2).trans (Nat.add_sub_cancel_left i m)
  have hxl : (bytesOf (s.extract i (i + m))).length = m := (bytesOf_length _).trans hxs
  have S2 := S_sign s en acc i m n t f62 _ _ rfl hA hB c38 g1 p1 k1 k2 k3 hst3 ef62 (by rw [hxl]; exact k4)
  have Ino := I_no s en a i A hA hB hC c38
  by_cases c4 : t.toList = (s.extract i (i + m)).toList
  case neg =>
    rw [if_neg c4] at hcl
    refine ⟨NoRef, S2 _ ?_, Ino _ hcl (Or.inl (by show (-1 : Int) < 0; decide))⟩
    by_cases q1 : isT n = true
    case neg => exact Ev.ite_neg q1 (Ev.now _)
    refine Ev.ite_pos q1 ?_
    by_cases q2 : n = 13
    · exact Ev.ite_pos q2 (Ev.now _)
    refine Ev.ite_neg q2 ?_
    by_cases q3 : n = 60
    · exact Ev.ite_pos q3 (Ev.now _)
    exact Ev.ite_neg q3 (Ev.ite_neg c4 (Ev.now _))
  rw [if_pos c4] at hcl
  by_cases q1 : isT n = true
  case neg => exact ⟨NoRef, S2 _ (Ev.ite_neg q1 (Ev.now _)), Ino _ hcl (Or.inr (Or.inl (by show isT n = false; simpa using q1)))⟩
  by_cases q2 : n = 13
  · exact ⟨NoRef, S2 _ (Ev.ite_pos q1 (Ev.ite_pos q2 (Ev.now _))), Ino _ hcl (Or.inr (Or.inr (Or.inl q2)))⟩
  by_cases q3 : n = 60
  · exact ⟨NoRef, S2 _ (Ev.ite_pos q1 (Ev.ite_neg q2 (Ev.ite_pos q3 (Ev.now _)))), Ino _ hcl (Or.inr (Or.inr (Or.inr q3)))⟩
  obtain ⟨hts, hby⟩ := ext_byte s t i m hm2 c4
  have hAi : A.size ≤ i := by rw [hAl]; exact hacc
  have hround := XText_sign s en a i A n m hs hm2 hm1 ha hAi hst c38 hcl hn0 q1 q2 q3
  by_cases cb : bad s en i
  · have h5 := cb.1
    have z0 := st_byte s _ i h5 0 (by decide)
    have z1 := (st_byte s _ i h5 1 (by decide)).2
    have z2 := (st_byte s _ i h5 2 (by decide)).2
    rw [Nat.add_zero] at z0
    exact ⟨NoRef, S2 _ (Ev.ite_pos q1 (Ev.ite_neg q2 (Ev.ite_neg q3 (Ev.ite_pos c4 (Ev.ite_pos h5 (Ev.ite_pos (hf62.mpr cb.2) (Ev.now _))))))),
      XText_bad s en a i A hs z0.1 ha hAi z0.2 z1 z2 (h93 z0.2) cb.2⟩
  · have hnext : Back s en a (i + m) := Back_next s en a i m hBk cb hm1 (by
      by_cases hlt : n < 128
      · exact Or.inl (one_place s i m n t hn0 hlt (one_byte n t hn0 p1 hlt) hts hby).1
      · exact Or.inr (high_place s i m n t hm1 hlt p5 hts hby))
    obtain ⟨r, u1, u2⟩ := ih (i + m) (s.extract i (i + m)) k5 k6 hm2 (by rw [hxs]; exact k7) hnext
    refine ⟨r, S2 _ (Ev.ite_pos q1 (Ev.ite_neg q2 (Ev.ite_neg q3 (Ev.ite_pos c4 ?_)))), hround.2 ?_ r u2⟩
    · by_cases q5 : stB s i (⟨#[93, 93, 62]⟩ : ByteArray) = true
      · exact Ev.ite_pos q5 (Ev.ite_neg (fun h => cb ⟨q5, hf62.mp h⟩) u1)
      · exact Ev.ite_neg q5 u1
    · rintro ⟨hn62, hsuf⟩
      have hlt : n < 128 := by rw [hn62]; decide
      obtain ⟨j1, j2, j3⟩ := suffix_two s a i (Nat.le_of_lt hi) hsuf
      obtain ⟨_, e62⟩ := one_place s i m n t hn0 hlt (one_byte n t hn0 p1 hlt) hts hby
      rw [hn62] at e62
      have hi2 : 2 ≤ i := Nat.le_trans (Nat.le_add_left 2 a) j1
      obtain ⟨z3, z4, z5⟩ := back3 hi2
      have j3' : bt s ((i - 2 + 1 : Nat) : Int) = 93 := by rw [z4]; exact j3
      have e62' : bt s ((i - 2 + 2 : Nat) : Int) = 62 := by rw [z5]; exact e62
      exact hBk.2 j1 j2 j3 (bad_of s en (i - 2) (by rw [z3]; exact hi) j2 j3' e62' (h62 e62))
theorem XText_loop (s en : ByteArray) (a : Nat) (hs : s.size ≤ 1048576) (he : en.size ≤ 1048576) : ∀ (d i : Nat) (acc : List Int) (A : ByteArray), A = strOfNums acc → s.size - i ≤ d → a ≤ i → i ≤ s.size → acc.length ≤ i → Back s en a i →
    ∃ r, Ev (fun k => spec_XmlText.l0 k s en acc i) r ∧ Ev (fun k => impl_XmlText.l0 k s en a A i) r := by
  have hsl : s.data.toList.length = s.size := rfl
  have stopS : ∀ (i : Nat) (acc : List Int), Ev (fun k => spec_XmlText.j2 k s en acc i false) (strOfNums acc, (i : Int)) := fun i acc => Ev.here fun k => by
    simp only [spec_XmlText.j2]
    rw [if_neg (by decide)]
  intro d
  induction d with
  | zero =>
    intro i acc A hA hd ha hi hacc _
    obtain rfl : i = s.size := by omega
    subst hA
    refine ⟨(strOfNums acc, (s.size : Int)), ?_, XText_stop s en a s.size _ (fun h => absurd h (Nat.lt_irrefl _))⟩
    refine Ev.step (fun k => ?_) (stopS s.size acc)
    simp only [spec_XmlText.l0]
    rw [if_neg (Int.lt_irrefl _)]
  | succ d ih =>
    intro i acc A hA hd ha hi hacc hBk
    by_cases c : i < s.size
    case neg => exact ih i acc A hA (by clear hA; omega) ha hi hacc hBk
    have hAi : (i : Int) < (s.size : Int) := by clear hA; omega
    have hBi : (0 : Int) ≤ (i : Int) := Int.natCast_nonneg i
    have hil : i < s.data.toList.length := c
    have hAl : A.size = acc.length := by rw [hA]; exact strOfNums_size acc
    have hbt := bt_list s i hil
    have hby := byte_of s i hil
    have hgd : s.data.toList.getD i 0 = s.data.toList[i] := by rw [List.getD_eq_getElem?_getD, List.getElem?_eq_getElem hil, Option.getD_some]
    obtain ⟨b, hb⟩ : ∃ b, s.data.toList[i] = b := ⟨_, rfl⟩
    rw [hb] at hbt hby hgd
    obtain ⟨f, ef, hf⟩ := spec_find en b he
    have S1 : ∀ r, Ev (fun k => spec_XmlText.j2 k s en acc i (decide (f < 0))) r → Ev (fun k => spec_XmlText.l0 k s en acc i) r := fun r hr => by
      refine Ev.step (f := fun k => (spec_l4Find.f k en 0 (b.toNat : Int)).bind fun t => spec_XmlText.j2 k s en acc i (decide (t < 0))) (fun k => ?_) (Ev.bind ef hr)
      simp only [spec_XmlText.l0, hbt]
      rw [if_pos hAi, if_pos hBi]
    by_cases cst : stops en b
    · refine ⟨(A, (i : Int)), S1 _ (by rw [decide_eq_false (fun h => hf.mp h cst), hA]; exact stopS i acc), XText_stop s en a i _ (fun _ => by rw [hgd]; exact cst)⟩
    rw [decide_eq_true (hf.mpr cst)] at S1
    have hC : Lib.indexByte en.data.toList (bt s (i : Int)).toNat.toUInt8 < 0 := by rw [hby, impl_find]; exact cst
    have ih2 : ∀ (q : Nat) (t : ByteArray), s.size - q ≤ d → a ≤ q → q ≤ s.size → acc.length + t.size ≤ q → Back s en a q → ∃ r, Ev (fun k => spec_XmlText.l0 k s en (acc ++ bytesOf t) q) r ∧ Ev (fun k => impl_XmlText.l0 k s en a (A ++ t) q) r := fun q t h1 h2 h3 h4 h5 =>
      ih q (acc ++ bytesOf t) (A ++ t) (by rw [nums_app, nums_of_bytes, hA]) h1 h2 h3 (by rw [List.length_append, bytesOf_length]; exact h4) h5
    have hx : ∀ v : UInt8, bt s (i : Int) = (v.toNat : Int) → ¬ stops en v := fun v hv => by
      rw [hbt] at hv
      have : b = v := UInt8.toNat_inj.mp (Int.ofNat_inj.mp hv)
      rw [← this]
      exact cst
    by_cases c38 : bt s (i : Int) = 38
    · exact ex_round (round_ref s en a i d acc A hs hd ha hacc hAl hAi hBi hC c38 ih2) S1
    · exact ex_round (round_sign s en a i d acc A hs he hd ha c hacc hAl hAi hBi hC (by rw [hgd]; exact cst) c38 hBk (hx 93) (hx 62) ih2) S1
theorem XmlText_same (s en : ByteArray) (at_ : Int) (hs : s.size ≤ 1048576) (he : en.size ≤ 1048576) : ∃ r, Ev (fun k => spec_XmlText.f k s at_ en) r ∧ Ev (fun k => impl_XmlText.f k s at_ en) r := by
  have S0 : Ev (fun k => spec_XmlText.j0 k s at_ en true) NoRef := Ev.here fun k => by simp only [spec_XmlText.j0]; rw [if_pos True.intro]; rfl
  unfold spec_XmlText.f impl_XmlText.f
  rw [inRange_eq]
  by_cases c : 0 ≤ at_ ∧ at_ ≤ s.size
  case neg =>
    refine ⟨NoRef, ?_, Ev.opt rfl (Ev.ite_neg (by rw [decide_eq_true_iff]; exact c) (Ev.now _))⟩
    by_cases c1 : at_ < 0
    · exact Ev.ite_pos c1 S0
    · rw [decide_eq_true (by omega)]
      exact Ev.ite_neg c1 S0
  obtain ⟨j, rfl⟩ := Int.eq_ofNat_of_zero_le c.1
  obtain ⟨r, e1, e2⟩ := XText_loop s en j hs he s.size j [] (⟨#[]⟩ : ByteArray) rfl (Nat.sub_le _ _) (Nat.le_refl _) (by have := c.2; omega) (Nat.zero_le _) ⟨fun h => absurd h (Nat.not_succ_le_self j), fun h => absurd (Nat.le_of_succ_le h) (Nat.not_succ_le_self j)⟩
  refine ⟨r, ?_, Ev.opt rfl (Ev.ite_pos (decide_eq_true c) e2)⟩
  rw [decide_eq_false (by omega)]
  refine Ev.ite_neg (by omega) (Ev.step (fun k => ?_) e1)
  simp only [spec_XmlText.j0]
  rw [if_neg (by decide)]
theorem FnExactXmlText_all (a0 : ByteArray) (a1 : Int) (a2 : ByteArray) : ∃ k, laws_FnExactXmlText.f k a0 a1 a2 = some true := by
  unfold laws_FnExactXmlText.f
  by_cases c : (a0.size : Int) > 1048576
  · exact (Ev.ite_pos c (Ev.now _)).rounds
  by_cases c2 : (a2.size : Int) > 1048576
  · exact (Ev.ite_neg c (Ev.ite_pos c2 (Ev.now _))).rounds
  · obtain ⟨r, e1, e2⟩ := XmlText_same a0 a2 a1 (by omega) (by omega)
    exact (Ev.ite_neg c (Ev.ite_neg c2 (Ev.bind e1 (Ev.bind e2 (Ev.ite_pos rfl (Ev.ite_pos rfl (Ev.now _))))))).rounds
end Go.Proofs.YtgljgbkbjlondaaDoor.Sg
