/- What is said of a tree: the program (a Builder's text handed on) and the reference (texts put together) tell the same. No conditions but the sizes. -/
import Derived.Test.YtgljgbkbjlondaaDoorTreeOkBase
import Derived.Test.YtgljgbkbjlondaaDoorSpeltBase
import Derived.Test.YtgljgbkbjlondaaDoorIsOneOf
import Derived.Test.YtgljgbkbjlondaaDoorItemWeight
import Derived.Test.YtgljgbkbjlondaaDoorPp23
import Derived.Test.YtgljgbkbjlondaaDoorPp25
import Derived.Test.YtgljgbkbjlondaaDoorPp26
import Derived.Test.YtgljgbkbjlondaaDoorPp5
import Derived.Test.YtgljgbkbjlondaaDoorPp6
set_option linter.unusedVariables false
set_option linter.unusedSimpArgs false
namespace Go.Proofs.YtgljgbkbjlondaaDoor.Tr
open Go.RowKit Go.Proofs.YtgljgbkbjlondaaDoor.P Go.Proofs.YtgljgbkbjlondaaDoor.Evs Go.Proofs.YtgljgbkbjlondaaDoor.It Go.Proofs.YtgljgbkbjlondaaDoor.Esc Go.Proofs.YtgljgbkbjlondaaDoorW.PrintWords Go.Proofs.YtgljgbkbjlondaaDoorW.PrintLast

/-! ### names -/
def voids : List ByteArray := [(⟨#[98, 114]⟩ : ByteArray), (⟨#[104, 114]⟩ : ByteArray), (⟨#[105, 109, 103]⟩ : ByteArray), (⟨#[105, 110, 112, 117, 116]⟩ : ByteArray), (⟨#[109, 101, 116, 97]⟩ : ByteArray), (⟨#[108, 105, 110, 107]⟩ : ByteArray), (⟨#[98, 97, 115, 101]⟩ : ByteArray), (⟨#[119, 98, 114]⟩ : ByteArray), (⟨#[99, 111, 108]⟩ : ByteArray)]
def vd (nm : ByteArray) : Bool := voids.any fun w => nm.toList == w.data.toList
theorem Is_loop (nm : ByteArray) (ws : List ByteArray) (hl : ws.length ≤ 1048576) : ∀ (d j : Nat), ws.length - j = d → j ≤ ws.length → Ev (fun k => spec_l7Is.l0 k nm ws j) ((ws.drop j).any fun w => nm.toList == w.data.toList) := by
 intro d
 induction d with
 | zero =>
  intro j hd hj
  rw [List.drop_eq_nil_of_le (by omega)]
  refine Ev.here fun k => ?_
  simp only [spec_l7Is.l0]; rw [if_neg (by omega)]; rfl
 | succ d ih =>
  intro j hd hj
  have hjl : j < ws.length := by omega
  have hrd : rdOf ByteArray.empty ws (j : Int) = ws[j] := rdT ws ByteArray.empty j hjl
  have hw : wrap64 ((j : Int) + 1) = ((j + 1 : Nat) : Int) := succ64 (by omega)
  rw [List.drop_eq_getElem_cons hjl, List.any_cons]
  by_cases c : nm.toList = ws[j].data.toList
  ·rw [show (nm.toList == ws[j].data.toList) = true from beq_iff_eq.mpr c, Bool.true_or]
   refine Ev.here fun k => ?_
   simp only [spec_l7Is.l0, hrd]
   rw [if_pos (by omega), if_pos (by omega), if_pos (by rw [Sg.toList_data, c])]
  ·rw [show (nm.toList == ws[j].data.toList) = false from beq_eq_false_iff_ne.mpr c, Bool.false_or]
   refine Ev.step (fun k => ?_) (ih (j + 1) (by omega) (by omega))
   simp only [spec_l7Is.l0, hrd, hw]
   rw [if_pos (by omega), if_pos (by omega), if_neg (by rw [Sg.toList_data]; exact fun e => c e.symm)]
theorem Void_spec (nm : ByteArray) : Ev (fun k => spec_Void.f k nm) (vd nm) := by
 have h := Is_loop nm voids (by decide) voids.length 0 (by omega) (by omega)
 rw [List.drop_zero] at h
 exact Ev.bind h (Ev.now _)
theorem Void_impl (nm : ByteArray) (hs : nm.size ≤ 1048576) : impl_Void.f nm = some (vd nm) := by
 unfold impl_Void.f
 rw [Sg.isOneOf_tells nm _ [[98, 114], [104, 114], [105, 109, 103], [105, 110, 112, 117, 116], [109, 101, 116, 97], [108, 105, 110, 107], [98, 97, 115, 101], [119, 98, 114], [99, 111, 108]] hs (by decide) (by decide) (by decide) (by decide)]
 rfl
def pr (nm : ByteArray) : Bool := if nm.toList = ([115, 99, 114, 105, 112, 116] : List UInt8) then true else nm.toList == ([115, 116, 121, 108, 101] : List UInt8)
theorem pr_impl (nm : ByteArray) : impl_isPlainRaw.f nm = some (pr nm) := by
 unfold impl_isPlainRaw.f pr
 split <;> rfl

/-! ### what is said of an item -/
def cat : List ByteArray → ByteArray
 | [] => ByteArray.empty
 | x :: l => x ++ cat l
theorem app_empty (a : ByteArray) : a ++ ByteArray.empty = a := by simp
def tx1 (a : S114) : ByteArray := ((((⟨#[32]⟩ : ByteArray) ++ a.f0) ++ (⟨#[61, 34]⟩ : ByteArray)) ++ valE a.f1) ++ (⟨#[34]⟩ : ByteArray)
theorem tx1_sizes (a : S114) : ((⟨#[32]⟩ : ByteArray) ++ a.f0).size = 1 + a.f0.size ∧ (((⟨#[32]⟩ : ByteArray) ++ a.f0) ++ (⟨#[61, 34]⟩ : ByteArray)).size = 1 + a.f0.size + 2 ∧ ((((⟨#[32]⟩ : ByteArray) ++ a.f0) ++ (⟨#[61, 34]⟩ : ByteArray)) ++ valE a.f1).size = 1 + a.f0.size + 2 + (valE a.f1).size ∧ (tx1 a).size = 1 + a.f0.size + 2 + (valE a.f1).size + 1 := by
 have s1 : ((⟨#[32]⟩ : ByteArray) ++ a.f0).size = 1 + a.f0.size := by rw [ByteArray.size_append]; rfl
 have s2 : (((⟨#[32]⟩ : ByteArray) ++ a.f0) ++ (⟨#[61, 34]⟩ : ByteArray)).size = 1 + a.f0.size + 2 := by rw [ByteArray.size_append, s1]; rfl
 have s3 : ((((⟨#[32]⟩ : ByteArray) ++ a.f0) ++ (⟨#[61, 34]⟩ : ByteArray)) ++ valE a.f1).size = 1 + a.f0.size + 2 + (valE a.f1).size := by rw [ByteArray.size_append, s2]
 exact ⟨s1, s2, s3, by unfold tx1; rw [ByteArray.size_append, s3]; rfl⟩
theorem tx1_le (a : S114) : (tx1 a).size ≤ 6 * (a.f0.size + a.f1.size + 1) := by
 have h := (tx1_sizes a).2.2.2
 have hv := valE_size a.f1
 omega
theorem cat_le (l : List S114) : (cat (l.map tx1)).size ≤ 6 * wa l := by
 induction l with
 | nil => exact Nat.zero_le _
 | cons a l ih =>
  have h := tx1_le a
  show (tx1 a ++ cat (l.map tx1)).size ≤ 6 * ((a.f0.size + a.f1.size + 1) + wa l)
  rw [ByteArray.size_append]
  omega
def docT (s : ByteArray) : ByteArray := ((⟨#[60, 33, 100, 111, 99, 116, 121, 112, 101, 32]⟩ : ByteArray) ++ s) ++ (⟨#[62]⟩ : ByteArray)
def notT (s : ByteArray) : ByteArray := ((⟨#[60, 33, 45, 45]⟩ : ByteArray) ++ s) ++ (⟨#[45, 45, 62]⟩ : ByteArray)
def staT (nm : ByteArray) (l : List S114) : ByteArray := ((⟨#[60]⟩ : ByteArray) ++ nm) ++ cat (l.map tx1)
def endT (nm : ByteArray) : ByteArray := ((⟨#[60, 47]⟩ : ByteArray) ++ nm) ++ (⟨#[62]⟩ : ByteArray)
def opnX (x : S90) (b : Bool) : ByteArray := if x.f0 = 5 then docT x.f4 else if x.f0 = 4 then notT x.f4 else if x.f0 = 3 then (if b = true then x.f4 else txtE x.f4) else if x.f0 = 2 then staT x.f2 x.f3 ++ (⟨#[62]⟩ : ByteArray) else ByteArray.empty
def clsX (x : S90) : ByteArray := if x.f0 = 2 then (if vd x.f2 = true then (if x.f1 = 0 then ByteArray.empty else endT x.f2) else endT x.f2) else ByteArray.empty
def bareI (L : List S90) (i : Nat) : Bool := pr (rd_T90 L (it L i).f5).f2
def opn (L : List S90) (i : Nat) : ByteArray := opnX (it L i) (bareI L i)
def cls (L : List S90) (i : Nat) : ByteArray := clsX (it L i)
inductive Tx (L : List S90) : List Nat → ByteArray → Prop
 | nil : Tx L [] ByteArray.empty
 | cons {i : Nat} {s : List Nat} {a b : ByteArray} (h1 : Tx L (kd L i) a) (h2 : Tx L s b) : Tx L (i :: s) (((opn L i ++ a) ++ cls L i) ++ b)
theorem doc_sizes (s : ByteArray) : ((⟨#[60, 33, 100, 111, 99, 116, 121, 112, 101, 32]⟩ : ByteArray) ++ s).size = 10 + s.size ∧ (docT s).size = 10 + s.size + 1 := by
 have s1 : ((⟨#[60, 33, 100, 111, 99, 116, 121, 112, 101, 32]⟩ : ByteArray) ++ s).size = 10 + s.size := by rw [ByteArray.size_append]; rfl
 exact ⟨s1, by unfold docT; rw [ByteArray.size_append, s1]; rfl⟩
theorem not_sizes (s : ByteArray) : ((⟨#[60, 33, 45, 45]⟩ : ByteArray) ++ s).size = 4 + s.size ∧ (notT s).size = 4 + s.size + 3 := by
 have s1 : ((⟨#[60, 33, 45, 45]⟩ : ByteArray) ++ s).size = 4 + s.size := by rw [ByteArray.size_append]; rfl
 exact ⟨s1, by unfold notT; rw [ByteArray.size_append, s1]; rfl⟩
theorem end_sizes (s : ByteArray) : ((⟨#[60, 47]⟩ : ByteArray) ++ s).size = 2 + s.size ∧ (endT s).size = 2 + s.size + 1 := by
 have s1 : ((⟨#[60, 47]⟩ : ByteArray) ++ s).size = 2 + s.size := by rw [ByteArray.size_append]; rfl
 exact ⟨s1, by unfold endT; rw [ByteArray.size_append, s1]; rfl⟩
theorem sta_sizes (nm : ByteArray) (l : List S114) : ((⟨#[60]⟩ : ByteArray) ++ nm).size = 1 + nm.size ∧ (staT nm l).size = 1 + nm.size + (cat (l.map tx1)).size := by
 have s1 : ((⟨#[60]⟩ : ByteArray) ++ nm).size = 1 + nm.size := by rw [ByteArray.size_append]; rfl
 exact ⟨s1, by unfold staT; rw [ByteArray.size_append, s1]⟩
theorem opnX_le (x : S90) (b : Bool) : (opnX x b).size ≤ 20 + 6 * wt x := by
 have h1 := (doc_sizes x.f4).2
 have h2 := (not_sizes x.f4).2
 have h3 := txtE_size x.f4
 have h4 := (sta_sizes x.f2 x.f3).2
 have h5 := cat_le x.f3
 have h6 : wt x = x.f2.size + x.f4.size + wa x.f3 := rfl
 have h7 : (staT x.f2 x.f3 ++ (⟨#[62]⟩ : ByteArray)).size = (staT x.f2 x.f3).size + 1 := by rw [ByteArray.size_append]; rfl
 have h8 : ByteArray.empty.size = 0 := rfl
 unfold opnX
 split
 ·omega
 split
 ·omega
 split
 ·split <;> omega
 split <;> omega
theorem clsX_le (x : S90) : (clsX x).size ≤ 3 + wt x := by
 have h1 := (end_sizes x.f2).2
 have h6 : wt x = x.f2.size + x.f4.size + wa x.f3 := rfl
 have h8 : ByteArray.empty.size = 0 := rfl
 unfold clsX
 split
 ·split
  ·split <;> omega
  ·omega
 ·omega
/-- The sizes of the items. -/
def Light (L : List S90) : Prop := ∀ i, i < L.length → wt (it L i) ≤ 1048576
theorem Tx_ex (L : List S90) (hw : Light L) {d : Nat} {s : List Nat} {out : List (Nat × Nat)} (h : Pre (kd L) d s out) : (∀ p, p ∈ out → p.1 < L.length) → ∃ t, Tx L s t ∧ t.size ≤ out.length * 16777216 := by
 induction h with
 | nil d => exact fun _ => ⟨_, .nil, Nat.zero_le _⟩
 | @cons d x s a b h1 h2 ih1 ih2 =>
  intro hb
  obtain ⟨ta, q1, q2⟩ := ih1 fun p hp => hb p (List.mem_cons_of_mem _ (List.mem_append_left _ hp))
  obtain ⟨tb, r1, r2⟩ := ih2 fun p hp => hb p (List.mem_cons_of_mem _ (List.mem_append_right _ hp))
  have hx := hw x (hb _ List.mem_cons_self)
  have o1 : (opn L x).size ≤ 20 + 6 * wt (it L x) := opnX_le _ _
  have o2 : (cls L x).size ≤ 3 + wt (it L x) := clsX_le _
  refine ⟨_, .cons q1 r1, ?_⟩
  rw [ByteArray.size_append, ByteArray.size_append, ByteArray.size_append, List.length_cons, List.length_append]
  omega

/-! ### attributes -/
/-- An item's parts are small. -/
structure Fit (x : S90) : Prop where
 name : x.f2.size ≤ 1048576
 text : x.f4.size ≤ 1048576
 len : x.f3.length ≤ 1048576
 kids : x.f6.length ≤ 1048576
 attrs : ∀ a ∈ x.f3, a.f0.size ≤ 1048576 ∧ a.f1.size ≤ 1048576
theorem spec_attrs (L : List S90) (x : S90) (hx : Fit x) : ∀ (d j : Nat) (acc : ByteArray), x.f3.length - j = d → j ≤ x.f3.length → acc.size + (cat ((x.f3.drop j).map tx1)).size ≤ 4611686018427387904 →
  ∀ r, Ev (fun k => spec_l11Said.j1 k L ((acc ++ cat ((x.f3.drop j).map tx1)) ++ (⟨#[62]⟩ : ByteArray)) x.f0 x.f1 x.f2 x.f3 x.f4 x.f5 x.f6) r → Ev (fun k => spec_l11Said.l0 k L acc j x.f0 x.f1 x.f2 x.f3 x.f4 x.f5 x.f6) r := by
 have hl := hx.len
 intro d
 induction d with
 | zero =>
  intro j acc hd hj hs r hr
  rw [List.drop_eq_nil_of_le (by omega)] at hr hs
  rw [show cat (([] : List S114).map tx1) = ByteArray.empty from rfl] at hr hs
  rw [app_empty] at hr
  refine Ev.step (fun k => ?_) hr
  simp only [spec_l11Said.l0]
  rw [if_neg (by omega), if_pos (by omega)]
 | succ d ih =>
  intro j acc hd hj hs r hr
  have hjl : j < x.f3.length := by omega
  obtain ⟨a1, a2⟩ := hx.attrs _ (List.getElem_mem hjl)
  have hrd : rd_T114 x.f3 (j : Int) = x.f3[j] := rdT x.f3 _ j hjl
  have hw : wrap64 ((j : Int) + 1) = ((j + 1 : Nat) : Int) := succ64 (by omega)
  rw [List.drop_eq_getElem_cons hjl] at hr hs
  obtain ⟨z1, z2, z3, z4⟩ := tx1_sizes x.f3[j]
  have hcat : cat ((x.f3[j] :: x.f3.drop (j + 1)).map tx1) = tx1 x.f3[j] ++ cat ((x.f3.drop (j + 1)).map tx1) := rfl
  rw [hcat] at hr hs
  rw [ByteArray.size_append] at hs
  have ea : ((((acc ++ (⟨#[32]⟩ : ByteArray)) ++ x.f3[j].f0) ++ (⟨#[61, 34]⟩ : ByteArray)) ++ valE x.f3[j].f1) ++ (⟨#[34]⟩ : ByteArray) = acc ++ tx1 x.f3[j] := by unfold tx1; simp only [ByteArray.append_assoc]
  have s1 : (acc ++ (⟨#[32]⟩ : ByteArray)).size = acc.size + 1 := by rw [ByteArray.size_append]; rfl
  have s2 : ((acc ++ (⟨#[32]⟩ : ByteArray)) ++ x.f3[j].f0).size = acc.size + 1 + x.f3[j].f0.size := by rw [ByteArray.size_append, s1]
  have s3 : (((acc ++ (⟨#[32]⟩ : ByteArray)) ++ x.f3[j].f0) ++ (⟨#[61, 34]⟩ : ByteArray)).size = acc.size + 1 + x.f3[j].f0.size + 2 := by rw [ByteArray.size_append, s2]; rfl
  have s4 : ((((acc ++ (⟨#[32]⟩ : ByteArray)) ++ x.f3[j].f0) ++ (⟨#[61, 34]⟩ : ByteArray)) ++ valE x.f3[j].f1).size = acc.size + 1 + x.f3[j].f0.size + 2 + (valE x.f3[j].f1).size := by rw [ByteArray.size_append, s3]
  have h := ih (j + 1) (acc ++ tx1 x.f3[j]) (by omega) (by omega) (by rw [ByteArray.size_append]; omega) r (by
   rw [show (acc ++ tx1 x.f3[j]) ++ cat ((x.f3.drop (j + 1)).map tx1) = acc ++ (tx1 x.f3[j] ++ cat ((x.f3.drop (j + 1)).map tx1)) from ByteArray.append_assoc]
   exact hr)
  refine Ev.step (f := fun k => (spec_l5Swap.f k x.f3[j].f1 whichV [amp, quo, ret]).bind fun t => if (((acc ++ (⟨#[32]⟩ : ByteArray)) ++ x.f3[j].f0) ++ (⟨#[61, 34]⟩ : ByteArray)).size + t.size ≤ 9223372036854775807 then (if ((((acc ++ (⟨#[32]⟩ : ByteArray)) ++ x.f3[j].f0) ++ (⟨#[61, 34]⟩ : ByteArray)) ++ t).size + 1 ≤ 9223372036854775807 then spec_l11Said.l0 k L (((((acc ++ (⟨#[32]⟩ : ByteArray)) ++ x.f3[j].f0) ++ (⟨#[61, 34]⟩ : ByteArray)) ++ t) ++ (⟨#[34]⟩ : ByteArray)) ((j + 1 : Nat) : Int) x.f0 x.f1 x.f2 x.f3 x.f4 x.f5 x.f6 else none) else none) (fun k => ?_) (Ev.bind (value_spec x.f3[j].f1 a2) ?_)
  ·simp only [spec_l11Said.l0, hrd, hw]
   rw [if_pos (by omega), if_pos (by omega), if_pos (by omega), if_pos (by omega), if_pos (by omega)]
   rfl
  ·refine Ev.ite_pos (by show _ + (valE x.f3[j].f1).size ≤ _; omega) (Ev.ite_pos (by show ((((acc ++ (⟨#[32]⟩ : ByteArray)) ++ x.f3[j].f0) ++ (⟨#[61, 34]⟩ : ByteArray)) ++ valE x.f3[j].f1).size + 1 ≤ _; omega) ?_)
   rw [show ((((acc ++ (⟨#[32]⟩ : ByteArray)) ++ x.f3[j].f0) ++ (⟨#[61, 34]⟩ : ByteArray)) ++ (⟨(x.f3[j].f1.data.toList.flatMap v3).toArray⟩ : ByteArray)) ++ (⟨#[34]⟩ : ByteArray) = acc ++ tx1 x.f3[j] from ea]
   exact h
theorem start_loop (l : List S114) (hl : l.length ≤ 1048576) (ha : ∀ a ∈ l, a.f0.size ≤ 1048576 ∧ a.f1.size ≤ 1048576) : ∀ (d j : Nat) (acc : ByteArray), l.length - j = d → j ≤ l.length → acc.size + (cat ((l.drop j).map tx1)).size ≤ 4611686018427387904 →
  Ev (fun k => impl_startSpelt.l0 k acc l (l.length : Int) j) (acc ++ cat ((l.drop j).map tx1)) := by
 intro d
 induction d with
 | zero =>
  intro j acc hd hj hs
  rw [List.drop_eq_nil_of_le (by omega)]
  rw [show cat (([] : List S114).map tx1) = ByteArray.empty from rfl, app_empty]
  refine Ev.here fun k => ?_
  simp only [impl_startSpelt.l0]
  rw [if_neg (by omega)]
 | succ d ih =>
  intro j acc hd hj hs
  have hjl : j < l.length := by omega
  obtain ⟨a1, a2⟩ := ha _ (List.getElem_mem hjl)
  have hrd : rd_T114 l (j : Int) = l[j] := rdT l _ j hjl
  have hw : wrap64 ((j : Int) + 1) = ((j + 1 : Nat) : Int) := succ64 (by omega)
  rw [List.drop_eq_getElem_cons hjl] at hs ⊢
  obtain ⟨z1, z2, z3, z4⟩ := tx1_sizes l[j]
  have hcat : cat ((l[j] :: l.drop (j + 1)).map tx1) = tx1 l[j] ++ cat ((l.drop (j + 1)).map tx1) := rfl
  rw [hcat] at hs ⊢
  rw [ByteArray.size_append] at hs
  have hv := valE_size l[j].f1
  have h := ih (j + 1) (acc ++ tx1 l[j]) (by omega) (by omega) (by rw [ByteArray.size_append]; omega)
  rw [ByteArray.append_assoc] at h
  refine Ev.step (fun k => ?_) h
  simp only [impl_startSpelt.l0, hrd, hw]
  have vs : impl_valueSaid.f l[j].f1 = some (valE l[j].f1) := valueSaid_tells _ a2
  have z5 : (((((⟨#[32]⟩ : ByteArray) ++ l[j].f0) ++ (⟨#[61, 34]⟩ : ByteArray)) ++ valE l[j].f1) ++ (⟨#[34]⟩ : ByteArray)).size = 1 + l[j].f0.size + 2 + (valE l[j].f1).size + 1 := z4
  rw [if_pos (by omega), if_pos (by omega), if_pos (by omega), if_pos (by omega), if_pos (by omega), vs, Option.bind_some]
  rw [if_pos (by omega), if_pos (by omega), if_pos (by omega)]
  rfl
theorem start_tells (x : S90) (hx : Fit x) (hs : (staT x.f2 x.f3).size ≤ 4611686018427387904) : Ev (fun k => impl_startSpelt.f k x.f2 x.f3) (staT x.f2 x.f3) := by
 obtain ⟨s1, s2⟩ := sta_sizes x.f2 x.f3
 have hn := hx.name
 have h := start_loop x.f3 hx.len hx.attrs x.f3.length 0 ((⟨#[60]⟩ : ByteArray) ++ x.f2) (by omega) (by omega) (by rw [List.drop_zero]; omega)
 rw [List.drop_zero] at h
 exact Ev.ite_pos (by omega) h

/-! ### the reference -/
theorem spec_end (L : List S90) (x : S90) (hx : Fit x) (hk : x.f0 = 1 ∨ x.f0 = 2) (acc : ByteArray) (hs : acc.size ≤ 4611686018427387904) (j : Nat) (hj : x.f6.length ≤ j) :
  Ev (fun k => spec_l11Said.l1 k L acc j x.f0 x.f1 x.f2 x.f3 x.f4 x.f5 x.f6) (acc ++ clsX x) := by
 by_cases c1 : x.f0 = 1
 ·have e : clsX x = ByteArray.empty := by unfold clsX; rw [if_neg (by omega)]
  rw [e, app_empty]
  refine Ev.here fun k => ?_
  simp only [spec_l11Said.l1]
  rw [if_neg (by omega), if_pos c1]
 have c2 : x.f0 = 2 := by omega
 obtain ⟨s1, s2⟩ := end_sizes x.f2
 have hn := hx.name
 have s3 : (acc ++ (⟨#[60, 47]⟩ : ByteArray)).size = acc.size + 2 := by rw [ByteArray.size_append]; rfl
 have s4 : ((acc ++ (⟨#[60, 47]⟩ : ByteArray)) ++ x.f2).size = acc.size + 2 + x.f2.size := by rw [ByteArray.size_append, s3]
 have ee : ((acc ++ (⟨#[60, 47]⟩ : ByteArray)) ++ x.f2) ++ (⟨#[62]⟩ : ByteArray) = acc ++ endT x.f2 := by unfold endT; simp only [ByteArray.append_assoc]
 have fin : (if acc.size + 2 ≤ 9223372036854775807 then (if (acc ++ (⟨#[60, 47]⟩ : ByteArray)).size + x.f2.size ≤ 9223372036854775807 then (if ((acc ++ (⟨#[60, 47]⟩ : ByteArray)) ++ x.f2).size + 1 ≤ 9223372036854775807 then (some (((acc ++ (⟨#[60, 47]⟩ : ByteArray)) ++ x.f2) ++ (⟨#[62]⟩ : ByteArray))) else (none)) else (none)) else (none)) = some (acc ++ endT x.f2) := by
  rw [if_pos (by omega), if_pos (by omega), if_pos (by omega), ee]
 have e : clsX x = if vd x.f2 = true then (if x.f1 = 0 then ByteArray.empty else endT x.f2) else endT x.f2 := by unfold clsX; rw [if_pos c2]
 rw [e]
 refine Ev.step (f := fun k => (spec_Void.f k x.f2).bind fun t185 => (if t185 = true then (if x.f1 = 0 then (some acc) else (if acc.size + 2 ≤ 9223372036854775807 then (if (acc ++ (⟨#[60, 47]⟩ : ByteArray)).size + x.f2.size ≤ 9223372036854775807 then (if ((acc ++ (⟨#[60, 47]⟩ : ByteArray)) ++ x.f2).size + 1 ≤ 9223372036854775807 then (some (((acc ++ (⟨#[60, 47]⟩ : ByteArray)) ++ x.f2) ++ (⟨#[62]⟩ : ByteArray))) else (none)) else (none)) else (none))) else (if acc.size + 2 ≤ 9223372036854775807 then (if (acc ++ (⟨#[60, 47]⟩ : ByteArray)).size + x.f2.size ≤ 9223372036854775807 then (if ((acc ++ (⟨#[60, 47]⟩ : ByteArray)) ++ x.f2).size + 1 ≤ 9223372036854775807 then (some (((acc ++ (⟨#[60, 47]⟩ : ByteArray)) ++ x.f2) ++ (⟨#[62]⟩ : ByteArray))) else (none)) else (none)) else (none)))) (fun k => ?_) (Ev.bind (Void_spec x.f2) ?_)
 ·simp only [spec_l11Said.l1]
  rw [if_neg (by omega), if_neg c1]
 ·rw [fin]
  by_cases v : vd x.f2 = true
  ·rw [if_pos v, if_pos v]
   by_cases z : x.f1 = 0
   ·rw [if_pos z, if_pos z, app_empty]; exact Ev.now _
   ·rw [if_neg z, if_neg z]; exact Ev.now _
  ·rw [if_neg v, if_neg v]; exact Ev.now _
theorem no_kids {L : List S90} {i : Nat} (h : (it L i).f6.length = 0) : kd L i = [] :=
 List.eq_nil_of_length_eq_zero (by rw [show (kd L i).length = (it L i).f6.length from List.length_map _]; exact h)
theorem plain_no_kids {x : S90} (h : Plain x) (h1 : x.f0 ≠ 1) (h2 : x.f0 ≠ 2) : (x.f0 = 3 ∨ x.f0 = 4 ∨ x.f0 = 5) ∧ x.f6.length = 0 := by
 unfold Plain at h
 rw [if_neg h2, if_neg h1] at h
 exact h.2.2.2
theorem spec_one (L : List S90) (x : Nat) (hx : x < L.length) (hL : L.length ≤ 1048576) (hf : Fit (it L x)) (hp : Plain (it L x)) (h1 : ¬ (it L x).f0 = 1) (a : ByteArray) (ha : Tx L (kd L x) a)
  (hz : (opn L x).size + a.size + (cls L x).size ≤ 4611686018427387904)
  (ih : (it L x).f0 = 2 → ∀ acc : ByteArray, acc.size + a.size ≤ 4611686018427387904 → Ev (fun k => spec_l11Said.l1 k L acc 0 (it L x).f0 (it L x).f1 (it L x).f2 (it L x).f3 (it L x).f4 (it L x).f5 (it L x).f6) ((acc ++ a) ++ cls L x)) :
  Ev (fun k => spec_l11Said.f k L x (bareI L x)) ((opn L x ++ a) ++ cls L x) := by
 have hrd : rd_T90 L (x : Int) = it L x := rfl
 have ht := hf.text
 have hn := hf.name
 by_cases c2 : (it L x).f0 = 2
 ·have eo : opn L x = staT (it L x).f2 (it L x).f3 ++ (⟨#[62]⟩ : ByteArray) := by
   show opnX _ _ = _; unfold opnX; rw [if_neg (by omega), if_neg (by omega), if_neg (by omega), if_pos c2]
  obtain ⟨s1, s2⟩ := sta_sizes (it L x).f2 (it L x).f3
  rw [eo] at hz ⊢
  rw [ByteArray.size_append] at hz
  have g := ih c2 (staT (it L x).f2 (it L x).f3 ++ (⟨#[62]⟩ : ByteArray)) (by rw [ByteArray.size_append]; omega)
  have g2 : Ev (fun k => spec_l11Said.j1 k L (staT (it L x).f2 (it L x).f3 ++ (⟨#[62]⟩ : ByteArray)) (it L x).f0 (it L x).f1 (it L x).f2 (it L x).f3 (it L x).f4 (it L x).f5 (it L x).f6) (((staT (it L x).f2 (it L x).f3 ++ (⟨#[62]⟩ : ByteArray)) ++ a) ++ cls L x) :=
   Ev.step (fun k => by simp only [spec_l11Said.j1]) g
  have g3 := spec_attrs L (it L x) hf (it L x).f3.length 0 ((⟨#[60]⟩ : ByteArray) ++ (it L x).f2) (by omega) (by omega) (by rw [List.drop_zero]; omega) _ (by rw [List.drop_zero]; exact g2)
  refine Ev.step (fun k => ?_) g3
  simp only [spec_l11Said.f, hrd]
  rw [if_pos (by omega), if_pos (by omega), if_neg (by omega), if_neg (by omega), if_neg (by omega), if_pos c2, if_pos (by omega)]
  rfl
 obtain ⟨k3, k0⟩ := plain_no_kids hp h1 c2
 rw [no_kids k0] at ha
 cases ha
 have ec : cls L x = ByteArray.empty := by show clsX _ = _; unfold clsX; rw [if_neg c2]
 rw [ec, app_empty, app_empty]
 by_cases c5 : (it L x).f0 = 5
 ·have eo : opn L x = docT (it L x).f4 := by show opnX _ _ = _; unfold opnX; rw [if_pos c5]
  obtain ⟨s1, s2⟩ := doc_sizes (it L x).f4
  rw [eo]
  refine Ev.here fun k => ?_
  simp only [spec_l11Said.f, hrd]
  rw [if_pos (by omega), if_pos (by omega), if_pos c5, if_pos (by omega), if_pos (by omega)]
  rfl
 by_cases c4 : (it L x).f0 = 4
 ·have eo : opn L x = notT (it L x).f4 := by show opnX _ _ = _; unfold opnX; rw [if_neg c5, if_pos c4]
  obtain ⟨s1, s2⟩ := not_sizes (it L x).f4
  rw [eo]
  refine Ev.here fun k => ?_
  simp only [spec_l11Said.f, hrd]
  rw [if_pos (by omega), if_pos (by omega), if_neg c5, if_pos c4, if_pos (by omega), if_pos (by omega)]
  rfl
 have c3 : (it L x).f0 = 3 := by omega
 have eo : opn L x = if bareI L x = true then (it L x).f4 else txtE (it L x).f4 := by show opnX _ _ = _; unfold opnX; rw [if_neg c5, if_neg c4, if_pos c3]
 rw [eo]
 by_cases b : bareI L x = true
 ·rw [if_pos b]
  refine Ev.here fun k => ?_
  simp only [spec_l11Said.f, hrd]
  rw [if_pos (by omega), if_pos (by omega), if_neg c5, if_neg c4, if_pos c3, if_pos b]
 ·rw [if_neg b]
  refine Ev.step (f := fun k => (spec_l5Swap.f k (it L x).f4 whichF [amp, lts, gts, ret]).bind fun t => some t) (fun k => ?_) (Ev.bind (text_spec (it L x).f4 ht) (Ev.now _))
  simp only [spec_l11Said.f, hrd]
  rw [if_pos (by omega), if_pos (by omega), if_neg c5, if_neg c4, if_pos c3, if_neg b]
  rfl
/-- What both walks need of the list. -/
structure Good (L : List S90) : Prop where
 small : Small L
 fit : ∀ i, i < L.length → Fit (it L i)
 right : Right L
theorem kid_facts {L : List S90} (hG : Good L) {i j x : Nat} {s : List Nat} (hi : i < L.length) (hd : (kd L i).drop j = x :: s) :
  j < (it L i).f6.length ∧ (kd L i).drop (j + 1) = s ∧ x < L.length ∧ (it L x).f5 = (i : Int) ∧ ¬ (it L x).f0 = 1 ∧ rd (it L i).f6 (j : Int) = (x : Int) ∧ bareI L x = pr (it L i).f2 := by
 have e3 : (kd L i).length = (it L i).f6.length := List.length_map _
 have hj : j < (kd L i).length := by
  rcases Nat.lt_or_ge j (kd L i).length with q | q
  ·exact q
  ·rw [List.drop_eq_nil_of_le q] at hd; exact absurd hd (by simp)
 have hj2 : j < (it L i).f6.length := by omega
 rw [List.drop_eq_getElem_cons hj] at hd
 obtain ⟨hx, hs⟩ := List.cons.inj hd
 obtain ⟨z1, z2, z3⟩ := (hG.right.2.2.2.1 i hi).2 _ (List.getElem_mem hj2)
 have hget : (it L i).f6[j] = (x : Int) := by
  have : (kd L i)[j] = ((it L i).f6[j]).toNat := List.getElem_map _
  omega
 rw [hget] at z1 z2 z3
 have z4 : (it L x).f5 = (i : Int) := z3
 refine ⟨hj2, hs, by omega, z4, (hG.right.2.2.1 x (by omega)).2 (by omega), by rw [rdI _ j hj2]; exact hget, ?_⟩
 unfold bareI
 rw [z4]
 rfl
theorem spec_go (L : List S90) (hG : Good L) {s : List Nat} {t : ByteArray} (h : Tx L s t) : ∀ (i j : Nat) (acc : ByteArray), i < L.length → (kd L i).drop j = s → ((it L i).f0 = 1 ∨ (it L i).f0 = 2) → acc.size + t.size ≤ 4611686018427387904 →
  Ev (fun k => spec_l11Said.l1 k L acc j (it L i).f0 (it L i).f1 (it L i).f2 (it L i).f3 (it L i).f4 (it L i).f5 (it L i).f6) ((acc ++ t) ++ cls L i) := by
 have hL1 := hG.small.1
 induction h with
 | nil =>
  intro i j acc hi hd hk hs
  have hj : (kd L i).length ≤ j := List.drop_eq_nil_iff.mp hd
  have e3 : (kd L i).length = (it L i).f6.length := List.length_map _
  rw [app_empty]
  exact spec_end L (it L i) (hG.fit i hi) hk acc (by omega) j (by omega)
 | @cons x s a b h1 h2 ih1 ih2 =>
  intro i j acc hi hd hk hs
  obtain ⟨hj, hds, hx, hup, hn1, hrd, hba⟩ := kid_facts hG hi hd
  have hkl := (hG.fit i hi).kids
  have hA : (j : Int) < ((it L i).f6.length : Int) := Int.ofNat_lt.mpr hj
  have hB : (0 : Int) ≤ (j : Int) := Int.natCast_nonneg j
  have hw : wrap64 ((j : Int) + 1) = ((j + 1 : Nat) : Int) := succ64 (by omega)
  rw [ByteArray.size_append, ByteArray.size_append, ByteArray.size_append] at hs
  have f1 := spec_one L x hx hL1 (hG.fit x hx) (hG.right.2.2.1 x hx).1 hn1 a h1 (by omega) (fun c2 acc' hs' => ih1 x 0 acc' hx (by rw [List.drop_zero]) (Or.inr c2) hs')
  have g2 := ih2 i (j + 1) (acc ++ ((opn L x ++ a) ++ cls L x)) hi hds hk (by rw [ByteArray.size_append, ByteArray.size_append, ByteArray.size_append]; omega)
  have e5 : (acc ++ (((opn L x ++ a) ++ cls L x) ++ b)) ++ cls L i = ((acc ++ ((opn L x ++ a) ++ cls L x)) ++ b) ++ cls L i := by simp only [ByteArray.append_assoc]
  rw [e5]
  have hsz : ((opn L x ++ a) ++ cls L x).size = (opn L x).size + a.size + (cls L x).size := by rw [ByteArray.size_append, ByteArray.size_append]
  rw [hba] at f1
  have hstep : ∀ k, spec_l11Said.l1 (k + 1) L acc j (it L i).f0 (it L i).f1 (it L i).f2 (it L i).f3 (it L i).f4 (it L i).f5 (it L i).f6 = (spec_l11Said.f k L x (pr (it L i).f2)).bind fun t => if acc.size + t.size ≤ 9223372036854775807 then spec_l11Said.l1 k L (acc ++ t) ((j + 1 : Nat) : Int) (it L i).f0 (it L i).f1 (it L i).f2 (it L i).f3 (it L i).f4 (it L i).f5 (it L i).f6 else none := fun k => by
   simp only [spec_l11Said.l1, hrd, hw]
   rw [if_pos hA, if_pos hB]
   unfold pr
   by_cases c : (it L i).f2.toList = ([115, 99, 114, 105, 112, 116] : List UInt8)
   ·rw [if_pos c, if_pos c]
   ·rw [if_neg c, if_neg c]
  have hle : acc.size + ((opn L x ++ a) ++ cls L x).size ≤ 9223372036854775807 := by omega
  exact Ev.step hstep (Ev.bind f1 (Ev.ite_pos hle g2))

/-! ### the program -/
theorem impl_end (L : List S90) (x : S90) (hx : Fit x) (acc : ByteArray) (hs : acc.size + 2 + x.f2.size + 1 ≤ 140737488355328) (j : Nat) (hj : x.f6.length ≤ j) :
  Ev (fun k => impl_sayItem.l0 k acc L x.f6 (x.f6.length : Int) j x.f0 x.f1 x.f2 x.f3 x.f4 x.f5 x.f6) (acc ++ clsX x) := by
 by_cases c2 : x.f0 = 2
 case neg =>
  have e : clsX x = ByteArray.empty := by unfold clsX; rw [if_neg c2]
  rw [e, app_empty]
  refine Ev.here fun k => ?_
  simp only [impl_sayItem.l0]
  rw [if_neg (by omega), if_neg c2]
 obtain ⟨s1, s2⟩ := end_sizes x.f2
 have hn := hx.name
 have e : clsX x = if vd x.f2 = true then (if x.f1 = 0 then ByteArray.empty else endT x.f2) else endT x.f2 := by unfold clsX; rw [if_pos c2]
 have fin : (if 2 + x.f2.size ≤ 9223372036854775807 then (if ((⟨#[60, 47]⟩ : ByteArray) ++ x.f2).size + 1 ≤ 9223372036854775807 then (if acc.size + (((⟨#[60, 47]⟩ : ByteArray) ++ x.f2) ++ (⟨#[62]⟩ : ByteArray)).size ≤ 140737488355328 then ((some (acc ++ (((⟨#[60, 47]⟩ : ByteArray) ++ x.f2) ++ (⟨#[62]⟩ : ByteArray)))).bind fun t307 => (some t307)) else (none)) else (none)) else (none)) = some (acc ++ endT x.f2) := by
  have s5 : (((⟨#[60, 47]⟩ : ByteArray) ++ x.f2) ++ (⟨#[62]⟩ : ByteArray)).size = 2 + x.f2.size + 1 := s2
  rw [if_pos (by omega), if_pos (by omega), if_pos (by omega)]
  rfl
 rw [e]
 refine Ev.here fun k => ?_
 simp only [impl_sayItem.l0]
 rw [if_neg (by omega), if_pos c2, Void_impl x.f2 hn, fin, Option.bind_some]
 by_cases z : x.f1 = 0
 ·rw [if_pos z]
  by_cases v : vd x.f2 = true
  ·rw [if_pos v, if_pos v, if_pos z, app_empty]
  ·rw [if_neg v, if_neg v]
 ·rw [if_neg z]
  by_cases v : vd x.f2 = true
  ·rw [if_pos v, if_neg z]
  ·rw [if_neg v]
theorem impl_one (L : List S90) (x : Nat) (hx : x < L.length) (hL : L.length ≤ 1048576) (hf : Fit (it L x)) (hp : Plain (it L x)) (hu : (it L x).f0 = 3 → 0 ≤ (it L x).f5 ∧ (it L x).f5 < L.length) (a : ByteArray) (acc : ByteArray)
  (hz : acc.size + (opn L x).size + a.size + 1048576 * 4 ≤ 140737488355328)
  (ih : ∀ acc' : ByteArray, acc'.size + a.size + 1048576 * 4 ≤ 140737488355328 → Ev (fun k => impl_sayItem.l0 k acc' L (it L x).f6 ((it L x).f6.length : Int) 0 (it L x).f0 (it L x).f1 (it L x).f2 (it L x).f3 (it L x).f4 (it L x).f5 (it L x).f6) ((acc' ++ a) ++ cls L x)) :
  Ev (fun k => impl_sayItem.f k acc L x) ((acc ++ opn L x ++ a) ++ cls L x) := by
 have hrd : rd_T90 L (x : Int) = it L x := rfl
 have ht := hf.text
 have hn := hf.name
 have go : ∀ acc' : ByteArray, acc'.size + a.size + 1048576 * 4 ≤ 140737488355328 → Ev (fun k => impl_sayItem.j0 k acc' L (it L x).f0 (it L x).f1 (it L x).f2 (it L x).f3 (it L x).f4 (it L x).f5 (it L x).f6) ((acc' ++ a) ++ cls L x) := fun acc' h =>
  Ev.step (fun k => by simp only [impl_sayItem.j0]) (ih acc' h)
 by_cases c5 : (it L x).f0 = 5
 ·have eo : opn L x = docT (it L x).f4 := by show opnX _ _ = _; unfold opnX; rw [if_pos c5]
  obtain ⟨s1, s2⟩ := doc_sizes (it L x).f4
  rw [eo] at hz ⊢
  refine Ev.step (fun k => ?_) (go (acc ++ docT (it L x).f4) (by rw [ByteArray.size_append]; omega))
  simp only [impl_sayItem.f, hrd]
  have s5 : (((⟨#[60, 33, 100, 111, 99, 116, 121, 112, 101, 32]⟩ : ByteArray) ++ (it L x).f4) ++ (⟨#[62]⟩ : ByteArray)).size = 10 + (it L x).f4.size + 1 := s2
  rw [if_pos (by omega), if_pos (by omega), if_pos c5, if_pos (by omega), if_pos (by omega), if_pos (by omega)]
  rfl
 by_cases c4 : (it L x).f0 = 4
 ·have eo : opn L x = notT (it L x).f4 := by show opnX _ _ = _; unfold opnX; rw [if_neg c5, if_pos c4]
  obtain ⟨s1, s2⟩ := not_sizes (it L x).f4
  rw [eo] at hz ⊢
  refine Ev.step (fun k => ?_) (go (acc ++ notT (it L x).f4) (by rw [ByteArray.size_append]; omega))
  simp only [impl_sayItem.f, hrd]
  have s5 : (((⟨#[60, 33, 45, 45]⟩ : ByteArray) ++ (it L x).f4) ++ (⟨#[45, 45, 62]⟩ : ByteArray)).size = 4 + (it L x).f4.size + 3 := s2
  rw [if_pos (by omega), if_pos (by omega), if_neg c5, if_pos c4, if_pos (by omega), if_pos (by omega), if_pos (by omega)]
  rfl
 by_cases c3 : (it L x).f0 = 3
 ·obtain ⟨u0, u1⟩ := hu c3
  have eo : opn L x = if bareI L x = true then (it L x).f4 else txtE (it L x).f4 := by show opnX _ _ = _; unfold opnX; rw [if_neg c5, if_neg c4, if_pos c3]
  have hpr : impl_isPlainRaw.f (rd_T90 L (it L x).f5).f2 = some (bareI L x) := pr_impl _
  rw [eo] at hz ⊢
  by_cases b : bareI L x = true
  ·rw [if_pos b] at hz ⊢
   refine Ev.step (fun k => ?_) (go (acc ++ (it L x).f4) (by rw [ByteArray.size_append]; omega))
   simp only [impl_sayItem.f, hrd]
   rw [if_pos (by omega), if_pos (by omega), if_neg c5, if_neg c4, if_pos c3, if_pos u0, if_pos u1, hpr, Option.bind_some, if_pos b, if_pos (by omega)]
   rfl
  ·rw [if_neg b] at hz ⊢
   refine Ev.step (fun k => ?_) (go (acc ++ txtE (it L x).f4) (by rw [ByteArray.size_append]; omega))
   simp only [impl_sayItem.f, hrd]
   rw [if_pos (by omega), if_pos (by omega), if_neg c5, if_neg c4, if_pos c3, if_pos u0, if_pos u1, hpr, Option.bind_some, if_neg b, show impl_textSaid.f (it L x).f4 = some (txtE (it L x).f4) from textSaid_tells _ ht, Option.bind_some, if_pos (by omega)]
   rfl
 by_cases c2 : (it L x).f0 = 2
 ·have eo : opn L x = staT (it L x).f2 (it L x).f3 ++ (⟨#[62]⟩ : ByteArray) := by
   show opnX _ _ = _; unfold opnX; rw [if_neg c5, if_neg c4, if_neg c3, if_pos c2]
  have s3 : (staT (it L x).f2 (it L x).f3 ++ (⟨#[62]⟩ : ByteArray)).size = (staT (it L x).f2 (it L x).f3).size + 1 := by rw [ByteArray.size_append]; rfl
  rw [eo] at hz ⊢
  have g := go (acc ++ (staT (it L x).f2 (it L x).f3 ++ (⟨#[62]⟩ : ByteArray))) (by rw [ByteArray.size_append]; omega)
  refine Ev.step (f := fun k => (impl_startSpelt.f k (it L x).f2 (it L x).f3).bind fun t302 => (if t302.size + 1 ≤ 9223372036854775807 then (if acc.size + (t302 ++ (⟨#[62]⟩ : ByteArray)).size ≤ 140737488355328 then ((some (acc ++ (t302 ++ (⟨#[62]⟩ : ByteArray)))).bind fun t303 => (impl_sayItem.j0 k t303 L (it L x).f0 (it L x).f1 (it L x).f2 (it L x).f3 (it L x).f4 (it L x).f5 (it L x).f6)) else (none)) else (none))) (fun k => ?_) (Ev.bind (start_tells (it L x) hf (by omega)) (Ev.ite_pos (by omega) (Ev.ite_pos (by omega) g)))
  simp only [impl_sayItem.f, hrd]
  rw [if_pos (by omega), if_pos (by omega), if_neg c5, if_neg c4, if_neg c3, if_pos c2]
 ·have eo : opn L x = ByteArray.empty := by show opnX _ _ = _; unfold opnX; rw [if_neg c5, if_neg c4, if_neg c3, if_neg c2]
  rw [eo, app_empty]
  refine Ev.step (fun k => ?_) (go acc (by omega))
  simp only [impl_sayItem.f, hrd]
  rw [if_pos (by omega), if_pos (by omega), if_neg c5, if_neg c4, if_neg c3, if_neg c2]
theorem impl_go (L : List S90) (hG : Good L) {s : List Nat} {t : ByteArray} (h : Tx L s t) : ∀ (i j : Nat) (acc : ByteArray), i < L.length → (kd L i).drop j = s → acc.size + t.size + 1048576 * 4 ≤ 140737488355328 →
  Ev (fun k => impl_sayItem.l0 k acc L (it L i).f6 ((it L i).f6.length : Int) j (it L i).f0 (it L i).f1 (it L i).f2 (it L i).f3 (it L i).f4 (it L i).f5 (it L i).f6) ((acc ++ t) ++ cls L i) := by
 have hL1 := hG.small.1
 induction h with
 | nil =>
  intro i j acc hi hd hs
  have hj : (kd L i).length ≤ j := List.drop_eq_nil_iff.mp hd
  have e3 : (kd L i).length = (it L i).f6.length := List.length_map _
  have hn := (hG.fit i hi).name
  rw [app_empty]
  exact impl_end L (it L i) (hG.fit i hi) acc (by omega) j (by omega)
 | @cons x s a b h1 h2 ih1 ih2 =>
  intro i j acc hi hd hs
  obtain ⟨hj, hds, hx, hup, hn1, hrd, hba⟩ := kid_facts hG hi hd
  have hkl := (hG.fit i hi).kids
  have hA : (j : Int) < ((it L i).f6.length : Int) := Int.ofNat_lt.mpr hj
  have hB : (0 : Int) ≤ (j : Int) := Int.natCast_nonneg j
  have hn := (hG.fit x hx).name
  have hw : wrap64 ((j : Int) + 1) = ((j + 1 : Nat) : Int) := succ64 (by omega)
  rw [ByteArray.size_append, ByteArray.size_append, ByteArray.size_append] at hs
  have hc : (cls L x).size ≤ 3 + (it L x).f2.size := by
   have h1 := (end_sizes (it L x).f2).2
   have h8 : ByteArray.empty.size = 0 := rfl
   show (clsX _).size ≤ _
   unfold clsX
   split
   ·split
    ·split <;> omega
    ·omega
   ·omega
  have f1 := impl_one L x hx hL1 (hG.fit x hx) (hG.right.2.2.1 x hx).1 (fun _ => by rw [hup]; exact ⟨by omega, by omega⟩) a acc (by omega) (fun acc' hs' => ih1 x 0 acc' hx (by rw [List.drop_zero]) (by omega))
  have g2 := ih2 i (j + 1) ((acc ++ opn L x ++ a) ++ cls L x) hi hds (by rw [ByteArray.size_append, ByteArray.size_append, ByteArray.size_append]; omega)
  have e5 : (acc ++ (((opn L x ++ a) ++ cls L x) ++ b)) ++ cls L i = (((acc ++ opn L x ++ a) ++ cls L x) ++ b) ++ cls L i := by simp only [ByteArray.append_assoc]
  rw [e5]
  have hstep : ∀ k, impl_sayItem.l0 (k + 1) acc L (it L i).f6 ((it L i).f6.length : Int) j (it L i).f0 (it L i).f1 (it L i).f2 (it L i).f3 (it L i).f4 (it L i).f5 (it L i).f6 = (impl_sayItem.f k acc L x).bind fun t => impl_sayItem.l0 k t L (it L i).f6 ((it L i).f6.length : Int) ((j + 1 : Nat) : Int) (it L i).f0 (it L i).f1 (it L i).f2 (it L i).f3 (it L i).f4 (it L i).f5 (it L i).f6 := fun k => by
   simp only [impl_sayItem.l0, hrd, hw]
   rw [if_pos hA, if_pos hB, if_pos hA]
  exact Ev.step hstep (Ev.bind f1 g2)
end Go.Proofs.YtgljgbkbjlondaaDoor.Tr
