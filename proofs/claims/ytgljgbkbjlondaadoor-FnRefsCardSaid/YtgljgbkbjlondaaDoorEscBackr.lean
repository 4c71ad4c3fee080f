/- A text that is escaped comes back: its references tell the signs that stood there. No conditions but the sizes. -/
import Derived.Test.YtgljgbkbjlondaaDoorRefsBaser
import Derived.Test.YtgljgbkbjlondaaDoorEscOnlyr
set_option linter.unusedVariables false
set_option linter.unusedSimpArgs false
namespace Go.Proofs.YtgljgbkbjlondaaDoor.Rf
open Go Go.RowKit Go.Proofs.YtgljgbkbjlondaaDoor.P Go.Proofs.YtgljgbkbjlondaaDoor.Evs Go.Proofs.YtgljgbkbjlondaaDoorW.PrintWords Go.Proofs.YtgljgbkbjlondaaDoorW.PrintLast

/-- What a sign became, read as a reference. -/
def Back (v : Bool) (sp : List UInt8) (b : UInt8) : Prop := ∀ rest : List UInt8, refV v (sp ++ rest) = (mk [b], sp.length)
theorem sg_at (x : ByteArray) (n : Int) (h : (names.zip signs).find? (fun q => q.1.data.toList == x.data.toList) = some (x, n)) : sg x = n := by
 have key : ∀ (l : List ByteArray) (r : List Int), (l.zip r).find? (fun q => q.1.data.toList == x.data.toList) = some (x, n) → look l r x = n := by
  intro l
  induction l with
  | nil => intro r hr; cases hr
  | cons nm l ih =>
   intro r hr
   cases r with
   | nil => cases hr
   | cons c r =>
    rw [List.zip_cons_cons, List.find?_cons] at hr
    unfold look
    rw [toList_data, toList_data]
    by_cases q : nm.data.toList = x.data.toList
    ·rw [if_pos q]
     simp only [q, beq_self_eq_true] at hr
     exact (Prod.mk.inj (Option.some.inj hr)).2
    ·rw [if_neg q]
     rw [show (nm.data.toList == x.data.toList) = false from beq_eq_false_iff_ne.mpr q] at hr
     exact ih r hr
 exact key names signs h
theorem name_back (v : Bool) (w : List UInt8) (b : UInt8) (hw : ∀ rest, best (w ++ 59 :: rest) = mk w) (h0 : w.length ≠ 0) (hh : w.head? ≠ some 35) (hs : sg (mk w) = (b.toNat : Int)) (hb : b.toNat < 128) : Back v (38 :: (w ++ [59])) b := by
 intro rest
 have e : (38 :: (w ++ [59])) ++ rest = 38 :: (w ++ 59 :: rest) := by simp
 have hhead : (w ++ 59 :: rest).head? ≠ some 35 := by
  cases w with
  | nil => exact absurd rfl h0
  | cons x w => exact hh
 rw [e, refV_cons, if_pos rfl, if_neg hhead]
 unfold refName
 rw [hw rest, mk_size, if_neg h0, List.drop_left]
 have hsc : sc (59 :: rest) = 1 := rfl
 rw [hsc, if_neg (by simp), hs, ps_small b.toNat hb, UInt8.ofNat_toNat]
 simp only [List.length_cons, List.length_append, List.length_nil]
 rw [show 1 + w.length + 1 = w.length + (0 + 1) + 1 by omega]
 rfl
theorem num_back (v : Bool) (w : List UInt8) (b : UInt8) (hX : ∀ rest, isX (w ++ 59 :: rest) = false) (h0 : w.length ≠ 0) (hn : ∀ rest, numGo false (w ++ 59 :: rest) 0 = ((b.toNat : Int), w.length)) (hnb : nb (b.toNat : Int) = (b.toNat : Int)) (hb : b.toNat < 128) : Back v (38 :: 35 :: (w ++ [59])) b := by
 intro rest
 have e : (38 :: 35 :: (w ++ [59])) ++ rest = 38 :: 35 :: (w ++ 59 :: rest) := by simp
 rw [e, refV_cons, if_pos rfl, if_pos List.head?_cons]
 unfold refNum
 rw [show (35 :: (w ++ 59 :: rest)).drop 1 = w ++ 59 :: rest from rfl, hX rest, if_neg Bool.false_ne_true]
 unfold numF
 rw [hn rest]
 show (if w.length = 0 then _ else (ps (nb (b.toNat : Int)), 2 + w.length + sc ((w ++ 59 :: rest).drop w.length))) = _
 rw [if_neg h0, List.drop_left, hnb, ps_small b.toNat hb, UInt8.ofNat_toNat]
 have hsc : sc (59 :: rest) = 1 := rfl
 rw [hsc]
 simp only [List.length_cons, List.length_append, List.length_nil]
 rw [show 2 + w.length + 1 = w.length + (0 + 1) + 1 + 1 by omega]
 rfl
theorem back_amp (v : Bool) : Back v [38, 97, 109, 112, 59] 38 := name_back v [97, 109, 112] 38 (fun _ => by kernel_rfl) (by decide) (by decide) (sg_at _ _ (by kernel_rfl)) (by decide)
theorem back_lt (v : Bool) : Back v [38, 108, 116, 59] 60 := name_back v [108, 116] 60 (fun _ => by kernel_rfl) (by decide) (by decide) (sg_at _ _ (by kernel_rfl)) (by decide)
theorem back_gt (v : Bool) : Back v [38, 103, 116, 59] 62 := name_back v [103, 116] 62 (fun _ => by kernel_rfl) (by decide) (by decide) (sg_at _ _ (by kernel_rfl)) (by decide)
theorem back_quot (v : Bool) : Back v [38, 113, 117, 111, 116, 59] 34 := name_back v [113, 117, 111, 116] 34 (fun _ => by kernel_rfl) (by decide) (by decide) (sg_at _ _ (by kernel_rfl)) (by decide)
theorem back_13 (v : Bool) : Back v [38, 35, 49, 51, 59] 13 := num_back v [49, 51] 13 (fun _ => by kernel_rfl) (by decide) (fun _ => by kernel_rfl) (by decide) (by decide)
theorem back_9 (v : Bool) : Back v [38, 35, 57, 59] 9 := num_back v [57] 9 (fun _ => by kernel_rfl) (by decide) (fun _ => by kernel_rfl) (by decide) (by decide)
theorem back_10 (v : Bool) : Back v [38, 35, 49, 48, 59] 10 := num_back v [49, 48] 10 (fun _ => by kernel_rfl) (by decide) (fun _ => by kernel_rfl) (by decide) (by decide)
def spec7 : List (UInt8 × List UInt8) := [(38, [38, 97, 109, 112, 59]), (60, [38, 108, 116, 59]), (62, [38, 103, 116, 59]), (34, [38, 113, 117, 111, 116, 59]), (13, [38, 35, 49, 51, 59]), (9, [38, 35, 57, 59]), (10, [38, 35, 49, 48, 59])]
theorem back_all (v : Bool) : ∀ q ∈ spec7, Back v q.2 q.1 ∧ q.2 ≠ [] := by
 intro q h
 simp only [spec7, List.mem_cons, List.not_mem_nil, or_false] at h
 rcases h with rfl | rfl | rfl | rfl | rfl | rfl | rfl
 ·exact ⟨back_amp v, by decide⟩
 ·exact ⟨back_lt v, by decide⟩
 ·exact ⟨back_gt v, by decide⟩
 ·exact ⟨back_quot v, by decide⟩
 ·exact ⟨back_13 v, by decide⟩
 ·exact ⟨back_9 v, by decide⟩
 ·exact ⟨back_10 v, by decide⟩
def escG (v : Bool) : UInt8 → List UInt8 := if v = true then Esc.g7 else Esc.g4
theorem each7 : ∀ b : UInt8, (Esc.g7 b == [b] && b != 38 || spec7.contains (b, Esc.g7 b)) = true := all_bytes (by decide +kernel)
theorem each4 : ∀ b : UInt8, (Esc.g4 b == [b] && b != 38 || spec7.contains (b, Esc.g4 b)) = true := all_bytes (by decide +kernel)
theorem each (v : Bool) (b : UInt8) : (escG v b = [b] ∧ b ≠ 38) ∨ (b, escG v b) ∈ spec7 := by
 have h : (escG v b == [b] && b != 38 || spec7.contains (b, escG v b)) = true := by
  cases v with
  | true => exact each7 b
  | false => exact each4 b
 rw [Bool.or_eq_true, Bool.and_eq_true, beq_iff_eq, bne_iff_ne, List.contains_iff_mem] at h
 exact h
theorem back (v : Bool) : ∀ (e : List UInt8) (f : Nat), (e.flatMap (escG v)).length ≤ f → refs v f (e.flatMap (escG v)) = e
 | [], f, _ => refs_nil v f
 | b :: e, f, h => by
  rw [List.flatMap_cons, List.length_append] at h
  rw [List.flatMap_cons]
  rcases each v b with ⟨h1, h2⟩ | h1
  ·rw [h1] at h ⊢
   cases f with
   | zero => exact absurd h (by simp)
   | succ f =>
    rw [List.singleton_append, refs_cons, show refV v (b :: e.flatMap (escG v)) = ((⟨#[]⟩ : ByteArray), 0) from by rw [refV_cons, if_neg h2], if_pos rfl, back v e f (by simp only [List.length_cons, List.length_nil] at h; omega)]
  ·obtain ⟨h2, h3⟩ := back_all v _ h1
   replace h2 : Back v (escG v b) b := h2
   replace h3 : escG v b ≠ [] := h3
   generalize escG v b = sp at h h2 h3
   cases sp with
   | nil => exact absurd rfl h3
   | cons x sp =>
    cases f with
    | zero => exact absurd h (by simp)
    | succ f =>
     have hr := h2 (e.flatMap (escG v))
     rw [List.cons_append] at hr ⊢
     rw [refs_cons, hr]
     rw [if_neg (show ¬ (mk [b], (x :: sp).length).2 = 0 by simp)]
     show (mk [b]).data.toList ++ refs v f ((x :: (sp ++ e.flatMap (escG v))).drop (x :: sp).length) = _
     rw [← List.cons_append, List.drop_left, back v e f (by simp only [List.length_cons] at h; omega)]
     rfl
/-- The program: Refs of what Escape tells. -/
theorem Refs_Escape (e : ByteArray) (v : Bool) (he : e.size ≤ 100000) : ∃ t, impl_Escape.f e v = some t ∧ Ev (fun k => impl_Refs.f k t v) e := by
 refine ⟨mk (e.data.toList.flatMap (escG v)), Esc.Escape_tells e v (by omega), ?_⟩
 have hl : (e.data.toList.flatMap (escG v)).length ≤ 6 * e.data.toList.length := Esc.flat_length _ (fun b => by
  cases v with
  | true => exact Esc.l7 b
  | false => exact Esc.l4 b) _
 have hsz : e.data.toList.length = e.size := rfl
 have h := (Refs_tells (mk (e.data.toList.flatMap (escG v))) (by rw [mk_size]; omega) v).1
 have hd : (mk (e.data.toList.flatMap (escG v))).data.toList = e.data.toList.flatMap (escG v) := rfl
 rw [hd, mk_size, back v e.data.toList _ (Nat.le_refl _), mk_list] at h
 exact h
end Go.Proofs.YtgljgbkbjlondaaDoor.Rf
