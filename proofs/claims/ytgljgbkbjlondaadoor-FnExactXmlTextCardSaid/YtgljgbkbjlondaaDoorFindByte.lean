/- One byte, looked for in a text: the reference's loop. No conditions but the size. -/
import Derived.Test.YtgljgbkbjlondaaDoorStandOnly
import Derived.Test.YtgljgbkbjlondaaDoorPt2
set_option linter.unusedVariables false
set_option linter.unusedSimpArgs false
namespace Go.Proofs.YtgljgbkbjlondaaDoor.Sg
open Go Go.RowKit Go.Proofs.YtgljgbkbjlondaaDoor.P Go.Proofs.YtgljgbkbjlondaaDoor.Evs Go.Proofs.YtgljgbkbjlondaaDoorW.PrintWords Go.Proofs.YtgljgbkbjlondaaDoorW.PrintLast

/-- One byte, looked for from a place on. -/
theorem Find_some (s : ByteArray) (c : UInt8) (hs : s.size ≤ 1048576) : ∀ (d j : Nat), s.size - j = d → j ≤ s.size →
    ∃ r : Int, Ev (fun k => spec_l4Find.l0 k s j (c.toNat : Int)) r ∧ (r < 0 ↔ c ∉ s.data.toList.drop j) := by
  intro d
  have hsz : s.data.toList.length = s.size := rfl
  induction d with
  | zero =>
    intro j hd hj
    refine ⟨-1, Ev.here fun k => ?_, ?_⟩
    · simp only [spec_l4Find.l0]; rw [if_neg (by omega)]
    · rw [List.drop_eq_nil_of_le (by omega)]; simp
  | succ d ih =>
    intro j hd hj
    have hjl : j < s.data.toList.length := by omega
    have hA : (j : Int) < (s.size : Int) := Int.ofNat_lt.mpr hjl
    have hB : (0 : Int) ≤ (j : Int) := Int.natCast_nonneg j
    have hw : wrap64 ((j : Int) + 1) = ((j + 1 : Nat) : Int) := by rw [w64 (by omega) (by omega)]; rfl
    rw [List.drop_eq_getElem_cons hjl]
    have hstep : ∀ k, spec_l4Find.l0 (k + 1) s j (c.toNat : Int) = if (s.data.toList[j]) = c then some (j : Int) else spec_l4Find.l0 k s ((j + 1 : Nat) : Int) (c.toNat : Int) := by
      intro k
      have hbt := bt_list s j hjl
      generalize s.data.toList[j] = b at hbt
      simp only [spec_l4Find.l0, hbt, hw]
      rw [if_pos hA, if_pos hB]
      by_cases h : b = c
      · rw [if_pos h, if_pos (by rw [h])]
      · rw [if_neg h, if_neg (fun e => h (UInt8.toNat_inj.mp (Int.ofNat_inj.mp e)))]
    by_cases h : s.data.toList[j] = c
    · refine ⟨j, Ev.here fun k => by rw [hstep, if_pos h], ?_⟩
      constructor
      · intro h0; omega
      · intro h0; exact absurd (by rw [h]; exact List.mem_cons_self) h0
    · obtain ⟨r, er, hr⟩ := ih (j + 1) (by omega) (by omega)
      refine ⟨r, Ev.step (fun k => by rw [hstep, if_neg h]) er, ?_⟩
      rw [hr, List.mem_cons]
      constructor
      · rintro h0 (h1 | h1)
        · exact h h1.symm
        · exact h0 h1
      · intro h0 h1; exact h0 (Or.inr h1)
end Go.Proofs.YtgljgbkbjlondaaDoor.Sg
