/- Elements as the laws' own code goes over them: counting, copying, comparing: each ends, and what it tells (how deep one is, too). No conditions but the sizes that the row gives. -/
import Derived.Test.YtaomfbbbdddlmaaAttrBase
import Derived.Test.YtaomfbbbdddlmaaQe1
import Derived.Test.YtaomfbbbdddlmaaQe31
import Derived.Test.YtaomfbbbdddlmaaQe8
set_option linter.unusedVariables false
set_option linter.unusedSimpArgs false
namespace Go.Proofs.Ytaomfbbbdddlmaa.Le
open Go.RowKit Go.Proofs.Ytaomfbbbdddlmaa.P Go.Proofs.Ytaomfbbbdddlmaa.Evs Go.Proofs.Ytaomfbbbdddlmaa.It Go.Proofs.YtaomfbbbdddlmaaW.PrintWords Go.Proofs.YtaomfbbbdddlmaaW.PrintLast

/-! ### elements -/
theorem szElS_loop (xs : List S43) (hlen : xs.length ≤ 1048576)
  (hx : ∀ y ∈ xs, ∀ left : Int, 0 ≤ left → left ≤ 1048576 → ∃ t, Ev (fun k => laws_szEl.f k y.f0 y.f1 y.f2 y.f3 y.f4 y.f5 left) t ∧ -1 ≤ t ∧ t ≤ left ∧ (0 ≤ t → G43 1048576 ((left - t).toNat + 1) y)) :
  ∀ (d i : Nat) (left : Int), xs.length - i = d → i ≤ xs.length → 0 ≤ left → left ≤ 1048576 →
  ∃ t, Ev (fun k => laws_szElS.l0 k xs left i) t ∧ -1 ≤ t ∧ t ≤ left ∧ (0 ≤ t → ∀ j, i ≤ j → ∀ h : j < xs.length, G43 1048576 ((left - t).toNat + 1) xs[j]) := by
 intro d
 induction d with
 | zero =>
  intro i left hd hi h0 h1
  refine ⟨left, Ev.here fun k => ?_, by omega, by omega, fun _ j hj hjl => by omega⟩
  simp only [laws_szElS.l0]; rw [if_neg (by omega)]
 | succ d ih =>
  intro i left hd hi h0 h1
  have hil : i < xs.length := by omega
  obtain ⟨t, e, t0, t1, tq⟩ := hx xs[i] (List.getElem_mem hil) left h0 h1
  have hrd : rd_T43 xs (i : Int) = xs[i] := rdT xs _ i hil
  by_cases c : t < 0
  ·refine ⟨-1, Ev.step (f := fun k => (laws_szEl.f k xs[i].f0 xs[i].f1 xs[i].f2 xs[i].f3 xs[i].f4 xs[i].f5 left).bind fun t115 => (if t115 < 0 then (some (-1)) else (laws_szElS.l0 k xs t115 (wrap64 ((i : Int) + 1))))) (fun k => ?_) (Ev.bind e (Ev.ite_pos c (Ev.const fun _ => rfl))), by omega, by omega, by omega⟩
   simp only [laws_szElS.l0]; rw [if_pos (by omega), if_pos (by omega), hrd]
  ·obtain ⟨u, ev, u0, u1, uq⟩ := ih (i + 1) t (by omega) (by omega) (by omega) (by omega)
   refine ⟨u, Ev.step (f := fun k => (laws_szEl.f k xs[i].f0 xs[i].f1 xs[i].f2 xs[i].f3 xs[i].f4 xs[i].f5 left).bind fun t115 => (if t115 < 0 then (some (-1)) else (laws_szElS.l0 k xs t115 (wrap64 ((i : Int) + 1))))) (fun k => ?_) (Ev.bind e (Ev.ite_neg c ?_)), by omega, by omega, fun hu j hj hjl => ?_⟩
   ·simp only [laws_szElS.l0]; rw [if_pos (by omega), if_pos (by omega), hrd]
   ·rw [w64 (i := (i : Int) + 1) (by omega) (by omega)]; exact ev
   ·rcases Nat.lt_or_ge i j with hij | hij
    ·exact G43_mono (by omega) (uq hu j hij hjl)
    ·obtain rfl : i = j := by omega
     exact G43_mono (by omega) (tq (by omega))

theorem szEl_tells : ∀ (m : Nat) (y : S43), G43 maxLen m y → ∀ left : Int, 0 ≤ left → left ≤ 1048576 →
  ∃ t, Ev (fun k => laws_szEl.f k y.f0 y.f1 y.f2 y.f3 y.f4 y.f5 left) t ∧ -1 ≤ t ∧ t ≤ left ∧ (0 ≤ t → G43 1048576 ((left - t).toNat + 1) y) := by
 intro m
 induction m with
 | zero => intro y hy; exact hy.elim
 | succ m ih =>
  intro y hy left h0 h1
  obtain ⟨w0, w1, hs2, ⟨hl3, hg3⟩, hs4, hl5, hg5⟩ := hy
  unfold maxLen at hs2 hs4 hl5
  have e0 : wrap64 (left - (y.f2.size : Int)) = left - (y.f2.size : Int) := w64 (by omega) (by omega)
  by_cases c0 : left - (y.f2.size : Int) < 0
  ·refine ⟨-1, Ev.here fun k => ?_, by omega, by omega, by omega⟩
   simp only [laws_szEl.f]; rw [e0, if_pos c0]
  obtain ⟨t, et, t0, t1, tq⟩ := szAttrS_tells y.f3 m (left - (y.f2.size : Int)) hl3 hg3 (by omega) (by omega)
  have step : ∀ k, laws_szEl.f (k + 1) y.f0 y.f1 y.f2 y.f3 y.f4 y.f5 left = (laws_szAttrS.f k y.f3 (left - (y.f2.size : Int))).bind fun t117 => (if t117 < 0 then (some (-1)) else (if (wrap64 (t117 - (y.f4.size : Int))) < 0 then (some (-1)) else ((laws_szElS.f k y.f5 (wrap64 (t117 - (y.f4.size : Int)))).bind fun t118 => (if t118 < 0 then (some (-1)) else (some t118))))) := by
   intro k; simp only [laws_szEl.f]; rw [e0, if_neg c0]
  by_cases c1 : t < 0
  ·exact ⟨-1, Ev.step step (Ev.bind et (Ev.ite_pos c1 (Ev.const fun _ => rfl))), by omega, by omega, by omega⟩
  have e1 : wrap64 (t - (y.f4.size : Int)) = t - (y.f4.size : Int) := w64 (by omega) (by omega)
  by_cases c2 : t - (y.f4.size : Int) < 0
  ·exact ⟨-1, Ev.step step (Ev.bind et (Ev.ite_neg c1 (Ev.ite_pos (by rw [e1]; exact c2) (Ev.const fun _ => rfl)))), by omega, by omega, by omega⟩
  have e2 : wrap64 (t - (y.f4.size : Int) - (y.f5.length : Int)) = t - (y.f4.size : Int) - (y.f5.length : Int) := w64 (by omega) (by omega)
  by_cases c3 : t - (y.f4.size : Int) - (y.f5.length : Int) < 0
  ·refine ⟨-1, Ev.step step (Ev.bind et (Ev.ite_neg c1 (Ev.ite_neg (by rw [e1]; exact c2) (Ev.bind (a := -1) (Ev.here fun k => ?_) (Ev.ite_pos (by omega) (Ev.const fun _ => rfl)))))), by omega, by omega, by omega⟩
   rw [e1]; simp only [laws_szElS.f]; rw [e2, if_pos c3]
  obtain ⟨u, eu, u0, u1, uq⟩ := szElS_loop y.f5 (by omega) (fun z hz l hl0 hl1 => ih z (hg5 z hz) l hl0 hl1) y.f5.length 0 (t - (y.f4.size : Int) - (y.f5.length : Int)) (by omega) (by omega) (by omega) (by omega)
  have eu' : Ev (fun k => laws_szElS.f k y.f5 (wrap64 (t - (y.f4.size : Int)))) u := by
   refine Ev.step (f := fun k => laws_szElS.l0 k y.f5 (t - (y.f4.size : Int) - (y.f5.length : Int)) 0) (fun k => ?_) eu
   rw [e1]; simp only [laws_szElS.f]; rw [e2, if_neg c3]
  by_cases c4 : u < 0
  ·exact ⟨-1, Ev.step step (Ev.bind et (Ev.ite_neg c1 (Ev.ite_neg (by rw [e1]; exact c2) (Ev.bind eu' (Ev.ite_pos c4 (Ev.const fun _ => rfl)))))), by omega, by omega, by omega⟩
  ·refine ⟨u, Ev.step step (Ev.bind et (Ev.ite_neg c1 (Ev.ite_neg (by rw [e1]; exact c2) (Ev.bind eu' (Ev.ite_neg c4 (Ev.const fun _ => rfl)))))), by omega, by omega, fun hu => ?_⟩
   obtain ⟨q3, g3⟩ := tq (by omega)
   refine ⟨w0, w1, by omega, ⟨q3, g3⟩, by omega, by omega, fun z hz => ?_⟩
   obtain ⟨i, hi, rfl⟩ := List.getElem_of_mem hz
   exact G43_mono (by omega) (uq hu i (by omega) hi)

/-! ### copying -/
theorem toElS_loop (b m : Nat) (xs : List S43) (hlen : xs.length ≤ 1048576)
  (hx : ∀ y ∈ xs, ∃ z : S48, Ev (fun k => laws_toEl.f k y.f0 y.f1 y.f2 y.f3 y.f4 y.f5) (z.f0, z.f1, z.f2, z.f3, z.f4, z.f5) ∧ G48 b m z) :
  ∀ (d i : Nat) (out : List S48), xs.length - i = d → i ≤ xs.length → out.length = xs.length → (∀ j, j < i → ∀ h : j < out.length, G48 b m out[j]) →
  ∃ r : List S48, Ev (fun k => laws_toElS.l0 k xs out i) r ∧ r.length = xs.length ∧ ∀ y ∈ r, G48 b m y := by
 intro d
 induction d with
 | zero =>
  intro i out hd hi ho hj
  refine ⟨out, Ev.here fun k => ?_, ho, fun y hy => ?_⟩
  ·simp only [laws_toElS.l0]; rw [if_neg (by omega)]
  ·obtain ⟨j, hj', rfl⟩ := List.getElem_of_mem hy
   exact hj j (by omega) hj'
 | succ d ih =>
  intro i out hd hi ho hj
  have hil : i < xs.length := by omega
  obtain ⟨⟨z0, z1, z2, z3, z4, z5⟩, ez, gz⟩ := hx xs[i] (List.getElem_mem hil)
  have hrd : rd_T43 xs (i : Int) = xs[i] := rdT xs _ i hil
  obtain ⟨r, er, hr, gr⟩ := ih (i + 1) (out.set i ⟨z0, z1, z2, z3, z4, z5⟩) (by omega) (by omega) (by simpa using ho) (fun j hji hjl => by
   rw [List.getElem_set]
   by_cases e : i = j
   ·rw [if_pos e]; exact gz
   ·rw [if_neg e]; exact hj j (by omega) (by simpa using hjl))
  refine ⟨r, Ev.step (f := fun k => (laws_toEl.f k xs[i].f0 xs[i].f1 xs[i].f2 xs[i].f3 xs[i].f4 xs[i].f5).bind fun bt160 => (if (i : Int) < (out.length : Int) then (laws_toElS.l0 k xs (out.set ((i : Int) : Int).toNat (⟨bt160.1, bt160.2.1, bt160.2.2.1, bt160.2.2.2.1, bt160.2.2.2.2.1, bt160.2.2.2.2.2⟩ : S48)) (wrap64 ((i : Int) + 1))) else (none))) (fun k => ?_) (Ev.bind ez (Ev.ite_pos (by omega) ?_)), hr, gr⟩
  ·simp only [laws_toElS.l0]; rw [if_pos (by omega), if_pos (by omega), hrd]
  ·rw [w64 (i := (i : Int) + 1) (by omega) (by omega), Int.toNat_natCast, show ((i : Int) + 1) = ((i + 1 : Nat) : Int) from rfl]; exact er

theorem toEl_tells : ∀ (m : Nat) (y : S43), G43 1048576 m y → ∃ z : S48, Ev (fun k => laws_toEl.f k y.f0 y.f1 y.f2 y.f3 y.f4 y.f5) (z.f0, z.f1, z.f2, z.f3, z.f4, z.f5) ∧ G48 1048576 m z := by
 intro m
 induction m with
 | zero => intro y hy; exact hy.elim
 | succ m ih =>
  intro y hy
  obtain ⟨w0, w1, hs2, ⟨hl3, hg3⟩, hs4, hl5, hg5⟩ := hy
  obtain ⟨r, er, hr, gr⟩ := toElS_loop 1048576 m y.f5 hl5 (fun z hz => ih z (hg5 z hz)) y.f5.length 0 (List.replicate y.f5.length z48) (by omega) (by omega) (by simp) (fun j hj => by omega)
  have er' : Ev (fun k => laws_toElS.f k y.f5) r := by
   refine Ev.step (f := fun k => laws_toElS.l0 k y.f5 (List.replicate y.f5.length z48) 0) (fun k => ?_) er
   simp only [laws_toElS.f]; rw [if_pos (by omega), if_pos (by omega), Int.toNat_natCast]
  refine ⟨⟨y.f0, y.f1, y.f2, y.f3.map toA, y.f4, r⟩, Ev.step (f := fun k => (laws_toAttrS.f k y.f3).bind fun t174 => ((laws_toElS.f k y.f5).bind fun t177 => (some (y.f0, y.f1, y.f2, t174, y.f4, t177)))) (fun k => ?_) (Ev.bind (toAttrS_tells y.f3 hl3) (Ev.bind er' (Ev.const fun _ => rfl))), w0, w1, hs2, ⟨by simpa using hl3, fun a ha => ?_⟩, hs4, by show r.length ≤ 1048576; omega, gr⟩
  ·simp only [laws_toEl.f]
  ·obtain ⟨x, hx, rfl⟩ := List.mem_map.1 ha
   exact hg3 x hx

/-! ### comparing with itself -/
theorem eqElS_loop (xs : List S48) (hlen : xs.length ≤ 1048576)
  (hx : ∀ y ∈ xs, Ev (fun k => laws_eqEl.f k y.f0 y.f1 y.f2 y.f3 y.f4 y.f5 y.f0 y.f1 y.f2 y.f3 y.f4 y.f5) true) : ∀ (d i : Nat), xs.length - i = d → i ≤ xs.length → Ev (fun k => laws_eqElS.l0 k xs xs i) true := by
 intro d
 induction d with
 | zero =>
  intro i hd hi
  refine Ev.here fun k => ?_
  simp only [laws_eqElS.l0]; rw [if_neg (by omega)]
 | succ d ih =>
  intro i hd hi
  have hil : i < xs.length := by omega
  have hrd : rd_T48 xs (i : Int) = xs[i] := rdT xs _ i hil
  refine Ev.step (f := fun k => (laws_eqEl.f k xs[i].f0 xs[i].f1 xs[i].f2 xs[i].f3 xs[i].f4 xs[i].f5 xs[i].f0 xs[i].f1 xs[i].f2 xs[i].f3 xs[i].f4 xs[i].f5).bind fun t205 => (if t205 = true then (laws_eqElS.l0 k xs xs (wrap64 ((i : Int) + 1))) else (some false))) (fun k => ?_) (Ev.bind (hx xs[i] (List.getElem_mem hil)) (Ev.ite_pos rfl ?_))
  ·simp only [laws_eqElS.l0]; rw [if_pos (by omega), if_pos (by omega), if_pos (by omega), hrd]
  ·rw [w64 (i := (i : Int) + 1) (by omega) (by omega)]; exact ih (i + 1) (by omega) (by omega)
theorem eqEl_self : ∀ (m : Nat) (y : S48), G48 1048576 m y → Ev (fun k => laws_eqEl.f k y.f0 y.f1 y.f2 y.f3 y.f4 y.f5 y.f0 y.f1 y.f2 y.f3 y.f4 y.f5) true := by
 intro m
 induction m with
 | zero => intro y hy; exact hy.elim
 | succ m ih =>
  intro y hy
  obtain ⟨w0, w1, hs2, ⟨hl3, hg3⟩, hs4, hl5, hg5⟩ := hy
  have h5 : Ev (fun k => laws_eqElS.f k y.f5 y.f5) true := by
   refine Ev.step (f := fun k => laws_eqElS.l0 k y.f5 y.f5 0) (fun k => ?_) (eqElS_loop y.f5 hl5 (fun z hz => ih z (hg5 z hz)) y.f5.length 0 (by omega) (by omega))
   simp only [laws_eqElS.f, if_true]
  refine Ev.step (f := fun k => (laws_eqAttrS.f k y.f3 y.f3).bind fun t208 => (if t208 = true then ((laws_eqElS.f k y.f5 y.f5).bind fun t209 => (if t209 = true then (some true) else (some false))) else (some false))) (fun k => ?_) (Ev.bind (eqAttrS_self y.f3 (by omega)) (Ev.ite_pos rfl (Ev.bind h5 (Ev.ite_pos rfl (Ev.const fun _ => rfl)))))
  simp only [laws_eqEl.f, if_true]

/-! ### lists -/
theorem szElS_tells (m : Nat) (xs : List S43) (left : Int) (hlen : xs.length ≤ maxLen) (hx : ∀ y ∈ xs, G43 maxLen m y) (h0 : 0 ≤ left) (h1 : left ≤ 1048576) :
  ∃ t, Ev (fun k => laws_szElS.f k xs left) t ∧ -1 ≤ t ∧ t ≤ left ∧ (0 ≤ t → xs.length ≤ 1048576 ∧ ∀ y ∈ xs, G43 1048576 ((left - t).toNat + 1) y) := by
 unfold maxLen at hlen
 have e2 : wrap64 (left - (xs.length : Int)) = left - (xs.length : Int) := w64 (by omega) (by omega)
 by_cases c : left - (xs.length : Int) < 0
 ·refine ⟨-1, Ev.here fun k => ?_, by omega, by omega, by omega⟩
  simp only [laws_szElS.f]; rw [e2, if_pos c]
 ·obtain ⟨t, ev, t0, t1, tq⟩ := szElS_loop xs (by omega) (fun z hz l hl0 hl1 => szEl_tells m z (hx z hz) l hl0 hl1) xs.length 0 (left - (xs.length : Int)) (by omega) (by omega) (by omega) (by omega)
  refine ⟨t, Ev.step (f := fun k => laws_szElS.l0 k xs (left - (xs.length : Int)) 0) (fun k => ?_) ev, by omega, by omega, fun ht => ⟨by omega, fun y hy => ?_⟩⟩
  ·simp only [laws_szElS.f]; rw [e2, if_neg c]
  ·obtain ⟨i, hi, rfl⟩ := List.getElem_of_mem hy
   exact G43_mono (by omega) (tq ht i (by omega) hi)
theorem toElS_tells (m : Nat) (xs : List S43) (hlen : xs.length ≤ 1048576) (hx : ∀ y ∈ xs, G43 1048576 m y) : ∃ r : List S48, Ev (fun k => laws_toElS.f k xs) r ∧ r.length = xs.length ∧ ∀ y ∈ r, G48 1048576 m y := by
 obtain ⟨r, er, hr, gr⟩ := toElS_loop 1048576 m xs hlen (fun z hz => toEl_tells m z (hx z hz)) xs.length 0 (List.replicate xs.length z48) (by omega) (by omega) (by simp) (fun j hj => by omega)
 refine ⟨r, Ev.step (f := fun k => laws_toElS.l0 k xs (List.replicate xs.length z48) 0) (fun k => ?_) er, hr, gr⟩
 simp only [laws_toElS.f]; rw [if_pos (by omega), if_pos (by omega), Int.toNat_natCast]
end Go.Proofs.Ytaomfbbbdddlmaa.Le
