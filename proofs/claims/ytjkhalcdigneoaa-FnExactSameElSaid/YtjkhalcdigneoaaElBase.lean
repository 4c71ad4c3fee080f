/- Trees of elements as the laws' own code goes over them: counting (szEl), copying (toEl), comparing (eqEl): each ends, and what it tells. No conditions but the sizes that the row gives. -/
import Derived.Test.YtjkhalcdigneoaaPe2
import Derived.Test.YtjkhalcdigneoaaPe4
namespace Go.Proofs.Ytjkhalcdigneoaa.El
open Go.RowKit Go.Proofs.Ytjkhalcdigneoaa.P Go.Proofs.YtjkhalcdigneoaaW.PrintWords Go.Proofs.YtjkhalcdigneoaaW.PrintLast

/-! ### numbers, rows, rounds -/
theorem w64 {i : Int} (h0 : -9223372036854775808 ≤ i) (h1 : i ≤ 9223372036854775807) : wrap64 i = i := by unfold wrap64; omega
theorem Ev.here {α : Type} {g : Nat → Option α} {r : α} (h : ∀ k, g (k + 1) = some r) : Ev g r := ⟨1, fun k hk => by obtain ⟨k, rfl⟩ : ∃ m, k = m + 1 := ⟨k - 1, by omega⟩; exact h k⟩
theorem Ev.const {α : Type} {g : Nat → Option α} {r : α} (h : ∀ k, g k = some r) : Ev g r := ⟨0, fun k _ => h k⟩
theorem Ev.ite_pos {α : Type} {c : Prop} [Decidable c] {f g : Nat → Option α} {r : α} (hc : c) (h : Ev f r) : Ev (fun k => if c then f k else g k) r := by
  simp only [if_pos hc]; exact h
theorem Ev.ite_neg {α : Type} {c : Prop} [Decidable c] {f g : Nat → Option α} {r : α} (hc : ¬ c) (h : Ev g r) : Ev (fun k => if c then f k else g k) r := by
  simp only [if_neg hc]; exact h
theorem Ev.opt {α β : Type} {o : Option α} {f : Nat → α → Option β} {a : α} {r : β} (h : o = some a) (k : Ev (fun n => f n a) r) : Ev (fun n => o.bind (f n)) r := by
  subst h; exact k
theorem rdT {α : Type} (xs : List α) (z : α) (i : Nat) (h : i < xs.length) : xs.getD ((i : Int)).toNat z = xs[i] := by
  rw [Int.toNat_natCast, List.getD_eq_getElem?_getD, List.getElem?_eq_getElem h]; rfl

/-! ### attributes -/
theorem szAttr_tells (n v : ByteArray) (left : Int) (hn : n.size ≤ maxLen) (hv : v.size ≤ maxLen) (h0 : 0 ≤ left) (h1 : left ≤ 1048576) :
    ∃ t, laws_szAttr.f n v left = some t ∧ -1 ≤ t ∧ t ≤ left ∧ (0 ≤ t → n.size ≤ 1048576 ∧ v.size ≤ 1048576) := by
  unfold maxLen at hn hv
  unfold laws_szAttr.f
  rw [w64 (i := left - (n.size : Int)) (by omega) (by omega)]
  by_cases c : left - (n.size : Int) < 0
  · rw [if_pos c]; exact ⟨-1, rfl, by omega, by omega, by omega⟩
  · rw [if_neg c, w64 (i := left - (n.size : Int) - (v.size : Int)) (by omega) (by omega)]
    by_cases c2 : left - (n.size : Int) - (v.size : Int) < 0
    · rw [if_pos c2]; exact ⟨-1, rfl, by omega, by omega, by omega⟩
    · rw [if_neg c2]; exact ⟨_, rfl, by omega, by omega, by omega⟩

theorem szAttrS_loop (xs : List S70) (m : Nat) (hlen : xs.length ≤ 1048576) (hx : ∀ y ∈ xs, G70 maxLen m y) : ∀ (d i : Nat) (left : Int), xs.length - i = d → i ≤ xs.length → 0 ≤ left → left ≤ 1048576 →
    ∃ t, Ev (fun k => laws_szAttrS.l0 k xs left i) t ∧ -1 ≤ t ∧ t ≤ left ∧ (0 ≤ t → ∀ j, i ≤ j → ∀ h : j < xs.length, G70 1048576 m xs[j]) := by
  intro d
  induction d with
  | zero =>
    intro i left hd hi h0 h1
    refine ⟨left, Ev.here fun k => ?_, by omega, by omega, fun _ j hj hjl => by omega⟩
    simp only [laws_szAttrS.l0]; rw [if_neg (by omega)]
  | succ d ih =>
    intro i left hd hi h0 h1
    have hil : i < xs.length := by omega
    obtain ⟨hn, hv⟩ := hx xs[i] (List.getElem_mem hil)
    obtain ⟨t, e, t0, t1, tq⟩ := szAttr_tells xs[i].f0 xs[i].f1 left hn hv h0 h1
    have hrd : rd_T70 xs (i : Int) = xs[i] := rdT xs _ i hil
    by_cases c : t < 0
    · refine ⟨-1, Ev.here fun k => ?_, by omega, by omega, by omega⟩
      simp only [laws_szAttrS.l0]; rw [if_pos (by omega), if_pos (by omega), hrd, e]; simp only [Option.bind_some]; rw [if_pos c]
    · obtain ⟨u, ev, u0, u1, uq⟩ := ih (i + 1) t (by omega) (by omega) (by omega) (by omega)
      refine ⟨u, Ev.step (f := fun k => laws_szAttrS.l0 k xs t ((i + 1 : Nat) : Int)) (fun k => ?_) ev, by omega, by omega, fun hu j hj hjl => ?_⟩
      · simp only [laws_szAttrS.l0]; rw [if_pos (by omega), if_pos (by omega), hrd, e]; simp only [Option.bind_some]; rw [if_neg c, w64 (i := (i : Int) + 1) (by omega) (by omega)]; rfl
      · rcases Nat.lt_or_ge i j with hij | hij
        · exact uq hu j hij hjl
        · obtain rfl : i = j := by omega
          exact tq (by omega)

theorem szAttrS_tells (xs : List S70) (m : Nat) (left : Int) (hlen : xs.length ≤ maxLen) (hx : ∀ y ∈ xs, G70 maxLen m y) (h0 : 0 ≤ left) (h1 : left ≤ 1048576) :
    ∃ t, Ev (fun k => laws_szAttrS.f k xs left) t ∧ -1 ≤ t ∧ t ≤ left ∧ (0 ≤ t → xs.length ≤ 1048576 ∧ ∀ y ∈ xs, G70 1048576 m y) := by
  unfold maxLen at hlen
  unfold laws_szAttrS.f
  rw [w64 (i := left - (xs.length : Int)) (by omega) (by omega)]
  by_cases c : left - (xs.length : Int) < 0
  · exact ⟨-1, Ev.ite_pos c (Ev.const fun _ => rfl), by omega, by omega, by omega⟩
  · obtain ⟨t, ev, t0, t1, tq⟩ := szAttrS_loop xs m (by omega) hx xs.length 0 (left - (xs.length : Int)) (by omega) (by omega) (by omega) (by omega)
    refine ⟨t, Ev.ite_neg c ev, by omega, by omega, fun ht => ⟨by omega, fun y hy => ?_⟩⟩
    obtain ⟨i, hi, rfl⟩ := List.getElem_of_mem hy
    exact tq ht i (by omega) hi

/-- A copied attribute. -/
def toA (x : S70) : S53 := ⟨x.f0, x.f1⟩
theorem toAttrS_loop (xs : List S70) (hlen : xs.length ≤ 1048576) : ∀ (d i : Nat) (out : List S53), xs.length - i = d → i ≤ xs.length → out.length = xs.length → (∀ j, j < i → out[j]? = (xs.map toA)[j]?) →
    Ev (fun k => laws_toAttrS.l0 k xs out i) (xs.map toA) := by
  intro d
  induction d with
  | zero =>
    intro i out hd hi ho hj
    have : out = xs.map toA := by
      apply List.ext_getElem?
      intro j
      rcases Nat.lt_or_ge j i with h | h
      · exact hj j h
      · rw [List.getElem?_eq_none (by omega), List.getElem?_eq_none (by simp; omega)]
    rw [← this]
    refine Ev.here fun k => ?_
    simp only [laws_toAttrS.l0]; rw [if_neg (by omega)]
  | succ d ih =>
    intro i out hd hi ho hj
    have hil : i < xs.length := by omega
    have hrd : rd_T70 xs (i : Int) = xs[i] := rdT xs _ i hil
    refine Ev.step (f := fun k => laws_toAttrS.l0 k xs (out.set i (toA xs[i])) ((i + 1 : Nat) : Int)) (fun k => ?_) (ih (i + 1) (out.set i (toA xs[i])) (by omega) (by omega) (by simpa using ho) fun j hji => ?_)
    · simp only [laws_toAttrS.l0]; rw [if_pos (by omega), if_pos (by omega), hrd]; simp only [laws_toAttr.f, Option.bind_some]; rw [if_pos (by omega), w64 (i := (i : Int) + 1) (by omega) (by omega), Int.toNat_natCast]; rfl
    · rw [List.getElem?_set]
      by_cases e : i = j
      · subst e; rw [if_pos rfl, if_pos (by omega)]; simp [List.getElem?_eq_getElem hil]
      · rw [if_neg e]; exact hj j (by omega)
theorem toAttrS_tells (xs : List S70) (hlen : xs.length ≤ 1048576) : Ev (fun k => laws_toAttrS.f k xs) (xs.map toA) := by
  unfold laws_toAttrS.f
  refine Ev.ite_pos (by omega) (Ev.ite_pos (by omega) ?_)
  rw [Int.toNat_natCast]
  exact toAttrS_loop xs hlen xs.length 0 _ (by omega) (by omega) (by simp) (fun j hj => by omega)

theorem eqAttrS_loop (xs : List S53) (hlen : xs.length ≤ 4611686018427387904) : ∀ (d i : Nat), xs.length - i = d → i ≤ xs.length → Ev (fun k => laws_eqAttrS.l0 k xs xs i) true := by
  intro d
  induction d with
  | zero =>
    intro i hd hi
    refine Ev.here fun k => ?_
    simp only [laws_eqAttrS.l0]; rw [if_neg (by omega)]
  | succ d ih =>
    intro i hd hi
    refine Ev.step (f := fun k => laws_eqAttrS.l0 k xs xs ((i + 1 : Nat) : Int)) (fun k => ?_) (ih (i + 1) (by omega) (by omega))
    simp only [laws_eqAttrS.l0]; rw [if_pos (by omega), if_pos (by omega), if_pos (by omega)]; simp only [laws_eqAttr.f, if_true, Option.bind_some]; rw [w64 (i := (i : Int) + 1) (by omega) (by omega)]; rfl
theorem eqAttrS_self (xs : List S53) (hlen : xs.length ≤ 4611686018427387904) : Ev (fun k => laws_eqAttrS.f k xs xs) true := by
  unfold laws_eqAttrS.f
  exact Ev.ite_pos rfl (eqAttrS_loop xs hlen xs.length 0 (by omega) (by omega))

/-! ### elements -/
theorem szElS_loop (m : Nat) (xs : List S27) (hlen : xs.length ≤ 1048576)
    (hx : ∀ y ∈ xs, ∀ left : Int, 0 ≤ left → left ≤ 1048576 → ∃ t, Ev (fun k => laws_szEl.f k y.f0 y.f1 y.f2 y.f3 y.f4 y.f5 left) t ∧ -1 ≤ t ∧ t ≤ left ∧ (0 ≤ t → G27 1048576 m y)) :
    ∀ (d i : Nat) (left : Int), xs.length - i = d → i ≤ xs.length → 0 ≤ left → left ≤ 1048576 →
    ∃ t, Ev (fun k => laws_szElS.l0 k xs left i) t ∧ -1 ≤ t ∧ t ≤ left ∧ (0 ≤ t → ∀ j, i ≤ j → ∀ h : j < xs.length, G27 1048576 m xs[j]) := by
  intro d
  induction d with
  | zero =>
    intro i left hd hi h0 h1
    refine ⟨left, Ev.here fun k => ?_, by omega, by omega, fun _ j hj hjl => by omega⟩
    simp only [laws_szElS.l0]; rw [if_neg (by omega)]
  | succ d ih =>
    intro i left hd hi h0 h1
    have hil : i < xs.length := by omega
    obtain ⟨t, e, t0, t1, tq⟩ := hx xs[i] (List.getElem_mem hil) left h0 h1
    have hrd : rd_T27 xs (i : Int) = xs[i] := rdT xs _ i hil
    by_cases c : t < 0
    · refine ⟨-1, Ev.step (f := fun k => (laws_szEl.f k xs[i].f0 xs[i].f1 xs[i].f2 xs[i].f3 xs[i].f4 xs[i].f5 left).bind fun t115 => (if t115 < 0 then (some (-1)) else (laws_szElS.l0 k xs t115 (wrap64 ((i : Int) + 1))))) (fun k => ?_) (Ev.bind e (Ev.ite_pos c (Ev.const fun _ => rfl))), by omega, by omega, by omega⟩
      simp only [laws_szElS.l0]; rw [if_pos (by omega), if_pos (by omega), hrd]
    · obtain ⟨u, ev, u0, u1, uq⟩ := ih (i + 1) t (by omega) (by omega) (by omega) (by omega)
      refine ⟨u, Ev.step (f := fun k => (laws_szEl.f k xs[i].f0 xs[i].f1 xs[i].f2 xs[i].f3 xs[i].f4 xs[i].f5 left).bind fun t115 => (if t115 < 0 then (some (-1)) else (laws_szElS.l0 k xs t115 (wrap64 ((i : Int) + 1))))) (fun k => ?_) (Ev.bind e (Ev.ite_neg c ?_)), by omega, by omega, fun hu j hj hjl => ?_⟩
      · simp only [laws_szElS.l0]; rw [if_pos (by omega), if_pos (by omega), hrd]
      · rw [w64 (i := (i : Int) + 1) (by omega) (by omega)]; exact ev
      · rcases Nat.lt_or_ge i j with hij | hij
        · exact uq hu j hij hjl
        · obtain rfl : i = j := by omega
          exact tq (by omega)

theorem szEl_tells : ∀ (m : Nat) (y : S27), G27 maxLen m y → ∀ left : Int, 0 ≤ left → left ≤ 1048576 →
    ∃ t, Ev (fun k => laws_szEl.f k y.f0 y.f1 y.f2 y.f3 y.f4 y.f5 left) t ∧ -1 ≤ t ∧ t ≤ left ∧ (0 ≤ t → G27 1048576 m y) := by
  intro m
  induction m with
  | zero => intro y hy; exact hy.elim
  | succ m ih =>
    intro y hy left h0 h1
    obtain ⟨w0, w1, hs2, ⟨hl3, hg3⟩, hs4, hl5, hg5⟩ := hy
    unfold maxLen at hs2 hs4 hl5
    have e0 : wrap64 (left - (y.f2.size : Int)) = left - (y.f2.size : Int) := w64 (by omega) (by omega)
    by_cases c0 : left - (y.f2.size : Int) < 0
    · refine ⟨-1, Ev.here fun k => ?_, by omega, by omega, by omega⟩
      simp only [laws_szEl.f]; rw [e0, if_pos c0]
    obtain ⟨t, et, t0, t1, tq⟩ := szAttrS_tells y.f3 m (left - (y.f2.size : Int)) hl3 hg3 (by omega) (by omega)
    have step : ∀ k, laws_szEl.f (k + 1) y.f0 y.f1 y.f2 y.f3 y.f4 y.f5 left = (laws_szAttrS.f k y.f3 (left - (y.f2.size : Int))).bind fun t117 => (if t117 < 0 then (some (-1)) else (if (wrap64 (t117 - (y.f4.size : Int))) < 0 then (some (-1)) else ((laws_szElS.f k y.f5 (wrap64 (t117 - (y.f4.size : Int)))).bind fun t118 => (if t118 < 0 then (some (-1)) else (some t118))))) := by
      intro k; simp only [laws_szEl.f]; rw [e0, if_neg c0]
    by_cases c1 : t < 0
    · exact ⟨-1, Ev.step step (Ev.bind et (Ev.ite_pos c1 (Ev.const fun _ => rfl))), by omega, by omega, by omega⟩
    have e1 : wrap64 (t - (y.f4.size : Int)) = t - (y.f4.size : Int) := w64 (by omega) (by omega)
    by_cases c2 : t - (y.f4.size : Int) < 0
    · exact ⟨-1, Ev.step step (Ev.bind et (Ev.ite_neg c1 (Ev.ite_pos (by rw [e1]; exact c2) (Ev.const fun _ => rfl)))), by omega, by omega, by omega⟩
    have e2 : wrap64 (t - (y.f4.size : Int) - (y.f5.length : Int)) = t - (y.f4.size : Int) - (y.f5.length : Int) := w64 (by omega) (by omega)
    by_cases c3 : t - (y.f4.size : Int) - (y.f5.length : Int) < 0
    · refine ⟨-1, Ev.step step (Ev.bind et (Ev.ite_neg c1 (Ev.ite_neg (by rw [e1]; exact c2) (Ev.bind (a := -1) (Ev.here fun k => ?_) (Ev.ite_pos (by omega) (Ev.const fun _ => rfl)))))), by omega, by omega, by omega⟩
      rw [e1]; simp only [laws_szElS.f]; rw [e2, if_pos c3]
    obtain ⟨u, eu, u0, u1, uq⟩ := szElS_loop m y.f5 (by omega) (fun z hz l hl0 hl1 => ih z (hg5 z hz) l hl0 hl1) y.f5.length 0 (t - (y.f4.size : Int) - (y.f5.length : Int)) (by omega) (by omega) (by omega) (by omega)
    have eu' : Ev (fun k => laws_szElS.f k y.f5 (wrap64 (t - (y.f4.size : Int)))) u := by
      refine Ev.step (f := fun k => laws_szElS.l0 k y.f5 (t - (y.f4.size : Int) - (y.f5.length : Int)) 0) (fun k => ?_) eu
      rw [e1]; simp only [laws_szElS.f]; rw [e2, if_neg c3]
    by_cases c4 : u < 0
    · exact ⟨-1, Ev.step step (Ev.bind et (Ev.ite_neg c1 (Ev.ite_neg (by rw [e1]; exact c2) (Ev.bind eu' (Ev.ite_pos c4 (Ev.const fun _ => rfl)))))), by omega, by omega, by omega⟩
    · refine ⟨u, Ev.step step (Ev.bind et (Ev.ite_neg c1 (Ev.ite_neg (by rw [e1]; exact c2) (Ev.bind eu' (Ev.ite_neg c4 (Ev.const fun _ => rfl)))))), by omega, by omega, fun hu => ?_⟩
      obtain ⟨q3, g3⟩ := tq (by omega)
      refine ⟨w0, w1, by omega, ⟨q3, g3⟩, by omega, by omega, fun z hz => ?_⟩
      obtain ⟨i, hi, rfl⟩ := List.getElem_of_mem hz
      exact uq hu i (by omega) hi

/-! ### copying -/
theorem toElS_loop (b m : Nat) (xs : List S27) (hlen : xs.length ≤ 1048576)
    (hx : ∀ y ∈ xs, ∃ z : S33, Ev (fun k => laws_toEl.f k y.f0 y.f1 y.f2 y.f3 y.f4 y.f5) (z.f0, z.f1, z.f2, z.f3, z.f4, z.f5) ∧ G33 b m z) :
    ∀ (d i : Nat) (out : List S33), xs.length - i = d → i ≤ xs.length → out.length = xs.length → (∀ j, j < i → ∀ h : j < out.length, G33 b m out[j]) →
    ∃ r : List S33, Ev (fun k => laws_toElS.l0 k xs out i) r ∧ r.length = xs.length ∧ ∀ y ∈ r, G33 b m y := by
  intro d
  induction d with
  | zero =>
    intro i out hd hi ho hj
    refine ⟨out, Ev.here fun k => ?_, ho, fun y hy => ?_⟩
    · simp only [laws_toElS.l0]; rw [if_neg (by omega)]
    · obtain ⟨j, hj', rfl⟩ := List.getElem_of_mem hy
      exact hj j (by omega) hj'
  | succ d ih =>
    intro i out hd hi ho hj
    have hil : i < xs.length := by omega
    obtain ⟨⟨z0, z1, z2, z3, z4, z5⟩, ez, gz⟩ := hx xs[i] (List.getElem_mem hil)
    have hrd : rd_T27 xs (i : Int) = xs[i] := rdT xs _ i hil
    obtain ⟨r, er, hr, gr⟩ := ih (i + 1) (out.set i ⟨z0, z1, z2, z3, z4, z5⟩) (by omega) (by omega) (by simpa using ho) (fun j hji hjl => by
      rw [List.getElem_set]
      by_cases e : i = j
      · rw [if_pos e]; exact gz
      · rw [if_neg e]; exact hj j (by omega) (by simpa using hjl))
    refine ⟨r, Ev.step (f := fun k => (laws_toEl.f k xs[i].f0 xs[i].f1 xs[i].f2 xs[i].f3 xs[i].f4 xs[i].f5).bind fun bt160 => (if (i : Int) < (out.length : Int) then (laws_toElS.l0 k xs (out.set ((i : Int) : Int).toNat (⟨bt160.1, bt160.2.1, bt160.2.2.1, bt160.2.2.2.1, bt160.2.2.2.2.1, bt160.2.2.2.2.2⟩ : S33)) (wrap64 ((i : Int) + 1))) else (none))) (fun k => ?_) (Ev.bind ez (Ev.ite_pos (by omega) ?_)), hr, gr⟩
    · simp only [laws_toElS.l0]; rw [if_pos (by omega), if_pos (by omega), hrd]
    · rw [w64 (i := (i : Int) + 1) (by omega) (by omega), Int.toNat_natCast, show ((i : Int) + 1) = ((i + 1 : Nat) : Int) from rfl]; exact er

theorem toEl_tells : ∀ (m : Nat) (y : S27), G27 1048576 m y → ∃ z : S33, Ev (fun k => laws_toEl.f k y.f0 y.f1 y.f2 y.f3 y.f4 y.f5) (z.f0, z.f1, z.f2, z.f3, z.f4, z.f5) ∧ G33 1048576 m z := by
  intro m
  induction m with
  | zero => intro y hy; exact hy.elim
  | succ m ih =>
    intro y hy
    obtain ⟨w0, w1, hs2, ⟨hl3, hg3⟩, hs4, hl5, hg5⟩ := hy
    obtain ⟨r, er, hr, gr⟩ := toElS_loop 1048576 m y.f5 hl5 (fun z hz => ih z (hg5 z hz)) y.f5.length 0 (List.replicate y.f5.length z33) (by omega) (by omega) (by simp) (fun j hj => by omega)
    have er' : Ev (fun k => laws_toElS.f k y.f5) r := by
      refine Ev.step (f := fun k => laws_toElS.l0 k y.f5 (List.replicate y.f5.length z33) 0) (fun k => ?_) er
      simp only [laws_toElS.f]; rw [if_pos (by omega), if_pos (by omega), Int.toNat_natCast]
    refine ⟨⟨y.f0, y.f1, y.f2, y.f3.map toA, y.f4, r⟩, Ev.step (f := fun k => (laws_toAttrS.f k y.f3).bind fun t174 => ((laws_toElS.f k y.f5).bind fun t177 => (some (y.f0, y.f1, y.f2, t174, y.f4, t177)))) (fun k => ?_) (Ev.bind (toAttrS_tells y.f3 hl3) (Ev.bind er' (Ev.const fun _ => rfl))), w0, w1, hs2, ⟨by simpa using hl3, fun a ha => ?_⟩, hs4, by show r.length ≤ 1048576; omega, gr⟩
    · simp only [laws_toEl.f]
    · obtain ⟨x, hx, rfl⟩ := List.mem_map.1 ha
      exact hg3 x hx

/-! ### comparing with itself -/
theorem eqElS_loop (xs : List S33) (hlen : xs.length ≤ 1048576)
    (hx : ∀ y ∈ xs, Ev (fun k => laws_eqEl.f k y.f0 y.f1 y.f2 y.f3 y.f4 y.f5 y.f0 y.f1 y.f2 y.f3 y.f4 y.f5) true) : ∀ (d i : Nat), xs.length - i = d → i ≤ xs.length → Ev (fun k => laws_eqElS.l0 k xs xs i) true := by
  intro d
  induction d with
  | zero =>
    intro i hd hi
    refine Ev.here fun k => ?_
    simp only [laws_eqElS.l0]; rw [if_neg (by omega)]
  | succ d ih =>
    intro i hd hi
    have hil : i < xs.length := by omega
    have hrd : rd_T33 xs (i : Int) = xs[i] := rdT xs _ i hil
    refine Ev.step (f := fun k => (laws_eqEl.f k xs[i].f0 xs[i].f1 xs[i].f2 xs[i].f3 xs[i].f4 xs[i].f5 xs[i].f0 xs[i].f1 xs[i].f2 xs[i].f3 xs[i].f4 xs[i].f5).bind fun t205 => (if t205 = true then (laws_eqElS.l0 k xs xs (wrap64 ((i : Int) + 1))) else (some false))) (fun k => ?_) (Ev.bind (hx xs[i] (List.getElem_mem hil)) (Ev.ite_pos rfl ?_))
    · simp only [laws_eqElS.l0]; rw [if_pos (by omega), if_pos (by omega), if_pos (by omega), hrd]
    · rw [w64 (i := (i : Int) + 1) (by omega) (by omega)]; exact ih (i + 1) (by omega) (by omega)
theorem eqEl_self : ∀ (m : Nat) (y : S33), G33 1048576 m y → Ev (fun k => laws_eqEl.f k y.f0 y.f1 y.f2 y.f3 y.f4 y.f5 y.f0 y.f1 y.f2 y.f3 y.f4 y.f5) true := by
  intro m
  induction m with
  | zero => intro y hy; exact hy.elim
  | succ m ih =>
    intro y hy
    obtain ⟨w0, w1, hs2, ⟨hl3, hg3⟩, hs4, hl5, hg5⟩ := hy
    have h5 : Ev (fun k => laws_eqElS.f k y.f5 y.f5) true := by
      refine Ev.step (f := fun k => laws_eqElS.l0 k y.f5 y.f5 0) (fun k => ?_) (eqElS_loop y.f5 hl5 (fun z hz => ih z (hg5 z hz)) y.f5.length 0 (by omega) (by omega))
      simp only [laws_eqElS.f, if_true]
    refine Ev.step (f := fun k => (laws_eqAttrS.f k y.f3 y.f3).bind fun t208 => (if t208 = true then ((laws_eqElS.f k y.f5 y.f5).bind fun t209 => (if t209 = true then (some true) else (some false))) else (some false))) (fun k => ?_) (Ev.bind (eqAttrS_self y.f3 (by omega)) (Ev.ite_pos rfl (Ev.bind h5 (Ev.ite_pos rfl (Ev.const fun _ => rfl)))))
    simp only [laws_eqEl.f, if_true]
end Go.Proofs.Ytjkhalcdigneoaa.El
