/- What the row's reading of an argument (DataW.trod) tells of its cells, kind by kind, in the printer's own words (Kd). No conditions: over any program. -/
import Derived.Test.YtekkalnafngfeaaGreatVPrw
import Derived.ChangeArms
import Derived.DataReads
import Derived.ChangeReads
namespace Go.Proofs.YtekkalnafngfeaaGreat.Op
open Go.Proofs.YtekkalnafngfeaaGreatW.PrintWords

section
variable {H : Type} (enc : TypeId × Value → H) (P : Program) (w : World) (spare : Nat → Bool)

/-- What is read at type t with at most M rounds is told by kind d, and is as G says. -/
def Opens {α : Type} (d : Kd α) (G : Nat → α → Prop) (t : TypeId) (M : Nat) : Prop :=
  ∀ m, m < M → ∀ (cs : List Value) (x : DataW H × List MemPlace), DataW.trod enc P w 0 spare true m t cs = some x → ∃ a, d.K w a cs ∧ G m a

variable {enc P w spare}

theorem opens_int {k : IntKind} {t : TypeId} (ht : P.underlying t = some (.int k)) (M : Nat) : Opens enc P w spare (Kd.int k) (fun _ v => (Lit.int k v).wf = true) t M := by
  intro m _ cs x h
  obtain ⟨n, rfl, _, hw⟩ := DataW.trod_int ht h
  exact ⟨n, rfl, hw⟩
theorem opens_string {t : TypeId} (ht : P.underlying t = some .string) (M : Nat) : Opens enc P w spare Kd.string (fun _ s => s.size ≤ maxLen) t M := by
  intro m _ cs x h
  obtain ⟨s, rfl, _, hw⟩ := DataW.trod_string ht h
  exact ⟨s, rfl, hw⟩

theorem choose_list {α : Type} {n : Nat} {p : Nat → α → Prop} (h : ∀ i, i < n → ∃ x, p i x) : ∃ l : List α, l.length = n ∧ ∀ i a, l[i]? = some a → p i a := by
  induction n with
  | zero => exact ⟨[], rfl, fun i a ha => by simp at ha⟩
  | succ n ih =>
    obtain ⟨l, hl, hp⟩ := ih (fun i hi => h i (Nat.lt_succ_of_lt hi))
    obtain ⟨x, hx⟩ := h n (Nat.lt_succ_self n)
    refine ⟨l ++ [x], by simp [hl], fun i a ha => ?_⟩
    rcases Nat.lt_or_ge i l.length with hi | hi
    · rw [List.getElem?_append_left hi] at ha
      exact hp i a ha
    · rw [List.getElem?_append_right hi] at ha
      have h0 : i - l.length = 0 := by
        rcases Nat.eq_zero_or_pos (i - l.length) with h0 | h0
        · exact h0
        · rw [List.getElem?_eq_none (by simp; omega)] at ha; cases ha
      rw [h0] at ha
      have : i = n := by omega
      subst this
      obtain rfl : x = a := by simpa using ha
      exact hx

theorem opens_slice {α : Type} {d : Kd α} {G : Nat → α → Prop} {t e : TypeId} {M : Nat} (ht : P.underlying t = some (.slice e)) (hc : P.cellsOf e = d.sz)
    (mono : ∀ n m a, n ≤ m → G n a → G m a) (h : Opens enc P w spare d G e M) :
    Opens enc P w spare (Kd.slice e d) (fun m l => l.length ≤ maxLen ∧ ∀ y ∈ l, G m y) t (M + 1) := by
  intro m hm cs x hx
  rcases DataW.trod_slice ht hx with ⟨rfl, _⟩ | ⟨a, len, cap, elems, rest, n, rfl, rfl, _, _, hl, hcap, hlen, hel, _, _⟩
  · exact ⟨[], ⟨none, 0, rfl, Nat.le_refl _, rfl, by simp, fun hh => absurd hh (Nat.lt_irrefl _)⟩, by simp [maxLen], fun y hy => by simp at hy⟩
  · have key : ∀ i, i < len → ∃ y : α, ∃ c : List Value, c.length = d.sz ∧ d.K w y c ∧ (∀ j u, c[j]? = some u → w.cell? (a.add (i * d.sz + j)) = some u) ∧ G n y := by
      intro i hi
      have hb := hel i hi
      rw [List.getElem?_eq_getElem (by omega)] at hb
      obtain ⟨c, h1, h2⟩ := Option.bind_eq_some_iff.1 hb
      obtain ⟨y, hK, hG⟩ := h n (by omega) c _ h2
      obtain ⟨_, hcl, hcell⟩ := World.cells?_some h1
      refine ⟨y, c, by rw [hcl, hc], hK, fun j u hu => ?_, hG⟩
      have hj : j < P.cellsOf e := by
        rcases Nat.lt_or_ge j c.length with hj | hj
        · omega
        · rw [List.getElem?_eq_none hj] at hu; cases hu
      have := hcell j hj
      rw [hu] at this
      rw [hc] at this
      rw [show a.add (i * d.sz + j) = (a.add (i * d.sz)).add j from ?_]
      · first | exact this | exact this.symm
      · unfold Addr.add
        by_cases hi0 : i * d.sz = 0 <;> by_cases hj0 : j = 0 <;> simp [hi0, hj0, Nat.add_assoc]
    obtain ⟨l, hll, hp⟩ := choose_list key
    refine ⟨l, ⟨some a, cap, by rw [hll], by omega, rfl, by rw [hll]; simp only [maxLen] at hcap; omega, fun _ => ⟨a, rfl, fun j p hj => ?_⟩⟩, by rw [hll]; omega, fun y hy => ?_⟩
    · obtain ⟨c, h1, h2, h3, _⟩ := hp j p hj
      exact ⟨c, h1, h2, h3⟩
    · obtain ⟨i, hi, rfl⟩ := List.getElem_of_mem hy
      obtain ⟨c, _, _, _, hG⟩ := hp i _ (List.getElem?_eq_getElem hi)
      exact mono n (n + 1) _ (Nat.le_succ n) hG

theorem Opens.mono {α : Type} {d : Kd α} {G : Nat → α → Prop} {t : TypeId} {M M' : Nat} (h : Opens enc P w spare d G t M) (hm : M' ≤ M) : Opens enc P w spare d G t M' :=
  fun m hlt => h m (Nat.lt_of_lt_of_le hlt hm)
theorem some_at {α : Type} {xs : List α} {i n : Nat} (h : xs.length = n) (hi : i < n) : ∃ y, xs[i]? = some y := ⟨xs[i]'(by omega), List.getElem?_eq_getElem (by omega)⟩
end
end Go.Proofs.YtekkalnafngfeaaGreat.Op
