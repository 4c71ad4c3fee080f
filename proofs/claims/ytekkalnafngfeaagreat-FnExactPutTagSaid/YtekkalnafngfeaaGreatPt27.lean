-- WRITTEN BY this session's own programs
import Derived.Test.YtekkalnafngfeaaGreatProg
import Derived.Test.YtekkalnafngfeaaGreatVPtOp1
import Derived.Below
import Derived.Deep.Draws
import Derived.Deep.AppendLies
import Derived.Maps.AppendAt
import Derived.OwnWalk
import Derived.Laws.BytesArg
import Derived.Laws.MakeOwn
import Derived.Laws.OwnMore
import Derived.Deep.OwnRows
import Derived.Tactics
import Derived.Lib.ConvBytes
import Derived.Laws.Slices
import Derived.WalkKit
import Derived.KernelRfl
import Derived.RowKit3
import Derived.Deep.LoopGhost
import Derived.Deep.QuietTactic
import Derived.BigQuiet
import Derived.WideLaws
import Derived.Deep.DeepCutAuto
import Derived.Deep.CutBlock
import Derived.Deep.RegionHeld3
import Derived.Laws.Rows
import Derived.Lib.AppendStr
import Derived.ArgAppend
import Derived.Laws.IdiomCopy
import Derived.OrdersHeld
import Derived.Laws.BitsLemmas
import Derived.RowKit
import Derived.Lib.FrozenHead2
import Derived.Lib.OthersKept
import Derived.Lib.LazyBuf
import Derived.Test.YtekkalnafngfeaaGreatShelf
import Derived.Test.YtekkalnafngfeaaGreatVPtw
namespace Go.Proofs.YtekkalnafngfeaaGreat.P
open Go.RowKit Go.Proofs.YtekkalnafngfeaaGreatW.PrintWords Go.Proofs.YtekkalnafngfeaaGreatW.PrintLast Go.Proofs.YtekkalnafngfeaaGreatW.PrintMore
set_option linter.unusedVariables false
set_option linter.unusedSimpArgs false
set_option maxHeartbeats 8000000
set_option maxRecDepth 100000
attribute [local go_sem] max2_int min2_int max_two min_two max_three min_three max_four min_four
theorem info3 : (Tryz.prog.info? 3).map (fun i => (i.zero, i.size, i.bytes)) = some (some (.int .i64 0), 1, 8) := by kernel_rfl
theorem info53 : (Tryz.prog.info? 53).map (fun i => (i.zero, i.size, i.bytes)) = some (some (.agg #[(.int .i64 0), (.int .i64 0), (.string ⟨#[]⟩), (.slice none 0 0), (.string ⟨#[]⟩), (.int .i64 0), (.slice none 0 0)]), 7, 104) := by kernel_rfl
theorem info56 : (Tryz.prog.info? 56).map (fun i => (i.zero, i.size, i.bytes)) = some (some (.agg #[(.string ⟨#[]⟩), (.string ⟨#[]⟩)]), 2, 32) := by kernel_rfl
structure S47 where
 f0 : ByteArray
 f1 : ByteArray
def z47 : S47 := ⟨(⟨#[]⟩ : ByteArray), (⟨#[]⟩ : ByteArray)⟩
def k47 : Kd S47 := Kd.iso (Kd.pair Kd.string Kd.string) (fun x : S47 => (x.f0, x.f1))
theorem k47_open {w : World} {x : S47} {cs : List Value} (h : k47.K w x cs) : cs = [.string x.f0, .string x.f1] := by
 obtain ⟨_, _, rfl, rfl, rfl⟩ := h
 exact rfl
theorem k47_mk (w : World) (x : S47)  : k47.K w x [.string x.f0, .string x.f1] := ⟨[.string x.f0], [.string x.f1], rfl, rfl, rfl⟩
def rd_T47 (xs : List S47) (i : Int) : S47 := xs.getD i.toNat z47
theorem at_T47 {w : World} {A : Option Addr} {n : Nat} {xs : List S47} (h : Kd.C k47 w A n xs) (i : Int) (h0 : 0 ≤ i) (h1 : i < n) : ∃ ad , A = some ad ∧ w.cell? (ad.add (i.toNat * 2)) = some (.string (rd_T47 xs i).f0) ∧ w.cell? ⟨(ad.add (i.toNat * 2)).block, (ad.add (i.toNat * 2)).off + 1, none⟩ = some (.string (rd_T47 xs i).f1) := by
 obtain ⟨ad, c, e, _, hK, hc0⟩ := Kd.C_get h z47 i h0 h1
 have hc : ∀ j u, c[j]? = some u → w.cell? (ad.add (i.toNat * 2 + j)) = some u := hc0
 obtain rfl := k47_open hK
 exact ⟨ad, e, hc 0 _ rfl, by rw [← add_field _ _ 1 (by omega)]; exact hc 1 _ rfl⟩
def sT47 (a : Addr) (x : S47) (S : World → Prop) (w : World) : Prop := w.cell? a = some (.string x.f0) ∧ w.cell? ⟨a.block, a.off + 1, none⟩ = some (.string x.f1) ∧ S w
theorem otT47 {w W : World} {A : Option Addr} {n : Nat} {xs : List S47} (HB : Aside0 (Below w.heap.size w W)) (h : Kd.C k47 w A n xs) (i : Int) (h0 : 0 ≤ i) (h1 : i < n) : (0 ≤ i) = True ∧ (i < (n : Int)) = True ∧ ∃ ad, A = some ad ∧ sT47 (ad.add (i.toNat * 2)) (rd_T47 xs i) (fun _ => True) W := by
 obtain ⟨ad', e, h0_, h1_⟩ := at_T47 h i h0 h1
 exact ⟨eq_true h0, eq_true h1, ad', e, pc_ HB h0_, pc_ HB h1_, trivial⟩
structure S67 where
 f0 : Int
 f1 : Int
 f2 : ByteArray
 f3 : (List S47)
 f4 : ByteArray
 f5 : Int
 f6 : (List Int)
def z67 : S67 := ⟨(0 : Int), (0 : Int), (⟨#[]⟩ : ByteArray), ([] : List S47), (⟨#[]⟩ : ByteArray), (0 : Int), ([] : List Int)⟩
def k67 : Kd S67 := Kd.iso (Kd.pair (Kd.int .i64) (Kd.pair (Kd.int .i64) (Kd.pair Kd.string (Kd.pair (Kd.slice 47 k47) (Kd.pair Kd.string (Kd.pair (Kd.int .i64) (Kd.slice 3 (Kd.int .i64)))))))) (fun x : S67 => (x.f0, x.f1, x.f2, x.f3, x.f4, x.f5, x.f6))
theorem k67_open {w : World} {x : S67} {cs : List Value} (h : k67.K w x cs) : ∃ A3 c3 A6 c6, cs = [.int .i64 x.f0, .int .i64 x.f1, .string x.f2, .slice A3 x.f3.length c3, .string x.f4, .int .i64 x.f5, .slice A6 x.f6.length c6] ∧ x.f3.length ≤ c3 ∧ k47.C w A3 x.f3.length x.f3 ∧ x.f6.length ≤ c6 ∧ (Kd.int .i64).C w A6 x.f6.length x.f6 := by
 obtain ⟨_, _, rfl, rfl, ⟨_, _, rfl, rfl, ⟨_, _, rfl, rfl, ⟨_, _, rfl, ⟨A3, c3, rfl, l3, g3⟩, ⟨_, _, rfl, rfl, ⟨_, _, rfl, rfl, ⟨A6, c6, rfl, l6, g6⟩⟩⟩⟩⟩⟩⟩ := h
 exact ⟨A3, c3, A6, c6, rfl, l3, g3, l6, g6⟩
theorem k67_mk (w : World) (x : S67) {A3 : Option Addr} {c3 : Nat} (l3 : x.f3.length ≤ c3) (g3 : k47.C w A3 x.f3.length x.f3) {A6 : Option Addr} {c6 : Nat} (l6 : x.f6.length ≤ c6) (g6 : (Kd.int .i64).C w A6 x.f6.length x.f6) : k67.K w x [.int .i64 x.f0, .int .i64 x.f1, .string x.f2, .slice A3 x.f3.length c3, .string x.f4, .int .i64 x.f5, .slice A6 x.f6.length c6] := ⟨[.int .i64 x.f0], [.int .i64 x.f1, .string x.f2, .slice A3 x.f3.length c3, .string x.f4, .int .i64 x.f5, .slice A6 x.f6.length c6], rfl, rfl, ⟨[.int .i64 x.f1], [.string x.f2, .slice A3 x.f3.length c3, .string x.f4, .int .i64 x.f5, .slice A6 x.f6.length c6], rfl, rfl, ⟨[.string x.f2], [.slice A3 x.f3.length c3, .string x.f4, .int .i64 x.f5, .slice A6 x.f6.length c6], rfl, rfl, ⟨[.slice A3 x.f3.length c3], [.string x.f4, .int .i64 x.f5, .slice A6 x.f6.length c6], rfl, ⟨A3, c3, rfl, l3, g3⟩, ⟨[.string x.f4], [.int .i64 x.f5, .slice A6 x.f6.length c6], rfl, rfl, ⟨[.int .i64 x.f5], [.slice A6 x.f6.length c6], rfl, rfl, ⟨A6, c6, rfl, l6, g6⟩⟩⟩⟩⟩⟩⟩
def rd_T67 (xs : List S67) (i : Int) : S67 := xs.getD i.toNat z67
theorem at_T67 {w : World} {A : Option Addr} {n : Nat} {xs : List S67} (h : Kd.C k67 w A n xs) (i : Int) (h0 : 0 ≤ i) (h1 : i < n) : ∃ ad A3 c3 A6 c6, A = some ad ∧ w.cell? (ad.add (i.toNat * 7)) = some (.int .i64 (rd_T67 xs i).f0) ∧ w.cell? ⟨(ad.add (i.toNat * 7)).block, (ad.add (i.toNat * 7)).off + 1, none⟩ = some (.int .i64 (rd_T67 xs i).f1) ∧ w.cell? ⟨(ad.add (i.toNat * 7)).block, (ad.add (i.toNat * 7)).off + 2, none⟩ = some (.string (rd_T67 xs i).f2) ∧ w.cell? ⟨(ad.add (i.toNat * 7)).block, (ad.add (i.toNat * 7)).off + 3, none⟩ = some (.slice A3 (rd_T67 xs i).f3.length c3) ∧ w.cell? ⟨(ad.add (i.toNat * 7)).block, (ad.add (i.toNat * 7)).off + 4, none⟩ = some (.string (rd_T67 xs i).f4) ∧ w.cell? ⟨(ad.add (i.toNat * 7)).block, (ad.add (i.toNat * 7)).off + 5, none⟩ = some (.int .i64 (rd_T67 xs i).f5) ∧ w.cell? ⟨(ad.add (i.toNat * 7)).block, (ad.add (i.toNat * 7)).off + 6, none⟩ = some (.slice A6 (rd_T67 xs i).f6.length c6) ∧ (rd_T67 xs i).f3.length ≤ c3 ∧ k47.C w A3 (rd_T67 xs i).f3.length (rd_T67 xs i).f3 ∧ (rd_T67 xs i).f6.length ≤ c6 ∧ (Kd.int .i64).C w A6 (rd_T67 xs i).f6.length (rd_T67 xs i).f6 := by
 obtain ⟨ad, c, e, _, hK, hc0⟩ := Kd.C_get h z67 i h0 h1
 have hc : ∀ j u, c[j]? = some u → w.cell? (ad.add (i.toNat * 7 + j)) = some u := hc0
 obtain ⟨A3, c3, A6, c6, rfl, l3, g3, l6, g6⟩ := k67_open hK
 exact ⟨ad, A3, c3, A6, c6, e, hc 0 _ rfl, by rw [← add_field _ _ 1 (by omega)]; exact hc 1 _ rfl, by rw [← add_field _ _ 2 (by omega)]; exact hc 2 _ rfl, by rw [← add_field _ _ 3 (by omega)]; exact hc 3 _ rfl, by rw [← add_field _ _ 4 (by omega)]; exact hc 4 _ rfl, by rw [← add_field _ _ 5 (by omega)]; exact hc 5 _ rfl, by rw [← add_field _ _ 6 (by omega)]; exact hc 6 _ rfl, l3, g3, l6, g6⟩
def sT67 (a : Addr) (x : S67) (A3 : Option Addr) (c3 : Nat) (A6 : Option Addr) (c6 : Nat) (S : World → Prop) (w : World) : Prop := w.cell? a = some (.int .i64 x.f0) ∧ w.cell? ⟨a.block, a.off + 1, none⟩ = some (.int .i64 x.f1) ∧ w.cell? ⟨a.block, a.off + 2, none⟩ = some (.string x.f2) ∧ w.cell? ⟨a.block, a.off + 3, none⟩ = some (.slice A3 x.f3.length c3) ∧ w.cell? ⟨a.block, a.off + 4, none⟩ = some (.string x.f4) ∧ w.cell? ⟨a.block, a.off + 5, none⟩ = some (.int .i64 x.f5) ∧ w.cell? ⟨a.block, a.off + 6, none⟩ = some (.slice A6 x.f6.length c6) ∧ S w
theorem otT67 {w W : World} {A : Option Addr} {n : Nat} {xs : List S67} (HB : Aside0 (Below w.heap.size w W)) (h : Kd.C k67 w A n xs) (i : Int) (h0 : 0 ≤ i) (h1 : i < n) : (0 ≤ i) = True ∧ (i < (n : Int)) = True ∧ ∃ ad A3 c3 A6 c6, A = some ad ∧ sT67 (ad.add (i.toNat * 7)) (rd_T67 xs i) A3 c3 A6 c6 (fun _ => Aside0 ((rd_T67 xs i).f3.length ≤ c3) ∧ Aside0 (k47.C w A3 (rd_T67 xs i).f3.length (rd_T67 xs i).f3) ∧ Aside0 ((rd_T67 xs i).f6.length ≤ c6) ∧ Aside0 ((Kd.int .i64).C w A6 (rd_T67 xs i).f6.length (rd_T67 xs i).f6)) W := by
 obtain ⟨ad', A3, c3, A6, c6, e, h0_, h1_, h2_, h3_, h4_, h5_, h6_, f0_, f1_, f2_, f3_⟩ := at_T67 h i h0 h1
 exact ⟨eq_true h0, eq_true h1, ad', A3, c3, A6, c6, e, pc_ HB h0_, pc_ HB h1_, pc_ HB h2_, pc_ HB h3_, pc_ HB h4_, pc_ HB h5_, pc_ HB h6_, ⟨f0_⟩, ⟨f1_⟩, ⟨f2_⟩, ⟨f3_⟩⟩
structure S56 where
 f0 : ByteArray
 f1 : ByteArray
def z56 : S56 := ⟨(⟨#[]⟩ : ByteArray), (⟨#[]⟩ : ByteArray)⟩
def k56 : Kd S56 := Kd.iso (Kd.pair Kd.string Kd.string) (fun x : S56 => (x.f0, x.f1))
theorem k56_heap : Kd.Heap k56 := Kd.heap_iso _ (Kd.heap_pair Kd.heap_string Kd.heap_string)
theorem k56_open {w : World} {x : S56} {cs : List Value} (h : k56.K w x cs) : cs = [.string x.f0, .string x.f1] := by
 obtain ⟨_, _, rfl, rfl, rfl⟩ := h
 exact rfl
theorem k56_openM {w : World} {base : Nat} {ok : Nat → Prop} {x : S56} {cs : List Value} (h : k56.M w base ok x cs) : cs = [.string x.f0, .string x.f1] := by
 obtain ⟨_, _, rfl, rfl, rfl⟩ := h
 exact rfl
theorem k56_mkM (w : World) (base : Nat) (ok : Nat → Prop) (x : S56)  : k56.M w base ok x [.string x.f0, .string x.f1] := ⟨[.string x.f0], [.string x.f1], rfl, rfl, rfl⟩
def rd_T56 (xs : List S56) (i : Int) : S56 := xs.getD i.toNat z56
theorem at_T56 {w : World} {A : Option Addr} {n : Nat} {xs : List S56} (h : Kd.C k56 w A n xs) (i : Int) (h0 : 0 ≤ i) (h1 : i < n) : ∃ ad , A = some ad ∧ w.cell? (ad.add (i.toNat * 2)) = some (.string (rd_T56 xs i).f0) ∧ w.cell? ⟨(ad.add (i.toNat * 2)).block, (ad.add (i.toNat * 2)).off + 1, none⟩ = some (.string (rd_T56 xs i).f1) := by
 obtain ⟨ad, c, e, _, hK, hc0⟩ := Kd.C_get h z56 i h0 h1
 have hc : ∀ j u, c[j]? = some u → w.cell? (ad.add (i.toNat * 2 + j)) = some u := hc0
 obtain rfl := k56_open hK
 exact ⟨ad, e, hc 0 _ rfl, by rw [← add_field _ _ 1 (by omega)]; exact hc 1 _ rfl⟩
def sT56 (a : Addr) (x : S56) (S : World → Prop) (w : World) : Prop := w.cell? a = some (.string x.f0) ∧ w.cell? ⟨a.block, a.off + 1, none⟩ = some (.string x.f1) ∧ S w
theorem spT56 {a : Addr} {x : S56} {S : World → Prop} {w W : World} (HB : Aside0 (Below w.heap.size w W)) (h : Aside0 (sT56 a x Tr w)) (hS : S W) : sT56 a x S W := by
 obtain ⟨h0_, h1_, _⟩ := h.out
 exact ⟨pc_ HB h0_, pc_ HB h1_, hS⟩
theorem otT56 {w W : World} {A : Option Addr} {n : Nat} {xs : List S56} (HB : Aside0 (Below w.heap.size w W)) (h : Kd.C k56 w A n xs) (i : Int) (h0 : 0 ≤ i) (h1 : i < n) : (0 ≤ i) = True ∧ (i < (n : Int)) = True ∧ ∃ ad, A = some ad ∧ sT56 (ad.add (i.toNat * 2)) (rd_T56 xs i) (fun _ => True) W := by
 obtain ⟨ad', e, h0_, h1_⟩ := at_T56 h i h0 h1
 exact ⟨eq_true h0, eq_true h1, ad', e, pc_ HB h0_, pc_ HB h1_, trivial⟩
theorem osT56 {w W : World} {A : Option Addr} {n : Nat} {xs : List S56} (HB : Aside0 (Below w.heap.size w W)) (h : Kd.C k56 w A n xs) (i : Int) (h0 : 0 ≤ i) (h1 : i < n) : (0 ≤ i) = True ∧ (i < (n : Int)) = True ∧ ∃ ad, A = some ad ∧ sT56 (ad.add (i.toNat * 2)) (rd_T56 xs i) (fun _ => Aside0 (sT56 (ad.add (i.toNat * 2)) (rd_T56 xs i) Tr w)) W := by
 obtain ⟨ad', e, h0_, h1_⟩ := at_T56 h i h0 h1
 exact ⟨eq_true h0, eq_true h1, ad', e, pc_ HB h0_, pc_ HB h1_, ⟨h0_, h1_, trivial⟩⟩
theorem ahT56 {w W : World} {ad : Addr} {n : Nat} {xs : List S56} (HB : Aside0 (Below w.heap.size w W)) (h : Kd.C k56 w (some ad) n xs) (i : Int) (h0 : 0 ≤ i) (h1 : i < n) : (0 ≤ i) = True ∧ (i < (n : Int)) = True ∧ sT56 (ad.add (i.toNat * 2)) (rd_T56 xs i) (fun _ => Aside0 (sT56 (ad.add (i.toNat * 2)) (rd_T56 xs i) Tr w)) W := by
 obtain ⟨ad', e, h0_, h1_⟩ := at_T56 h i h0 h1
 cases e
 exact ⟨eq_true h0, eq_true h1, pc_ HB h0_, pc_ HB h1_, ⟨h0_, h1_, trivial⟩⟩
structure S53 where
 f0 : Int
 f1 : Int
 f2 : ByteArray
 f3 : (List S56)
 f4 : ByteArray
 f5 : Int
 f6 : (List Int)
def z53 : S53 := ⟨(0 : Int), (0 : Int), (⟨#[]⟩ : ByteArray), ([] : List S56), (⟨#[]⟩ : ByteArray), (0 : Int), ([] : List Int)⟩
def k53 : Kd S53 := Kd.iso (Kd.pair (Kd.int .i64) (Kd.pair (Kd.int .i64) (Kd.pair Kd.string (Kd.pair (Kd.slice 56 k56) (Kd.pair Kd.string (Kd.pair (Kd.int .i64) (Kd.slice 3 (Kd.int .i64)))))))) (fun x : S53 => (x.f0, x.f1, x.f2, x.f3, x.f4, x.f5, x.f6))
theorem k53_heap : Kd.Heap k53 := Kd.heap_iso _ (Kd.heap_pair (Kd.heap_int .i64) (Kd.heap_pair (Kd.heap_int .i64) (Kd.heap_pair Kd.heap_string (Kd.heap_pair (Kd.heap_slice 56 k56_heap) (Kd.heap_pair Kd.heap_string (Kd.heap_pair (Kd.heap_int .i64) (Kd.heap_slice 3 (Kd.heap_int .i64))))))))
theorem k53_open {w : World} {x : S53} {cs : List Value} (h : k53.K w x cs) : ∃ A3 c3 A6 c6, cs = [.int .i64 x.f0, .int .i64 x.f1, .string x.f2, .slice A3 x.f3.length c3, .string x.f4, .int .i64 x.f5, .slice A6 x.f6.length c6] ∧ x.f3.length ≤ c3 ∧ k56.C w A3 x.f3.length x.f3 ∧ x.f6.length ≤ c6 ∧ (Kd.int .i64).C w A6 x.f6.length x.f6 := by
 obtain ⟨_, _, rfl, rfl, ⟨_, _, rfl, rfl, ⟨_, _, rfl, rfl, ⟨_, _, rfl, ⟨A3, c3, rfl, l3, g3⟩, ⟨_, _, rfl, rfl, ⟨_, _, rfl, rfl, ⟨A6, c6, rfl, l6, g6⟩⟩⟩⟩⟩⟩⟩ := h
 exact ⟨A3, c3, A6, c6, rfl, l3, g3, l6, g6⟩
theorem k53_openM {w : World} {base : Nat} {ok : Nat → Prop} {x : S53} {cs : List Value} (h : k53.M w base ok x cs) : ∃ v3 v6, cs = [.int .i64 x.f0, .int .i64 x.f1, .string x.f2, v3, .string x.f4, .int .i64 x.f5, v6] ∧ k56.R 56 w base ok v3 x.f3 ∧ (Kd.int .i64).R 3 w base ok v6 x.f6 := by
 obtain ⟨_, _, rfl, rfl, ⟨_, _, rfl, rfl, ⟨_, _, rfl, rfl, ⟨_, _, rfl, ⟨v3, rfl, g3⟩, ⟨_, _, rfl, rfl, ⟨_, _, rfl, rfl, ⟨v6, rfl, g6⟩⟩⟩⟩⟩⟩⟩ := h
 exact ⟨v3, v6, rfl, g3, g6⟩
theorem k53_mkM (w : World) (base : Nat) (ok : Nat → Prop) (x : S53) {v3 : Value} (g3 : k56.R 56 w base ok v3 x.f3) {v6 : Value} (g6 : (Kd.int .i64).R 3 w base ok v6 x.f6) : k53.M w base ok x [.int .i64 x.f0, .int .i64 x.f1, .string x.f2, v3, .string x.f4, .int .i64 x.f5, v6] := ⟨[.int .i64 x.f0], [.int .i64 x.f1, .string x.f2, v3, .string x.f4, .int .i64 x.f5, v6], rfl, rfl, ⟨[.int .i64 x.f1], [.string x.f2, v3, .string x.f4, .int .i64 x.f5, v6], rfl, rfl, ⟨[.string x.f2], [v3, .string x.f4, .int .i64 x.f5, v6], rfl, rfl, ⟨[v3], [.string x.f4, .int .i64 x.f5, v6], rfl, ⟨v3, rfl, g3⟩, ⟨[.string x.f4], [.int .i64 x.f5, v6], rfl, rfl, ⟨[.int .i64 x.f5], [v6], rfl, rfl, ⟨v6, rfl, g6⟩⟩⟩⟩⟩⟩⟩
def rd_T53 (xs : List S53) (i : Int) : S53 := xs.getD i.toNat z53
theorem at_T53 {w : World} {A : Option Addr} {n : Nat} {xs : List S53} (h : Kd.C k53 w A n xs) (i : Int) (h0 : 0 ≤ i) (h1 : i < n) : ∃ ad A3 c3 A6 c6, A = some ad ∧ w.cell? (ad.add (i.toNat * 7)) = some (.int .i64 (rd_T53 xs i).f0) ∧ w.cell? ⟨(ad.add (i.toNat * 7)).block, (ad.add (i.toNat * 7)).off + 1, none⟩ = some (.int .i64 (rd_T53 xs i).f1) ∧ w.cell? ⟨(ad.add (i.toNat * 7)).block, (ad.add (i.toNat * 7)).off + 2, none⟩ = some (.string (rd_T53 xs i).f2) ∧ w.cell? ⟨(ad.add (i.toNat * 7)).block, (ad.add (i.toNat * 7)).off + 3, none⟩ = some (.slice A3 (rd_T53 xs i).f3.length c3) ∧ w.cell? ⟨(ad.add (i.toNat * 7)).block, (ad.add (i.toNat * 7)).off + 4, none⟩ = some (.string (rd_T53 xs i).f4) ∧ w.cell? ⟨(ad.add (i.toNat * 7)).block, (ad.add (i.toNat * 7)).off + 5, none⟩ = some (.int .i64 (rd_T53 xs i).f5) ∧ w.cell? ⟨(ad.add (i.toNat * 7)).block, (ad.add (i.toNat * 7)).off + 6, none⟩ = some (.slice A6 (rd_T53 xs i).f6.length c6) ∧ (rd_T53 xs i).f3.length ≤ c3 ∧ k56.C w A3 (rd_T53 xs i).f3.length (rd_T53 xs i).f3 ∧ (rd_T53 xs i).f6.length ≤ c6 ∧ (Kd.int .i64).C w A6 (rd_T53 xs i).f6.length (rd_T53 xs i).f6 := by
 obtain ⟨ad, c, e, _, hK, hc0⟩ := Kd.C_get h z53 i h0 h1
 have hc : ∀ j u, c[j]? = some u → w.cell? (ad.add (i.toNat * 7 + j)) = some u := hc0
 obtain ⟨A3, c3, A6, c6, rfl, l3, g3, l6, g6⟩ := k53_open hK
 exact ⟨ad, A3, c3, A6, c6, e, hc 0 _ rfl, by rw [← add_field _ _ 1 (by omega)]; exact hc 1 _ rfl, by rw [← add_field _ _ 2 (by omega)]; exact hc 2 _ rfl, by rw [← add_field _ _ 3 (by omega)]; exact hc 3 _ rfl, by rw [← add_field _ _ 4 (by omega)]; exact hc 4 _ rfl, by rw [← add_field _ _ 5 (by omega)]; exact hc 5 _ rfl, by rw [← add_field _ _ 6 (by omega)]; exact hc 6 _ rfl, l3, g3, l6, g6⟩
def sT53 (a : Addr) (x : S53) (A3 : Option Addr) (c3 : Nat) (A6 : Option Addr) (c6 : Nat) (S : World → Prop) (w : World) : Prop := w.cell? a = some (.int .i64 x.f0) ∧ w.cell? ⟨a.block, a.off + 1, none⟩ = some (.int .i64 x.f1) ∧ w.cell? ⟨a.block, a.off + 2, none⟩ = some (.string x.f2) ∧ w.cell? ⟨a.block, a.off + 3, none⟩ = some (.slice A3 x.f3.length c3) ∧ w.cell? ⟨a.block, a.off + 4, none⟩ = some (.string x.f4) ∧ w.cell? ⟨a.block, a.off + 5, none⟩ = some (.int .i64 x.f5) ∧ w.cell? ⟨a.block, a.off + 6, none⟩ = some (.slice A6 x.f6.length c6) ∧ S w
theorem spT53 {a : Addr} {x : S53} {A3 : Option Addr} {c3 : Nat} {A6 : Option Addr} {c6 : Nat} {S : World → Prop} {w W : World} (HB : Aside0 (Below w.heap.size w W)) (h : Aside0 (sT53 a x A3 c3 A6 c6 Tr w)) (hS : S W) : sT53 a x A3 c3 A6 c6 S W := by
 obtain ⟨h0_, h1_, h2_, h3_, h4_, h5_, h6_, _⟩ := h.out
 exact ⟨pc_ HB h0_, pc_ HB h1_, pc_ HB h2_, pc_ HB h3_, pc_ HB h4_, pc_ HB h5_, pc_ HB h6_, hS⟩
theorem otT53 {w W : World} {A : Option Addr} {n : Nat} {xs : List S53} (HB : Aside0 (Below w.heap.size w W)) (h : Kd.C k53 w A n xs) (i : Int) (h0 : 0 ≤ i) (h1 : i < n) : (0 ≤ i) = True ∧ (i < (n : Int)) = True ∧ ∃ ad A3 c3 A6 c6, A = some ad ∧ sT53 (ad.add (i.toNat * 7)) (rd_T53 xs i) A3 c3 A6 c6 (fun _ => Aside0 ((rd_T53 xs i).f3.length ≤ c3) ∧ Aside0 (k56.C w A3 (rd_T53 xs i).f3.length (rd_T53 xs i).f3) ∧ Aside0 ((rd_T53 xs i).f6.length ≤ c6) ∧ Aside0 ((Kd.int .i64).C w A6 (rd_T53 xs i).f6.length (rd_T53 xs i).f6)) W := by
 obtain ⟨ad', A3, c3, A6, c6, e, h0_, h1_, h2_, h3_, h4_, h5_, h6_, f0_, f1_, f2_, f3_⟩ := at_T53 h i h0 h1
 exact ⟨eq_true h0, eq_true h1, ad', A3, c3, A6, c6, e, pc_ HB h0_, pc_ HB h1_, pc_ HB h2_, pc_ HB h3_, pc_ HB h4_, pc_ HB h5_, pc_ HB h6_, ⟨f0_⟩, ⟨f1_⟩, ⟨f2_⟩, ⟨f3_⟩⟩
theorem agT53 {w W : World} {ad : Addr} {n : Nat} {xs : List S53} (HB : Aside0 (Below w.heap.size w W)) (h : Kd.C k53 w (some ad) n xs) (i : Int) (h0 : 0 ≤ i) (h1 : i < n) : (0 ≤ i) = True ∧ (i < (n : Int)) = True ∧ ∃ A3 c3 A6 c6, sT53 (ad.add (i.toNat * 7)) (rd_T53 xs i) A3 c3 A6 c6 (fun _ => Aside0 ((rd_T53 xs i).f3.length ≤ c3) ∧ Aside0 (k56.C w A3 (rd_T53 xs i).f3.length (rd_T53 xs i).f3) ∧ Aside0 ((rd_T53 xs i).f6.length ≤ c6) ∧ Aside0 ((Kd.int .i64).C w A6 (rd_T53 xs i).f6.length (rd_T53 xs i).f6)) W := by
 obtain ⟨ad', A3, c3, A6, c6, e, h0_, h1_, h2_, h3_, h4_, h5_, h6_, f0_, f1_, f2_, f3_⟩ := at_T53 h i h0 h1
 cases e
 exact ⟨eq_true h0, eq_true h1, A3, c3, A6, c6, pc_ HB h0_, pc_ HB h1_, pc_ HB h2_, pc_ HB h3_, pc_ HB h4_, pc_ HB h5_, pc_ HB h6_, ⟨f0_⟩, ⟨f1_⟩, ⟨f2_⟩, ⟨f3_⟩⟩
theorem osT53 {w W : World} {A : Option Addr} {n : Nat} {xs : List S53} (HB : Aside0 (Below w.heap.size w W)) (h : Kd.C k53 w A n xs) (i : Int) (h0 : 0 ≤ i) (h1 : i < n) : (0 ≤ i) = True ∧ (i < (n : Int)) = True ∧ ∃ ad A3 c3 A6 c6, A = some ad ∧ sT53 (ad.add (i.toNat * 7)) (rd_T53 xs i) A3 c3 A6 c6 (fun _ => Aside0 ((rd_T53 xs i).f3.length ≤ c3) ∧ Aside0 (k56.C w A3 (rd_T53 xs i).f3.length (rd_T53 xs i).f3) ∧ Aside0 ((rd_T53 xs i).f6.length ≤ c6) ∧ Aside0 ((Kd.int .i64).C w A6 (rd_T53 xs i).f6.length (rd_T53 xs i).f6) ∧ Aside0 (sT53 (ad.add (i.toNat * 7)) (rd_T53 xs i) A3 c3 A6 c6 Tr w)) W := by
 obtain ⟨ad', A3, c3, A6, c6, e, h0_, h1_, h2_, h3_, h4_, h5_, h6_, f0_, f1_, f2_, f3_⟩ := at_T53 h i h0 h1
 exact ⟨eq_true h0, eq_true h1, ad', A3, c3, A6, c6, e, pc_ HB h0_, pc_ HB h1_, pc_ HB h2_, pc_ HB h3_, pc_ HB h4_, pc_ HB h5_, pc_ HB h6_, ⟨f0_⟩, ⟨f1_⟩, ⟨f2_⟩, ⟨f3_⟩, ⟨h0_, h1_, h2_, h3_, h4_, h5_, h6_, trivial⟩⟩
theorem ahT53 {w W : World} {ad : Addr} {n : Nat} {xs : List S53} (HB : Aside0 (Below w.heap.size w W)) (h : Kd.C k53 w (some ad) n xs) (i : Int) (h0 : 0 ≤ i) (h1 : i < n) : (0 ≤ i) = True ∧ (i < (n : Int)) = True ∧ ∃ A3 c3 A6 c6, sT53 (ad.add (i.toNat * 7)) (rd_T53 xs i) A3 c3 A6 c6 (fun _ => Aside0 ((rd_T53 xs i).f3.length ≤ c3) ∧ Aside0 (k56.C w A3 (rd_T53 xs i).f3.length (rd_T53 xs i).f3) ∧ Aside0 ((rd_T53 xs i).f6.length ≤ c6) ∧ Aside0 ((Kd.int .i64).C w A6 (rd_T53 xs i).f6.length (rd_T53 xs i).f6) ∧ Aside0 (sT53 (ad.add (i.toNat * 7)) (rd_T53 xs i) A3 c3 A6 c6 Tr w)) W := by
 obtain ⟨ad', A3, c3, A6, c6, e, h0_, h1_, h2_, h3_, h4_, h5_, h6_, f0_, f1_, f2_, f3_⟩ := at_T53 h i h0 h1
 cases e
 exact ⟨eq_true h0, eq_true h1, A3, c3, A6, c6, pc_ HB h0_, pc_ HB h1_, pc_ HB h2_, pc_ HB h3_, pc_ HB h4_, pc_ HB h5_, pc_ HB h6_, ⟨f0_⟩, ⟨f1_⟩, ⟨f2_⟩, ⟨f3_⟩, ⟨h0_, h1_, h2_, h3_, h4_, h5_, h6_, trivial⟩⟩
def G47 (b n : Nat) (x : S47) : Prop := (x.f0.size ≤ b) ∧ (x.f1.size ≤ b)
theorem G47_mono {b n m : Nat} {x : S47} (hle : n ≤ m) (hx : G47 b n x) : G47 b m x := by
 obtain ⟨h0, h1⟩ := hx
 exact ⟨id h0, id h1⟩
def G67 (b n : Nat) (x : S67) : Prop := ((Lit.int .i64 x.f0).wf = true) ∧ ((Lit.int .i64 x.f1).wf = true) ∧ (x.f2.size ≤ b) ∧ (x.f3.length ≤ b ∧ (∀ y_ ∈ x.f3, G47 b n y_)) ∧ (x.f4.size ≤ b) ∧ ((Lit.int .i64 x.f5).wf = true) ∧ (x.f6.length ≤ b ∧ (∀ y_ ∈ x.f6, (Lit.int .i64 y_).wf = true))
theorem G67_mono {b n m : Nat} {x : S67} (hle : n ≤ m) (hx : G67 b n x) : G67 b m x := by
 obtain ⟨h0, h1, h2, h3, h4, h5, h6⟩ := hx
 exact ⟨id h0, id h1, id h2, (fun h_ => ⟨h_.1, fun y_ hy_ => (G47_mono hle) (h_.2 y_ hy_)⟩) h3, id h4, id h5, (fun h_ => ⟨h_.1, fun y_ hy_ => id (h_.2 y_ hy_)⟩) h6⟩
def G56 (b n : Nat) (x : S56) : Prop := (x.f0.size ≤ b) ∧ (x.f1.size ≤ b)
def G53 (b n : Nat) (x : S53) : Prop := ((Lit.int .i64 x.f0).wf = true) ∧ ((Lit.int .i64 x.f1).wf = true) ∧ (x.f2.size ≤ b) ∧ (x.f3.length ≤ b ∧ (∀ y_ ∈ x.f3, G56 b n y_)) ∧ (x.f4.size ≤ b) ∧ ((Lit.int .i64 x.f5).wf = true) ∧ (x.f6.length ≤ b ∧ (∀ y_ ∈ x.f6, (Lit.int .i64 y_).wf = true))
def laws_szAttr.f (a0_0 : ByteArray) (a0_1 : ByteArray) (a1 : Int) : Option (Int) := if (wrap64 (a1 - (a0_0.size : Int))) < 0 then (some (-1)) else (if (wrap64 ((wrap64 (a1 - (a0_0.size : Int))) - (a0_1.size : Int))) < 0 then (some (-1)) else (some (wrap64 ((wrap64 (a1 - (a0_0.size : Int))) - (a0_1.size : Int)))))
theorem laws_szAttr.calls (a0_0 : ByteArray) (a0_1 : ByteArray) (a1 : Int) (r : Int) (w : World) (h : laws_szAttr.f a0_0 a0_1 a1 = some r) :
  Calls Tryz.prog 23 #[.agg #[.string a0_0, .string a0_1], .int .i64 a1] w fun e w' => e = .returned (.int .i64 r) ∧ Below w.heap.size w w' := by
 have hu47 := Tryz.underlying47
 have HB := am (Below.refl w.heap.size w)
 have H : (if (wrap64 (a1 - (a0_0.size : Int))) < 0 then (some (-1)) else (if (wrap64 ((wrap64 (a1 - (a0_0.size : Int))) - (a0_1.size : Int))) < 0 then (some (-1)) else (some (wrap64 ((wrap64 (a1 - (a0_0.size : Int))) - (a0_1.size : Int)))))) = some r := h
 clear h
 replace H := ir_ H; rcases H with ⟨c3b0, H⟩ | ⟨c3b0, H⟩
 ·obtain rfl := Option.some.inj H
  go_enter Tryz.func23, Tryz.ntmps23
  go_wp2_with (first | ((with_reducible refine gd_ 2 ?_); refine bx_ 2 (cs := #[.string a0_0, .string a0_1]) 47 ?_; intro gb101 hg w4 hbox hb; have BK101 := am hbox; have GW101 := ge_ (w := w) hg; have GE101 := ge_ (w := w) hg; replace HB := am (below_step ab1 hb); clear hb hbox hg; obtain ⟨⟨_, _⟩, _, _⟩ := Op.cells2 BK101.out))
  go_ret
  exact ⟨ab7, ab2 GE101⟩
 ·replace H := ir_ H; rcases H with ⟨c6b0, H⟩ | ⟨c6b0, H⟩
  ·obtain rfl := Option.some.inj H
   go_enter Tryz.func23, Tryz.ntmps23
   go_wp2_with (first | ((with_reducible refine gd_ 2 ?_); refine bx_ 2 (cs := #[.string a0_0, .string a0_1]) 47 ?_; intro gb101 hg w7 hbox hb; have BK101 := am hbox; have GW101 := ge_ (w := w) hg; have GE101 := ge_ (w := w) hg; replace HB := am (below_step ab1 hb); clear hb hbox hg; obtain ⟨⟨_, _⟩, _, _⟩ := Op.cells2 BK101.out))
   go_ret
   exact ⟨ab7, ab2 GE101⟩
  ·obtain rfl := Option.some.inj H
   go_enter Tryz.func23, Tryz.ntmps23
   go_wp2_with (first | ((with_reducible refine gd_ 2 ?_); refine bx_ 2 (cs := #[.string a0_0, .string a0_1]) 47 ?_; intro gb101 hg w9 hbox hb; have BK101 := am hbox; have GW101 := ge_ (w := w) hg; have GE101 := ge_ (w := w) hg; replace HB := am (below_step ab1 hb); clear hb hbox hg; obtain ⟨⟨_, _⟩, _, _⟩ := Op.cells2 BK101.out))
   go_ret
   exact ⟨ab7, ab2 GE101⟩
def laws_szAttrS.l0 : Nat → List (S47) → Int → Int → Option (Int)
 | 0, _, _, _ => none
 | k + 1, x0, x1, x5 => if x5 < (x0.length : Int) then (if 0 ≤ x5 then ((laws_szAttr.f ((rd_T47 x0 x5).f0) ((rd_T47 x0 x5).f1) x1).bind fun t103 => (if t103 < 0 then (some (-1)) else (laws_szAttrS.l0 k x0 t103 (wrap64 (x5 + 1))))) else (none)) else (some x1)
def laws_szAttrS.f (k : Nat) (l0 : List (S47)) (a1 : Int) : Option (Int) := if (wrap64 (a1 - (l0.length : Int))) < 0 then (some (-1)) else (laws_szAttrS.l0 k l0 (wrap64 (a1 - (l0.length : Int))) 0)
theorem laws_szAttrS.calls (k : Nat) (A0 : Option Addr) (c0 : Nat) (l0 : List (S47)) (a1 : Int) (r : Int) (w : World) (hr0 : Kd.C k47 w A0 l0.length l0) (hc0 : l0.length ≤ c0) (h : laws_szAttrS.f k l0 a1 = some r) :
  Calls Tryz.prog 7 #[.slice A0 l0.length c0, .int .i64 a1] w fun e w' => e = .returned (.int .i64 r) ∧ Below w.heap.size w w' := by
 have hu47 := Tryz.underlying47
 have HR0 := am hr0
 have HC0 := am hc0
 clear hr0 hc0
 have HB := am (Below.refl w.heap.size w)
 have H : (if (wrap64 (a1 - (l0.length : Int))) < 0 then (some (-1)) else (laws_szAttrS.l0 k l0 (wrap64 (a1 - (l0.length : Int))) 0)) = some r := h
 clear h
 replace H := ir_ H; rcases H with ⟨c3b0, H⟩ | ⟨c3b0, H⟩
 ·obtain rfl := Option.some.inj H
  go_enter Tryz.func7, Tryz.ntmps7
  go_wp2
  go_ret
  exact ⟨ab7, ab1⟩
 ·have H' := am H
  clear H
  go_enter Tryz.func7, Tryz.ntmps7
  go_wp2
  go_loopg [1, 5] k (fun kq v1 v5 w' => ∃ (x1_1 : Int) (x5_1 : Int), v1 = .int .i64 x1_1 ∧ v5 = .int .i64 x5_1 ∧ Aside0 (laws_szAttrS.l0 kq l0 x1_1 x5_1 = some r) ∧ Aside0 (kq ≤ k) ∧ Aside0 (Below w.heap.size w w'))
  case atStart => exact ⟨(wrap64 (a1 - (l0.length : Int))), (0), ab6, ab6, H', ⟨Nat.le_refl _⟩, ⟨ab1⟩⟩
  case round =>
   clear H'
   (try clear p2); (try clear c3); (try clear c3b0)
   obtain ⟨x1_1, x5_1, rfl, rfl, HA, HK1, HB⟩ := hrel
   cases gk with
   | zero => exact absurd HA.out (by simp [laws_szAttrS.l0])
   | succ k1 =>
    have H := HA.out
    clear HA
    simp only [laws_szAttrS.l0] at H
    replace H := ir_ H; rcases H with ⟨c4b0, H⟩ | ⟨c4b0, H⟩
    ·replace H := iq_ H; obtain ⟨c5b0, H⟩ := H
     replace H := bi_ H; obtain ⟨t103, A6, H⟩ := H
     replace H := ir_ H; rcases H with ⟨c7b0, H⟩ | ⟨c7b0, H⟩
     ·obtain rfl := Option.some.inj H
      obtain ⟨p102, q102, ad102, rfl, hx102_0, hx102_1, -⟩ := otT47 HB HR0.out x5_1 (of_decide_eq_true ab4) (of_decide_eq_true ab4)
      go_wp2_with (first | ((with_reducible refine gf_ 23 ?_); refine gc_ Tryz.func23 (laws_szAttr.calls ((rd_T47 l0 x5_1).f0) ((rd_T47 l0 x5_1).f1) x1_1 t103 _ A6.out) ?_; rintro w8 hb; replace HB := am (below_step ab1 hb); (try clear hb)))
      go_ret
      exact ⟨ab7, ab1⟩
     ·have H' := am H
      clear H
      obtain ⟨p102, q102, ad102, rfl, hx102_0, hx102_1, -⟩ := otT47 HB HR0.out x5_1 (of_decide_eq_true ab4) (of_decide_eq_true ab4)
      go_wp2_with (first | ((with_reducible refine gf_ 23 ?_); refine gc_ Tryz.func23 (laws_szAttr.calls ((rd_T47 l0 x5_1).f0) ((rd_T47 l0 x5_1).f1) x1_1 t103 _ A6.out) ?_; rintro w9 hb; replace HB := am (below_step ab1 hb); (try clear hb)))
      go_roundg k1
      case measure => have := HK1.out; omega
      case rel => exact ⟨(t103), (wrap64 (x5_1 + 1)), ab6, ab6, H', ⟨by have := HK1.out; omega⟩, ⟨ab1⟩⟩
    ·obtain rfl := Option.some.inj H
     go_wp2
     go_ret
     exact ⟨ab7, ab1⟩
def laws_szIntS.f (l0 : List Int) (a1 : Int) : Option (Int) := if (wrap64 (a1 - (l0.length : Int))) < 0 then (some (-1)) else (some (wrap64 (a1 - (l0.length : Int))))
theorem laws_szIntS.calls (A0 : Option Addr) (c0 : Nat) (l0 : List Int) (a1 : Int) (r : Int) (w : World) (hr0 : Kd.C (Kd.int .i64) w A0 l0.length l0) (hc0 : l0.length ≤ c0) (h : laws_szIntS.f l0 a1 = some r) :
  Calls Tryz.prog 22 #[.slice A0 l0.length c0, .int .i64 a1] w fun e w' => e = .returned (.int .i64 r) ∧ Drawn0 w w' := by
 have HR0 := am hr0
 have HC0 := am hc0
 clear hr0 hc0
 have H : (if (wrap64 (a1 - (l0.length : Int))) < 0 then (some (-1)) else (some (wrap64 (a1 - (l0.length : Int))))) = some r := h
 clear h
 replace H := ir_ H; rcases H with ⟨c3b0, H⟩ | ⟨c3b0, H⟩
 ·obtain rfl := Option.some.inj H
  go_enter Tryz.func22, Tryz.ntmps22
  go_wp2
  go_ret
  exact ⟨ab6, by repeat (first | exact Drawn0.refl _ | apply Drawn0.step)⟩
 ·obtain rfl := Option.some.inj H
  go_enter Tryz.func22, Tryz.ntmps22
  go_wp2
  go_ret
  exact ⟨ab6, by repeat (first | exact Drawn0.refl _ | apply Drawn0.step)⟩
def laws_szItem.f (k : Nat) (a0_0 : Int) (a0_1 : Int) (a0_2 : ByteArray) (l0_3 : List (S47)) (a0_4 : ByteArray) (a0_5 : Int) (l0_6 : List Int) (a1 : Int) : Option (Int) := if (wrap64 (a1 - (a0_2.size : Int))) < 0 then (some (-1)) else ((laws_szAttrS.f k l0_3 (wrap64 (a1 - (a0_2.size : Int)))).bind fun t105 => (if t105 < 0 then (some (-1)) else (if (wrap64 (t105 - (a0_4.size : Int))) < 0 then (some (-1)) else ((laws_szIntS.f l0_6 (wrap64 (t105 - (a0_4.size : Int)))).bind fun t106 => (if t106 < 0 then (some (-1)) else (some t106))))))
theorem laws_szItem.calls (k : Nat) (a0_0 : Int) (a0_1 : Int) (a0_2 : ByteArray) (A0_3 : Option Addr) (c0_3 : Nat) (l0_3 : List (S47)) (a0_4 : ByteArray) (a0_5 : Int) (A0_6 : Option Addr) (c0_6 : Nat) (l0_6 : List Int) (a1 : Int) (r : Int) (w : World) (hr0_3 : Kd.C k47 w A0_3 l0_3.length l0_3) (hc0_3 : l0_3.length ≤ c0_3) (hr0_6 : Kd.C (Kd.int .i64) w A0_6 l0_6.length l0_6) (hc0_6 : l0_6.length ≤ c0_6) (h : laws_szItem.f k a0_0 a0_1 a0_2 l0_3 a0_4 a0_5 l0_6 a1 = some r) :
  Calls Tryz.prog 49 #[.agg #[.int .i64 a0_0, .int .i64 a0_1, .string a0_2, .slice A0_3 l0_3.length c0_3, .string a0_4, .int .i64 a0_5, .slice A0_6 l0_6.length c0_6], .int .i64 a1] w fun e w' => e = .returned (.int .i64 r) ∧ Below w.heap.size w w' := by
 have hu67 := Tryz.underlying67
 have HR0_3 := am hr0_3
 have HC0_3 := am hc0_3
 clear hr0_3 hc0_3
 have HR0_6 := am hr0_6
 have HC0_6 := am hc0_6
 clear hr0_6 hc0_6
 have HB := am (Below.refl w.heap.size w)
 have H : (if (wrap64 (a1 - (a0_2.size : Int))) < 0 then (some (-1)) else ((laws_szAttrS.f k l0_3 (wrap64 (a1 - (a0_2.size : Int)))).bind fun t105 => (if t105 < 0 then (some (-1)) else (if (wrap64 (t105 - (a0_4.size : Int))) < 0 then (some (-1)) else ((laws_szIntS.f l0_6 (wrap64 (t105 - (a0_4.size : Int)))).bind fun t106 => (if t106 < 0 then (some (-1)) else (some t106))))))) = some r := h
 clear h
 replace H := ir_ H; rcases H with ⟨c3b0, H⟩ | ⟨c3b0, H⟩
 ·obtain rfl := Option.some.inj H
  go_enter Tryz.func49, Tryz.ntmps49
  go_wp2_with (first | ((with_reducible refine gd_ 2 ?_); refine bx_ 2 (cs := #[.int .i64 a0_0, .int .i64 a0_1, .string a0_2, .slice A0_3 l0_3.length c0_3, .string a0_4, .int .i64 a0_5, .slice A0_6 l0_6.length c0_6]) 67 ?_; intro gb104 hg w4 hbox hb; have BK104 := am hbox; have GW104 := ge_ (w := w) hg; have GE104 := ge_ (w := w) hg; replace HB := am (below_step ab1 hb); clear hb hbox hg; obtain ⟨⟨_, _, _, _, _, _, _⟩, _, _, _, _, _, _, _⟩ := Op.cells7 BK104.out))
  go_ret
  exact ⟨ab7, ab2 GE104⟩
 ·replace H := bi_ H; obtain ⟨t105, A6, H⟩ := H
  replace H := ir_ H; rcases H with ⟨c7b0, H⟩ | ⟨c7b0, H⟩
  ·obtain rfl := Option.some.inj H
   go_enter Tryz.func49, Tryz.ntmps49
   go_wp2_with (first | ((with_reducible refine gd_ 2 ?_); refine bx_ 2 (cs := #[.int .i64 a0_0, .int .i64 a0_1, .string a0_2, .slice A0_3 l0_3.length c0_3, .string a0_4, .int .i64 a0_5, .slice A0_6 l0_6.length c0_6]) 67 ?_; intro gb104 hg w8 hbox hb; have BK104 := am hbox; have GW104 := ge_ (w := w) hg; have GE104 := ge_ (w := w) hg; replace HB := am (below_step ab1 hb); clear hb hbox hg; obtain ⟨⟨_, _, _, _, _, _, _⟩, _, _, _, _, _, _, _⟩ := Op.cells7 BK104.out) | ((with_reducible refine gf_ 7 ?_); refine gc_ Tryz.func7 (laws_szAttrS.calls k _ _ l0_3 (wrap64 (a1 - (a0_2.size : Int))) t105 _ (sc_ HR0_3) HC0_3.out A6.out) ?_; rintro w10 hb; replace BK104 := bl_ BK104 hb; replace HB := am (below_step (ab2 GE104) hb); (try clear hb)))
   go_ret
   exact ⟨ab7, ab2 GE104⟩
  ·replace H := ir_ H; rcases H with ⟨c11b0, H⟩ | ⟨c11b0, H⟩
   ·obtain rfl := Option.some.inj H
    go_enter Tryz.func49, Tryz.ntmps49
    go_wp2_with (first | ((with_reducible refine gd_ 2 ?_); refine bx_ 2 (cs := #[.int .i64 a0_0, .int .i64 a0_1, .string a0_2, .slice A0_3 l0_3.length c0_3, .string a0_4, .int .i64 a0_5, .slice A0_6 l0_6.length c0_6]) 67 ?_; intro gb104 hg w12 hbox hb; have BK104 := am hbox; have GW104 := ge_ (w := w) hg; have GE104 := ge_ (w := w) hg; replace HB := am (below_step ab1 hb); clear hb hbox hg; obtain ⟨⟨_, _, _, _, _, _, _⟩, _, _, _, _, _, _, _⟩ := Op.cells7 BK104.out) | ((with_reducible refine gf_ 7 ?_); refine gc_ Tryz.func7 (laws_szAttrS.calls k _ _ l0_3 (wrap64 (a1 - (a0_2.size : Int))) t105 _ (sc_ HR0_3) HC0_3.out A6.out) ?_; rintro w14 hb; replace BK104 := bl_ BK104 hb; replace HB := am (below_step (ab2 GE104) hb); (try clear hb); obtain ⟨⟨_, _, _, _, _, _, _⟩, _, _, _, _, _, _, _⟩ := Op.cells7 BK104.out))
    go_ret
    exact ⟨ab7, ab2 GE104⟩
   ·replace H := bi_ H; obtain ⟨t106, A16, H⟩ := H
    replace H := ir_ H; rcases H with ⟨c17b0, H⟩ | ⟨c17b0, H⟩
    ·obtain rfl := Option.some.inj H
     go_enter Tryz.func49, Tryz.ntmps49
     go_wp2_with (first | ((with_reducible refine gd_ 2 ?_); refine bx_ 2 (cs := #[.int .i64 a0_0, .int .i64 a0_1, .string a0_2, .slice A0_3 l0_3.length c0_3, .string a0_4, .int .i64 a0_5, .slice A0_6 l0_6.length c0_6]) 67 ?_; intro gb104 hg w18 hbox hb; have BK104 := am hbox; have GW104 := ge_ (w := w) hg; have GE104 := ge_ (w := w) hg; replace HB := am (below_step ab1 hb); clear hb hbox hg; obtain ⟨⟨_, _, _, _, _, _, _⟩, _, _, _, _, _, _, _⟩ := Op.cells7 BK104.out) | ((with_reducible refine gf_ 7 ?_); refine gc_ Tryz.func7 (laws_szAttrS.calls k _ _ l0_3 (wrap64 (a1 - (a0_2.size : Int))) t105 _ (sc_ HR0_3) HC0_3.out A6.out) ?_; rintro w20 hb; replace BK104 := bl_ BK104 hb; replace HB := am (below_step (ab2 GE104) hb); (try clear hb); obtain ⟨⟨_, _, _, _, _, _, _⟩, _, _, _, _, _, _, _⟩ := Op.cells7 BK104.out) | ((with_reducible refine gf_ 22 ?_); refine gc_ Tryz.func22 (laws_szIntS.calls _ _ l0_6 (wrap64 (t105 - (a0_4.size : Int))) t106 _ (sc_ HR0_6) HC0_6.out A16.out) ?_; rintro w' ⟨nd, rfl⟩))
     go_ret
     exact ⟨ab7, ab2 GE104⟩
    ·obtain rfl := Option.some.inj H
     go_enter Tryz.func49, Tryz.ntmps49
     go_wp2_with (first | ((with_reducible refine gd_ 2 ?_); refine bx_ 2 (cs := #[.int .i64 a0_0, .int .i64 a0_1, .string a0_2, .slice A0_3 l0_3.length c0_3, .string a0_4, .int .i64 a0_5, .slice A0_6 l0_6.length c0_6]) 67 ?_; intro gb104 hg w22 hbox hb; have BK104 := am hbox; have GW104 := ge_ (w := w) hg; have GE104 := ge_ (w := w) hg; replace HB := am (below_step ab1 hb); clear hb hbox hg; obtain ⟨⟨_, _, _, _, _, _, _⟩, _, _, _, _, _, _, _⟩ := Op.cells7 BK104.out) | ((with_reducible refine gf_ 7 ?_); refine gc_ Tryz.func7 (laws_szAttrS.calls k _ _ l0_3 (wrap64 (a1 - (a0_2.size : Int))) t105 _ (sc_ HR0_3) HC0_3.out A6.out) ?_; rintro w24 hb; replace BK104 := bl_ BK104 hb; replace HB := am (below_step (ab2 GE104) hb); (try clear hb); obtain ⟨⟨_, _, _, _, _, _, _⟩, _, _, _, _, _, _, _⟩ := Op.cells7 BK104.out) | ((with_reducible refine gf_ 22 ?_); refine gc_ Tryz.func22 (laws_szIntS.calls _ _ l0_6 (wrap64 (t105 - (a0_4.size : Int))) t106 _ (sc_ HR0_6) HC0_6.out A16.out) ?_; rintro w' ⟨nd, rfl⟩))
     go_ret
     exact ⟨ab7, ab2 GE104⟩
def laws_szItemS.l0 : Nat → List (S67) → Int → Int → Option (Int)
 | 0, _, _, _ => none
 | k + 1, x0, x1, x5 => if x5 < (x0.length : Int) then (if 0 ≤ x5 then ((laws_szItem.f k ((rd_T67 x0 x5).f0) ((rd_T67 x0 x5).f1) ((rd_T67 x0 x5).f2) ((rd_T67 x0 x5).f3) ((rd_T67 x0 x5).f4) ((rd_T67 x0 x5).f5) ((rd_T67 x0 x5).f6) x1).bind fun t108 => (if t108 < 0 then (some (-1)) else (laws_szItemS.l0 k x0 t108 (wrap64 (x5 + 1))))) else (none)) else (some x1)
def laws_szItemS.f (k : Nat) (l0 : List (S67)) (a1 : Int) : Option (Int) := if (wrap64 (a1 - (l0.length : Int))) < 0 then (some (-1)) else (laws_szItemS.l0 k l0 (wrap64 (a1 - (l0.length : Int))) 0)
theorem laws_szItemS.calls (k : Nat) (A0 : Option Addr) (c0 : Nat) (l0 : List (S67)) (a1 : Int) (r : Int) (w : World) (hr0 : Kd.C k67 w A0 l0.length l0) (hc0 : l0.length ≤ c0) (h : laws_szItemS.f k l0 a1 = some r) :
  Calls Tryz.prog 21 #[.slice A0 l0.length c0, .int .i64 a1] w fun e w' => e = .returned (.int .i64 r) ∧ Below w.heap.size w w' := by
 have hu67 := Tryz.underlying67
 have HR0 := am hr0
 have HC0 := am hc0
 clear hr0 hc0
 have HB := am (Below.refl w.heap.size w)
 have H : (if (wrap64 (a1 - (l0.length : Int))) < 0 then (some (-1)) else (laws_szItemS.l0 k l0 (wrap64 (a1 - (l0.length : Int))) 0)) = some r := h
 clear h
 replace H := ir_ H; rcases H with ⟨c3b0, H⟩ | ⟨c3b0, H⟩
 ·obtain rfl := Option.some.inj H
  go_enter Tryz.func21, Tryz.ntmps21
  go_wp2
  go_ret
  exact ⟨ab7, ab1⟩
 ·have H' := am H
  clear H
  go_enter Tryz.func21, Tryz.ntmps21
  go_wp2
  go_loopg [1, 5] k (fun kq v1 v5 w' => ∃ (x1_1 : Int) (x5_1 : Int), v1 = .int .i64 x1_1 ∧ v5 = .int .i64 x5_1 ∧ Aside0 (laws_szItemS.l0 kq l0 x1_1 x5_1 = some r) ∧ Aside0 (kq ≤ k) ∧ Aside0 (Below w.heap.size w w'))
  case atStart => exact ⟨(wrap64 (a1 - (l0.length : Int))), (0), ab6, ab6, H', ⟨Nat.le_refl _⟩, ⟨ab1⟩⟩
  case round =>
   clear H'
   (try clear c2); (try clear p2); (try clear c3); (try clear c3b0)
   obtain ⟨x1_1, x5_1, rfl, rfl, HA, HK1, HB⟩ := hrel
   cases gk with
   | zero => exact absurd HA.out (by simp [laws_szItemS.l0])
   | succ k1 =>
    have H := HA.out
    clear HA
    simp only [laws_szItemS.l0] at H
    replace H := ir_ H; rcases H with ⟨c4b0, H⟩ | ⟨c4b0, H⟩
    ·replace H := iq_ H; obtain ⟨c5b0, H⟩ := H
     replace H := bi_ H; obtain ⟨t108, A6, H⟩ := H
     replace H := ir_ H; rcases H with ⟨c7b0, H⟩ | ⟨c7b0, H⟩
     ·obtain rfl := Option.some.inj H
      obtain ⟨p107, q107, ad107, A107_3, c107_3, A107_6, c107_6, rfl, hx107_0, hx107_1, hx107_2, hx107_3, hx107_4, hx107_5, hx107_6, HC107_3, HR107_3, HC107_6, HR107_6⟩ := otT67 HB HR0.out x5_1 (of_decide_eq_true ab4) (of_decide_eq_true ab4)
      go_wp2_with (first | ((with_reducible refine gf_ 49 ?_); refine gc_ Tryz.func49 (laws_szItem.calls k1 ((rd_T67 l0 x5_1).f0) ((rd_T67 l0 x5_1).f1) ((rd_T67 l0 x5_1).f2) _ _ ((rd_T67 l0 x5_1).f3) ((rd_T67 l0 x5_1).f4) ((rd_T67 l0 x5_1).f5) _ _ ((rd_T67 l0 x5_1).f6) x1_1 t108 _ (sc_ HR107_3) HC107_3.out (sc_ HR107_6) HC107_6.out A6.out) ?_; rintro w8 hb; replace HB := am (below_step ab1 hb); (try clear hb)))
      go_ret
      exact ⟨ab7, ab1⟩
     ·have H' := am H
      clear H
      obtain ⟨p107, q107, ad107, A107_3, c107_3, A107_6, c107_6, rfl, hx107_0, hx107_1, hx107_2, hx107_3, hx107_4, hx107_5, hx107_6, HC107_3, HR107_3, HC107_6, HR107_6⟩ := otT67 HB HR0.out x5_1 (of_decide_eq_true ab4) (of_decide_eq_true ab4)
      go_wp2_with (first | ((with_reducible refine gf_ 49 ?_); refine gc_ Tryz.func49 (laws_szItem.calls k1 ((rd_T67 l0 x5_1).f0) ((rd_T67 l0 x5_1).f1) ((rd_T67 l0 x5_1).f2) _ _ ((rd_T67 l0 x5_1).f3) ((rd_T67 l0 x5_1).f4) ((rd_T67 l0 x5_1).f5) _ _ ((rd_T67 l0 x5_1).f6) x1_1 t108 _ (sc_ HR107_3) HC107_3.out (sc_ HR107_6) HC107_6.out A6.out) ?_; rintro w9 hb; replace HB := am (below_step ab1 hb); (try clear hb)))
      go_roundg k1
      case measure => have := HK1.out; omega
      case rel => exact ⟨(t108), (wrap64 (x5_1 + 1)), ab6, ab6, H', ⟨by have := HK1.out; omega⟩, ⟨ab1⟩⟩
    ·obtain rfl := Option.some.inj H
     go_wp2
     go_ret
     exact ⟨ab7, ab1⟩
def laws_szPage.f (k : Nat) (l0_0 : List (S67)) (l0_1 : List Int) (l0_2 : List Int) (a0_3 : Int) (a0_4 : Int) (a1 : Int) : Option (Int) := (laws_szItemS.f k l0_0 a1).bind fun t110 => (if t110 < 0 then (some (-1)) else ((laws_szIntS.f l0_1 t110).bind fun t111 => (if t111 < 0 then (some (-1)) else ((laws_szIntS.f l0_2 t111).bind fun t112 => (if t112 < 0 then (some (-1)) else (some t112))))))
theorem laws_szPage.calls (k : Nat) (A0_0 : Option Addr) (c0_0 : Nat) (l0_0 : List (S67)) (A0_1 : Option Addr) (c0_1 : Nat) (l0_1 : List Int) (A0_2 : Option Addr) (c0_2 : Nat) (l0_2 : List Int) (a0_3 : Int) (a0_4 : Int) (a1 : Int) (r : Int) (w : World) (hr0_0 : Kd.C k67 w A0_0 l0_0.length l0_0) (hc0_0 : l0_0.length ≤ c0_0) (hr0_1 : Kd.C (Kd.int .i64) w A0_1 l0_1.length l0_1) (hc0_1 : l0_1.length ≤ c0_1) (hr0_2 : Kd.C (Kd.int .i64) w A0_2 l0_2.length l0_2) (hc0_2 : l0_2.length ≤ c0_2) (h : laws_szPage.f k l0_0 l0_1 l0_2 a0_3 a0_4 a1 = some r) :
  Calls Tryz.prog 6 #[.agg #[.slice A0_0 l0_0.length c0_0, .slice A0_1 l0_1.length c0_1, .slice A0_2 l0_2.length c0_2, .int .i64 a0_3, .int .i64 a0_4], .int .i64 a1] w fun e w' => e = .returned (.int .i64 r) ∧ Below w.heap.size w w' := by
 have hu25 := Tryz.underlying25
 have HR0_0 := am hr0_0
 have HC0_0 := am hc0_0
 clear hr0_0 hc0_0
 have HR0_1 := am hr0_1
 have HC0_1 := am hc0_1
 clear hr0_1 hc0_1
 have HR0_2 := am hr0_2
 have HC0_2 := am hc0_2
 clear hr0_2 hc0_2
 have HB := am (Below.refl w.heap.size w)
 have H : ((laws_szItemS.f k l0_0 a1).bind fun t110 => (if t110 < 0 then (some (-1)) else ((laws_szIntS.f l0_1 t110).bind fun t111 => (if t111 < 0 then (some (-1)) else ((laws_szIntS.f l0_2 t111).bind fun t112 => (if t112 < 0 then (some (-1)) else (some t112))))))) = some r := h
 clear h
 replace H := bi_ H; obtain ⟨t110, A3, H⟩ := H
 replace H := ir_ H; rcases H with ⟨c4b0, H⟩ | ⟨c4b0, H⟩
 ·obtain rfl := Option.some.inj H
  go_enter Tryz.func6, Tryz.ntmps6
  go_wp2_with (first | ((with_reducible refine gd_ 2 ?_); refine bx_ 2 (cs := #[.slice A0_0 l0_0.length c0_0, .slice A0_1 l0_1.length c0_1, .slice A0_2 l0_2.length c0_2, .int .i64 a0_3, .int .i64 a0_4]) 25 ?_; intro gb109 hg w5 hbox hb; have BK109 := am hbox; have GW109 := ge_ (w := w) hg; have GE109 := ge_ (w := w) hg; replace HB := am (below_step ab1 hb); clear hb hbox hg; obtain ⟨⟨_, _, _, _, _⟩, _, _, _, _, _⟩ := Op.cells5 BK109.out) | ((with_reducible refine gf_ 21 ?_); refine gc_ Tryz.func21 (laws_szItemS.calls k _ _ l0_0 a1 t110 _ (sc_ HR0_0) HC0_0.out A3.out) ?_; rintro w7 hb; replace BK109 := bl_ BK109 hb; replace HB := am (below_step (ab2 GE109) hb); (try clear hb)))
  go_ret
  exact ⟨ab7, ab2 GE109⟩
 ·replace H := bi_ H; obtain ⟨t111, A8, H⟩ := H
  replace H := ir_ H; rcases H with ⟨c9b0, H⟩ | ⟨c9b0, H⟩
  ·obtain rfl := Option.some.inj H
   go_enter Tryz.func6, Tryz.ntmps6
   go_wp2_with (first | ((with_reducible refine gd_ 2 ?_); refine bx_ 2 (cs := #[.slice A0_0 l0_0.length c0_0, .slice A0_1 l0_1.length c0_1, .slice A0_2 l0_2.length c0_2, .int .i64 a0_3, .int .i64 a0_4]) 25 ?_; intro gb109 hg w10 hbox hb; have BK109 := am hbox; have GW109 := ge_ (w := w) hg; have GE109 := ge_ (w := w) hg; replace HB := am (below_step ab1 hb); clear hb hbox hg; obtain ⟨⟨_, _, _, _, _⟩, _, _, _, _, _⟩ := Op.cells5 BK109.out) | ((with_reducible refine gf_ 21 ?_); refine gc_ Tryz.func21 (laws_szItemS.calls k _ _ l0_0 a1 t110 _ (sc_ HR0_0) HC0_0.out A3.out) ?_; rintro w12 hb; replace BK109 := bl_ BK109 hb; replace HB := am (below_step (ab2 GE109) hb); (try clear hb); obtain ⟨⟨_, _, _, _, _⟩, _, _, _, _, _⟩ := Op.cells5 BK109.out) | ((with_reducible refine gf_ 22 ?_); refine gc_ Tryz.func22 (laws_szIntS.calls _ _ l0_1 t110 t111 _ (sc_ HR0_1) HC0_1.out A8.out) ?_; rintro w' ⟨nd, rfl⟩))
   go_ret
   exact ⟨ab7, ab2 GE109⟩
  ·replace H := bi_ H; obtain ⟨t112, A14, H⟩ := H
   replace H := ir_ H; rcases H with ⟨c15b0, H⟩ | ⟨c15b0, H⟩
   ·obtain rfl := Option.some.inj H
    go_enter Tryz.func6, Tryz.ntmps6
    go_wp2_with (first | ((with_reducible refine gd_ 2 ?_); refine bx_ 2 (cs := #[.slice A0_0 l0_0.length c0_0, .slice A0_1 l0_1.length c0_1, .slice A0_2 l0_2.length c0_2, .int .i64 a0_3, .int .i64 a0_4]) 25 ?_; intro gb109 hg w16 hbox hb; have BK109 := am hbox; have GW109 := ge_ (w := w) hg; have GE109 := ge_ (w := w) hg; replace HB := am (below_step ab1 hb); clear hb hbox hg; obtain ⟨⟨_, _, _, _, _⟩, _, _, _, _, _⟩ := Op.cells5 BK109.out) | ((with_reducible refine gf_ 21 ?_); refine gc_ Tryz.func21 (laws_szItemS.calls k _ _ l0_0 a1 t110 _ (sc_ HR0_0) HC0_0.out A3.out) ?_; rintro w18 hb; replace BK109 := bl_ BK109 hb; replace HB := am (below_step (ab2 GE109) hb); (try clear hb); obtain ⟨⟨_, _, _, _, _⟩, _, _, _, _, _⟩ := Op.cells5 BK109.out) | ((with_reducible refine gf_ 22 ?_); refine gc_ Tryz.func22 (laws_szIntS.calls _ _ l0_1 t110 t111 _ (sc_ HR0_1) HC0_1.out A8.out) ?_; rintro w' ⟨nd, rfl⟩) | ((with_reducible refine gf_ 22 ?_); refine gc_ Tryz.func22 (laws_szIntS.calls _ _ l0_2 t111 t112 _ ?side1 HC0_2.out A14.out) ?_; (case side1 => exact (by repeat (first | exact (Kd.C_below HR0_2.out (ab2 GE109)) | (with_reducible refine Kd.C_alloc ?_ _) | (with_reducible refine Kd.C_drewN ?_ _) | (with_reducible refine Kd.C_drew ?_)))); rintro w' ⟨nd, rfl⟩))
    go_ret
    exact ⟨ab7, ab2 GE109⟩
   ·obtain rfl := Option.some.inj H
    go_enter Tryz.func6, Tryz.ntmps6
    go_wp2_with (first | ((with_reducible refine gd_ 2 ?_); refine bx_ 2 (cs := #[.slice A0_0 l0_0.length c0_0, .slice A0_1 l0_1.length c0_1, .slice A0_2 l0_2.length c0_2, .int .i64 a0_3, .int .i64 a0_4]) 25 ?_; intro gb109 hg w20 hbox hb; have BK109 := am hbox; have GW109 := ge_ (w := w) hg; have GE109 := ge_ (w := w) hg; replace HB := am (below_step ab1 hb); clear hb hbox hg; obtain ⟨⟨_, _, _, _, _⟩, _, _, _, _, _⟩ := Op.cells5 BK109.out) | ((with_reducible refine gf_ 21 ?_); refine gc_ Tryz.func21 (laws_szItemS.calls k _ _ l0_0 a1 t110 _ (sc_ HR0_0) HC0_0.out A3.out) ?_; rintro w22 hb; replace BK109 := bl_ BK109 hb; replace HB := am (below_step (ab2 GE109) hb); (try clear hb); obtain ⟨⟨_, _, _, _, _⟩, _, _, _, _, _⟩ := Op.cells5 BK109.out) | ((with_reducible refine gf_ 22 ?_); refine gc_ Tryz.func22 (laws_szIntS.calls _ _ l0_1 t110 t111 _ (sc_ HR0_1) HC0_1.out A8.out) ?_; rintro w' ⟨nd, rfl⟩) | ((with_reducible refine gf_ 22 ?_); refine gc_ Tryz.func22 (laws_szIntS.calls _ _ l0_2 t111 t112 _ ?side1 HC0_2.out A14.out) ?_; (case side1 => exact (by repeat (first | exact (Kd.C_below HR0_2.out (ab2 GE109)) | (with_reducible refine Kd.C_alloc ?_ _) | (with_reducible refine Kd.C_drewN ?_ _) | (with_reducible refine Kd.C_drew ?_)))); rintro w' ⟨nd, rfl⟩))
    go_ret
    exact ⟨ab7, ab2 GE109⟩
def spec_l1Bit.f (a0 : Bool) : Option (Int) := if a0 = true then (some 1) else (some 0)
theorem spec_l1Bit.calls (a0 : Bool) (r : Int) (w : World) (h : spec_l1Bit.f a0 = some r) :
  Calls Tryz.prog 70 #[.bool a0] w fun e w' => e = .returned (.int .i64 r) ∧ Drawn0 w w' := by
 have H : (if a0 = true then (some 1) else (some 0)) = some r := h
 clear h
 replace H := ib_ H; rcases H with ⟨rfl, H⟩ | ⟨rfl, H⟩
 ·obtain rfl := Option.some.inj H
  go_enter Tryz.func70, Tryz.ntmps70
  go_wp2
  go_ret
  exact ⟨ab6, by repeat (first | exact Drawn0.refl _ | apply Drawn0.step)⟩
 ·obtain rfl := Option.some.inj H
  go_enter Tryz.func70, Tryz.ntmps70
  go_wp2
  go_ret
  exact ⟨ab6, by repeat (first | exact Drawn0.refl _ | apply Drawn0.step)⟩
def spec_l6Count.l0 : Nat → List Int → Int → Int → Int → Option (Int)
 | 0, _, _, _, _ => none
 | k + 1, x0, x1, x5, x6 => if x6 < (x0.length : Int) then (if 0 ≤ x6 then ((spec_l1Bit.f ((rd x0 x6) == x1)).bind fun t114 => (spec_l6Count.l0 k x0 x1 (wrap64 (x5 + t114)) (wrap64 (x6 + 1)))) else (none)) else (some x5)
def spec_l6Count.f (k : Nat) (l0 : List Int) (a1 : Int) : Option (Int) := spec_l6Count.l0 k l0 a1 0 0
theorem spec_l6Count.calls (k : Nat) (A0 : Option Addr) (c0 : Nat) (l0 : List Int) (a1 : Int) (r : Int) (w : World) (hr0 : Kd.C (Kd.int .i64) w A0 l0.length l0) (hc0 : l0.length ≤ c0) (h : spec_l6Count.f k l0 a1 = some r) :
  Calls Tryz.prog 43 #[.slice A0 l0.length c0, .int .i64 a1] w fun e w' => e = .returned (.int .i64 r) ∧ Drawn0 w w' := by
 have HR0 := am hr0
 have HC0 := am hc0
 clear hr0 hc0
 have H : (spec_l6Count.l0 k l0 a1 0 0) = some r := h
 clear h
 have H' := am H
 clear H
 go_enter Tryz.func43, Tryz.ntmps43
 go_wp2
 go_loopg [5, 6] k (fun kq v5 v6 w' => ∃ (x5_1 : Int) (x6_1 : Int), v5 = .int .i64 x5_1 ∧ v6 = .int .i64 x6_1 ∧ Aside0 (spec_l6Count.l0 kq l0 a1 x5_1 x6_1 = some r) ∧ Aside0 (kq ≤ k) ∧ Drawn0 w w')
 case atStart => exact ⟨(0), (0), ab6, ab6, H', ⟨Nat.le_refl _⟩, by repeat (first | exact Drawn0.refl _ | apply Drawn0.step)⟩
 case round =>
  clear H'
  try clear p2
  obtain ⟨x5_1, x6_1, rfl, rfl, HA, HK1, ⟨m1, rfl⟩⟩ := hrel
  cases gk with
  | zero => exact absurd HA.out (by simp [spec_l6Count.l0])
  | succ k1 =>
   have H := HA.out
   clear HA
   simp only [spec_l6Count.l0] at H
   replace H := ir_ H; rcases H with ⟨c3b0, H⟩ | ⟨c3b0, H⟩
   ·replace H := iq_ H; obtain ⟨c4b0, H⟩ := H
    replace H := bi_ H; obtain ⟨t114, A5, H⟩ := H
    have H' := am H
    clear H
    have p113 : 0 ≤ (x6_1 : Int) := of_decide_eq_true ab4
    have q113 : x6_1 < (l0.length : Int) := of_decide_eq_true ab4
    obtain ⟨ad113, e113, hx113_0⟩ := Kd.at_int HR0.out x6_1 p113 q113
    cases e113
    replace p113 := eq_true p113
    replace q113 := eq_true q113
    go_wp2_with (first | ((with_reducible refine gf_ 70 ?_); refine gc_ Tryz.func70 (spec_l1Bit.calls ((rd l0 x6_1) == a1) t114 _ A5.out) ?_; rintro w' ⟨nd, rfl⟩))
    go_roundg k1
    case measure => have := HK1.out; omega
    case rel => exact ⟨(wrap64 (x5_1 + t114)), (wrap64 (x6_1 + 1)), ab6, ab6, H', ⟨by have := HK1.out; omega⟩, by repeat (first | exact Drawn0.refl _ | apply Drawn0.step)⟩
   ·obtain rfl := Option.some.inj H
    go_wp2
    go_ret
    exact ⟨ab6, by repeat (first | exact Drawn0.refl _ | apply Drawn0.step)⟩
def spec_l1In.f (a0 : Int) (a1 : Int) (a2 : Int) : Option (Bool) := if a0 ≥ a1 then (some (decide (a0 ≤ a2))) else (some false)
theorem spec_l1In.calls (a0 : Int) (a1 : Int) (a2 : Int) (r : Bool) (w : World) (h : spec_l1In.f a0 a1 a2 = some r) :
  Calls Tryz.prog 77 #[.int .i64 a0, .int .i64 a1, .int .i64 a2] w fun e w' => e = .returned (.bool r) ∧ Drawn0 w w' := by
 have H : (if a0 ≥ a1 then (some (decide (a0 ≤ a2))) else (some false)) = some r := h
 clear h
 by_cases c4 : a0 ≥ a1
 ·rw [if_pos c4] at H
  have c4b0 : decide (a1 ≤ a0) = true := decide_eq_true c4
  clear c4
  obtain rfl := Option.some.inj H
  go_enter Tryz.func77, Tryz.ntmps77
  go_wp2
  go_ret
  exact ⟨ab6, by repeat (first | exact Drawn0.refl _ | apply Drawn0.step)⟩
 ·rw [if_neg c4] at H
  have c4b0 : decide (a1 ≤ a0) = false := decide_eq_false c4
  clear c4
  obtain rfl := Option.some.inj H
  go_enter Tryz.func77, Tryz.ntmps77
  go_wp2
  go_ret
  exact ⟨ab6, by repeat (first | exact Drawn0.refl _ | apply Drawn0.step)⟩
def spec_l4Has.l0 : Nat → List (S56) → ByteArray → Int → Option (Bool)
 | 0, _, _, _ => none
 | k + 1, x0, x1, x5 => if x5 < (x0.length : Int) then (if 0 ≤ x5 then (if ((rd_T56 x0 x5).f0).toList = x1.toList then (some true) else (spec_l4Has.l0 k x0 x1 (wrap64 (x5 + 1)))) else (none)) else (some false)
def spec_l4Has.f (k : Nat) (l0 : List (S56)) (a1 : ByteArray) : Option (Bool) := spec_l4Has.l0 k l0 a1 0
theorem spec_l4Has.calls (k : Nat) (A0 : Option Addr) (c0 : Nat) (l0 : List (S56)) (a1 : ByteArray) (r : Bool) (w : World) (hr0 : Kd.C k56 w A0 l0.length l0) (hc0 : l0.length ≤ c0) (h : spec_l4Has.f k l0 a1 = some r) :
  Calls Tryz.prog 103 #[.slice A0 l0.length c0, .string a1] w fun e w' => e = .returned (.bool r) ∧ Drawn0 w w' := by
 have HR0 := am hr0
 have HC0 := am hc0
 clear hr0 hc0
 have H : (spec_l4Has.l0 k l0 a1 0) = some r := h
 clear h
 have H' := am H
 clear H
 go_enter Tryz.func103, Tryz.ntmps103
 go_wp2
 go_loopg [5] k (fun kq v5 w' => ∃ (x5_1 : Int), v5 = .int .i64 x5_1 ∧ Aside0 (spec_l4Has.l0 kq l0 a1 x5_1 = some r) ∧ Aside0 (kq ≤ k) ∧ Drawn0 w w')
 case atStart => exact ⟨(0), ab6, H', ⟨Nat.le_refl _⟩, by repeat (first | exact Drawn0.refl _ | apply Drawn0.step)⟩
 case round =>
  clear H'
  (try clear c1); (try clear p2)
  obtain ⟨x5_1, rfl, HA, HK1, ⟨m1, rfl⟩⟩ := hrel
  cases gk with
  | zero => exact absurd HA.out (by simp [spec_l4Has.l0])
  | succ k1 =>
   have H := HA.out
   clear HA
   simp only [spec_l4Has.l0] at H
   replace H := ir_ H; rcases H with ⟨c3b0, H⟩ | ⟨c3b0, H⟩
   ·replace H := iq_ H; obtain ⟨c4b0, H⟩ := H
    replace H := ie_ H; rcases H with ⟨c5b0, c5b1, H⟩ | ⟨c5, c5b0, c5b1, H⟩
    ·obtain rfl := Option.some.inj H
     obtain ⟨p115, q115, ad115, rfl, hx115_0, hx115_1, -⟩ := otT56 b0_ HR0.out x5_1 (of_decide_eq_true ab4) (of_decide_eq_true ab4)
     go_wp2
     go_ret
     exact ⟨ab6, by repeat (first | exact Drawn0.refl _ | apply Drawn0.step)⟩
    ·have H' := am H
     clear H
     obtain ⟨p115, q115, ad115, rfl, hx115_0, hx115_1, -⟩ := otT56 b0_ HR0.out x5_1 (of_decide_eq_true ab4) (of_decide_eq_true ab4)
     go_wp2
     go_roundg k1
     case measure => have := HK1.out; omega
     case rel => exact ⟨(wrap64 (x5_1 + 1)), ab6, H', ⟨by have := HK1.out; omega⟩, by repeat (first | exact Drawn0.refl _ | apply Drawn0.step)⟩
   ·obtain rfl := Option.some.inj H
    go_wp2
    go_ret
    exact ⟨ab6, by repeat (first | exact Drawn0.refl _ | apply Drawn0.step)⟩
def slices_Clone_int_int.f (l0 : List Int) : Option (List Int) := (some (([] : List Int) : List Int)).bind fun y324 => (if y324.length + l0.length < 17592186044416 then (some (y324 ++ l0)) else (none))
theorem slices_Clone_int_int.calls (A0 : Option Addr) (c0 : Nat) (l0 : List Int) (r : List Int) (w : World) (hr0 : Kd.C (Kd.int .i64) w A0 l0.length l0) (hc0 : l0.length ≤ c0) (h : slices_Clone_int_int.f l0 = some r) :
  Calls Tryz.prog 60 #[.slice A0 l0.length c0] w fun e w' => ∃ v0_ : Value, e = .returned (v0_) ∧ Kd.R (Kd.int .i64) 3 w' w.heap.size (fun _ => True) v0_ r ∧ Below w.heap.size w w' := by
 have HR0 := am hr0
 have HC0 := am hc0
 clear hr0 hc0
 have HB := am (Below.refl w.heap.size w)
 have H : ((some (([] : List Int) : List Int)).bind fun y324 => (if y324.length + l0.length < 17592186044416 then (some (y324 ++ l0)) else (none))) = some r := h
 clear h
 obtain ⟨y324, hy324⟩ : ∃ y_ : List Int, y_ = (([] : List Int)) := ⟨_, rfl⟩
 replace H : (if y324.length + l0.length < 17592186044416 then (some (y324 ++ l0)) else (none)) = some r := by first | (rw [hy324]; with_reducible exact H) | (have H2_ := (Option.bind_some _ _).symm.trans H; rw [hy324]; with_reducible exact H2_) | (have H2_ := (Option.bind_some _ _).symm.trans H; with_reducible exact H2_) | with_reducible exact H | (rw [hy324]; exact H) | exact H
 have Ny324 := am hy324
 clear hy324
 by_cases c2 : y324.length + l0.length < 17592186044416
 case neg => rw [if_neg c2] at H; exact absurd H (by simp)
 rw [if_pos c2] at H
 have LMc2 := am c2
 clear c2
 obtain ⟨y327, hy327⟩ : ∃ y_ : List Int, y_ = (y324 ++ l0) := ⟨_, rfl⟩
 replace H : (some y327) = some r := by first | (rw [hy327]; with_reducible exact H) | (have H2_ := (Option.bind_some _ _).symm.trans H; rw [hy327]; with_reducible exact H2_) | (have H2_ := (Option.bind_some _ _).symm.trans H; with_reducible exact H2_) | with_reducible exact H | (rw [hy327]; exact H) | exact H
 have Ny327 := am hy327
 clear hy327
 obtain rfl := Option.some.inj H
 rcases A0 with _ | ad0
 ·have hl0 : l0 = [] := by
   have h1 := HR0.out.2.2
   cases l0 with
   | nil => rfl
   | cons x xs => obtain ⟨ad, he, _⟩ := h1 (Nat.succ_pos _); cases he
  subst hl0
  have e1_ := Ny324.out; subst e1_
  have e2_ := Ny327.out; subst e2_
  have hnil : ∀ W, (binOp .eql 23 (.slice none 0 c0) (.slice none 0 0)).run Tryz.prog W = .ok (.bool true) W := fun W => Lib.run_eql_slice_nil (h := Tryz.underlying23) ..
  go_enter Tryz.func60, Tryz.ntmps60
  go_wp2
  go_ret
  exact ⟨_, rfl, Kd.R_nil _ _ _ _ _, ab1⟩
 have hnil : ∀ W, (binOp .eql 23 (.slice (some ad0) l0.length c0) (.slice none 0 0)).run Tryz.prog W = .ok (.bool false) W := fun W => Lib.run_eql_slice_nil (h := Tryz.underlying23) ..
 go_enter Tryz.func60, Tryz.ntmps60
 go_wp2_with (first | ((with_reducible refine gate_dst (N := 5) rfl ?_); refine Kd.R_lit (Kd.int .i64) _ 3 ?hg (N := 5) ?hd (xs := ([] : List Int)) (inner := []) (ok := fun _ => True) (okp := fun _ => True) ?hr ?hp (fun _ hk => hk) trivial (Below.refl _ _) (Nat.le_refl _) (by simp) ?_; (case hd => rfl); (case hg => rfl); (case hr => first | (go_simp; done) | (go_simp; rfl)); (case hp => exact (Reps.none _ _)); intro v325 w3 ho4 hb hg_ hnew_; clear hg_ hnew_; (first | rw [← Ny324.out] at ho4 | (simp only [Int.reduceToNat] at ho4; rw [← Ny324.out] at ho4)); have HO326 := am (Kd.R_lower ho4 (below_size ab1)); replace HB := am (below_step ab1 hb); clear hb ho4) | ((with_reducible refine gate_builtin (b := .append) (xs := #[.tmp 5, .tmp 6]) rfl ?_); at_builtin; refine Kd.R_append_rows (Kd.int .i64) (w0 := w) w.heap.size rfl (.tmp 5) (.tmp 6) 23 3 (.int .i64 0) 8 rfl Tryz.underlying23 info3 rfl (by decide) (by omega) v325 y324 l0 _ _ _ (fun _ => True) (fun _ => False) rfl rfl ?aO ?aR (fun _ _ h => h) (fun _ h => h.elim) ?aF ?aB ?aS ?aL ?_; (case aR => repeat (first | exact (Kd.C_below HR0.out HB.out) | (with_reducible refine Kd.C_alloc ?_ _) | (with_reducible refine Kd.C_drewN ?_ _) | (with_reducible refine Kd.C_drew ?_))); (case aB => exact ab1); (case aF => exact (fun _ _ => trivial)); (case aO => exact (ab8 HO326)); (case aS => exact (below_size ab1)); (case aL => have := LMc2.out; omega); intro v328 w5 ho hb hg hat; rw [← Ny327.out] at ho; replace HB := am hb; have HO329 := am ho; clear HO326; clear ho hb hg hat))
 go_ret
 exact ⟨_, ab7, ab8 HO329, ab1⟩
section
open Go.Proofs.YtekkalnafngfeaaGreatW.PrintMore
/-- An item as it lies in an elder world. -/
def kSh (w0 : World) : Kd S53 where
 sz := 7
 E := k53.E
 K := fun _ x cs => k53.K w0 x cs
 M := fun _ _ _ x cs => k53.K w0 x cs
 K_len := fun h => k53.K_len h
 K_one := fun h => k53.K_one h
 K_below := fun _ h => h
 K_of_M := fun h => h
 M_mono := fun _ h => h
 M_bound := fun h => h
 M_move := fun _ h => h
 M_lower := fun _ h => h
theorem sh_C {w0 W : World} {A : Option Addr} {n : Nat} {xs : List S53} (h : Kd.C k53 w0 A n xs) (hb : Below w0.heap.size w0 W) : Kd.C (kSh w0) W A n xs := ReadsRow.imp_ h hb (fun _ _ hp => hp)
/-- An item that lies in an elder world (false), or has rows of its own (true). -/
def kF (w0 : World) : Kd (S53 × Bool) where
 sz := 7
 E := k53.E
 K := fun w x cs => match x.2 with | true => k53.K w x.1 cs | false => k53.K w0 x.1 cs
 M := fun w base ok x cs => match x.2 with | true => k53.M w base ok x.1 cs | false => k53.K w0 x.1 cs
 K_len := fun {w x cs} h => by rcases x with ⟨y, _ | _⟩ <;> exact k53.K_len h
 K_one := fun {w x cs} h => by rcases x with ⟨y, _ | _⟩ <;> exact k53.K_one h
 K_below := fun {w w1 x cs} hb h => by
  rcases x with ⟨y, _ | _⟩
  ·exact h
  ·exact k53.K_below hb h
 K_of_M := fun {w base ok x cs} h => by
  rcases x with ⟨y, _ | _⟩
  ·exact h
  ·exact k53.K_of_M h
 M_mono := fun {w base ok ok' x cs} hok h => by
  rcases x with ⟨y, _ | _⟩
  ·exact h
  ·exact k53.M_mono hok h
 M_bound := fun {w base ok x cs} h => by
  rcases x with ⟨y, _ | _⟩
  ·exact h
  ·exact k53.M_bound h
 M_move := fun {w w1 base ok x cs} hm h => by
  rcases x with ⟨y, _ | _⟩
  ·exact h
  ·exact k53.M_move hm h
 M_lower := fun {w base base' ok x cs} hb h => by
  rcases x with ⟨y, _ | _⟩
  ·exact h
  ·exact k53.M_lower hb h
/-- The items, the first i of which have rows of their own. -/
def Zc (l : List S53) (i : Nat) : List (S53 × Bool) := l.zipIdx.map fun p => (p.1, decide (p.2 < i))
theorem Zc_length (l : List S53) (i : Nat) : (Zc l i).length = l.length := by simp [Zc]
theorem Zc_at (l : List S53) (i j : Nat) (h : j < l.length) : (Zc l i)[j]? = some (l[j], decide (j < i)) := by
 unfold Zc
 rw [List.getElem?_map, List.getElem?_zipIdx, List.getElem?_eq_getElem h]
 simp
theorem Zc_set (l : List S53) (i : Nat) (h : i < l.length) : (Zc l i).set i (l[i], true) = Zc l (i + 1) := by
 apply List.ext_getElem?
 intro j
 by_cases hj : j < l.length
 ·rw [Zc_at l (i + 1) j hj]
  by_cases e : i = j
  ·subst e
   rw [List.getElem?_set_self (by rw [Zc_length]; exact h), decide_eq_true (by omega)]
  ·rw [List.getElem?_set_ne e, Zc_at l i j hj]
   congr 2
   exact decide_eq_decide.2 (by omega)
 ·rw [List.getElem?_eq_none (by rw [List.length_set, Zc_length]; omega), List.getElem?_eq_none (by rw [Zc_length]; omega)]
section
variable {w W W1 W2 : World} {base n cap g : Nat} {ok : Nat → Prop} {v : Value} {l : List S53}
theorem Zc_of_sh (h : Kd.R (kSh w) 53 W base ok v l) : Kd.S (kF w) 53 W base ok v (Zc l 0) := by
 obtain ⟨h0, inner, ho, hr⟩ := h
 refine ⟨fun _ => 0, h0, inner, by rw [List.length_zipIdx, Zc_length]; exact ho, by have := hr.1; rw [List.length_zipIdx, Zc_length]; exact this, fun j p hj => ?_⟩
 rw [List.getElem?_zipIdx] at hj
 obtain ⟨q, hq, rfl⟩ := Option.map_eq_some_iff.1 hj
 have hjl : j < l.length := by have := (List.getElem?_eq_some_iff.1 hq).1; rwa [Zc_length] at this
 rw [Zc_at l 0 j hjl] at hq
 injection hq with hq
 subst hq
 exact hr.2 j _ (List.getElem?_eq_getElem hjl)
theorem Zc_full (h : Kd.S (kF w) 53 W base ok v (Zc l l.length)) : Kd.S k53 53 W base ok v l := by
 obtain ⟨f, h0, inner, ho, hr⟩ := h
 refine ⟨f, h0, inner, by rw [List.length_zipIdx]; rw [List.length_zipIdx, Zc_length] at ho; exact ho, by have := hr.1; rw [List.length_zipIdx, Zc_length] at this; rw [List.length_zipIdx]; exact this, fun j p hj => ?_⟩
 rw [List.getElem?_zipIdx] at hj
 obtain ⟨q, hq, rfl⟩ := Option.map_eq_some_iff.1 hj
 obtain ⟨hjl, hqe⟩ := List.getElem?_eq_some_iff.1 hq
 have hz := hr.2 j ((l[j], true), 0 + j) (by rw [List.getElem?_zipIdx, Zc_at l l.length j hjl, decide_eq_true hjl]; rfl)
 rw [← hqe]
 exact hz
theorem rd_get (l : List S53) (x : Int) (h : x.toNat < l.length) : rd_T53 l x = l[x.toNat] := by
 unfold rd_T53
 rw [List.getD_eq_getElem?_getD, List.getElem?_eq_getElem h]
 rfl
/-- The item ahead: its cells, what its rows say in the elder world, the row without it. -/
theorem cp_open {x : Int} (HO : Kd.S (kF w) 53 W base ok (.slice (some ⟨g, 0, none⟩) n cap) (Zc l x.toNat)) (h0 : 0 ≤ x) (h1 : x < (l.length : Int)) (hn : n = l.length) :
  ∃ (oki : Nat → Prop) (A3 A6 : Option Addr) (c3 c6 : Nat), (∀ k, oki k → ok k ∧ k ≠ g) ∧
   Kd.H (kF w) 53 W base ok (.slice (some ⟨g, 0, none⟩) n cap) (Zc l x.toNat) x oki [.int .i64 (rd_T53 l x).f0, .int .i64 (rd_T53 l x).f1, .string (rd_T53 l x).f2, .slice A3 (rd_T53 l x).f3.length c3, .string (rd_T53 l x).f4, .int .i64 (rd_T53 l x).f5, .slice A6 (rd_T53 l x).f6.length c6] ∧
   W.cell? ⟨g, x.toNat * 7 + 3, none⟩ = some (.slice A3 (rd_T53 l x).f3.length c3) ∧ W.frozen? ⟨g, x.toNat * 7 + 3, none⟩ = false ∧ W.cell? ⟨g, x.toNat * 7 + 6, none⟩ = some (.slice A6 (rd_T53 l x).f6.length c6) ∧ W.frozen? ⟨g, x.toNat * 7 + 6, none⟩ = false ∧
   (rd_T53 l x).f3.length ≤ c3 ∧ Kd.C k56 w A3 (rd_T53 l x).f3.length (rd_T53 l x).f3 ∧ (rd_T53 l x).f6.length ≤ c6 ∧ Kd.C (Kd.int .i64) w A6 (rd_T53 l x).f6.length (rd_T53 l x).f6 := by
 obtain ⟨oki, c, hcl, hM, hcc, hfr, hoki, hH⟩ := Kd.S_elem HO (z53, false) x h0 (by omega)
 have hil : x.toNat < l.length := by omega
 have e : (Zc l x.toNat).getD x.toNat (z53, false) = (rd_T53 l x, false) := by
  rw [List.getD_eq_getElem?_getD, Zc_at l x.toNat x.toNat hil, decide_eq_false (Nat.lt_irrefl _), rd_get l x hil]
  rfl
 rw [e] at hM
 obtain ⟨A3, c3, A6, c6, rfl, l3, g3, l6, g6⟩ := k53_open (show k53.K w (rd_T53 l x) c from hM)
 exact ⟨oki, A3, A6, c3, c6, hoki, hH, hcc 3 _ rfl, hfr 3, hcc 6 _ rfl, hfr 6, l3, g3, l6, g6⟩
/-- Behind the first store: the attributes are the item's own. -/
theorem cp_store1 {x : Int} {oki : Nat → Prop} {A3 A6 : Option Addr} {c3 c6 : Nat} {v3 : Value} {r3 : List S56} (hoki : ∀ k, oki k → ok k ∧ k ≠ g)
  (hH : Kd.H (kF w) 53 W base ok (.slice (some ⟨g, 0, none⟩) n cap) (Zc l x.toNat) x oki [.int .i64 (rd_T53 l x).f0, .int .i64 (rd_T53 l x).f1, .string (rd_T53 l x).f2, .slice A3 (rd_T53 l x).f3.length c3, .string (rd_T53 l x).f4, .int .i64 (rd_T53 l x).f5, .slice A6 (rd_T53 l x).f6.length c6]) (h0 : 0 ≤ x) (h1 : x < n) (hb : Below W.heap.size W W2) (hg : g < W.heap.size) (hok : ∀ k, W.heap.size ≤ k → ok k) (hbase : base ≤ W.heap.size)
  (hv : Kd.R k56 56 W2 W.heap.size (fun _ => True) v3 r3) :
  ∃ ok1 : Nat → Prop, (∀ k, ok1 k → ok k ∧ k ≠ g) ∧ Kd.H (kF w) 53 (W2.setCell ⟨g, x.toNat * 7 + 3, none⟩ v3) base ok (.slice (some ⟨g, 0, none⟩) n cap) (Zc l x.toNat) x ok1 [.int .i64 (rd_T53 l x).f0, .int .i64 (rd_T53 l x).f1, .string (rd_T53 l x).f2, v3, .string (rd_T53 l x).f4, .int .i64 (rd_T53 l x).f5, .slice A6 (rd_T53 l x).f6.length c6] ∧
   Kd.R k56 56 (W2.setCell ⟨g, x.toNat * 7 + 3, none⟩ v3) base ok1 v3 r3 ∧ W2.grownBy (W2.setCell ⟨g, x.toNat * 7 + 3, none⟩ v3) (some g) := by
 have h2 := Kd.H_below (Kd.H_widen hH) hb
 have hv' := Kd.R_lower (Kd.R_mono (Kd.R_bound hv) (fun k hk => (⟨hk.2.1, hk.2.2.1⟩ : W.heap.size ≤ k ∧ k < W2.heap.size))) hbase
 obtain ⟨_, hone⟩ := Kd.R_val hv
 obtain ⟨h3, h4⟩ := Kd.H_seg h2 h0 h1 (seg := [v3]) (j := 3) (by show 3 + 1 ≤ 7; omega) (fun q hq => by rw [List.mem_singleton] at hq; subst hq; exact hone)
 refine ⟨_, fun k hk => ?_, h3, Kd.R_mono (Kd.R_far hv' (fun k hk => by show k ≠ g; omega) v3) (fun k hk => Or.inr ⟨hok k hk.1, hk.1⟩), h4⟩
 rcases hk with hk | hk
 ·exact hoki k hk
 ·exact ⟨hk.1, by omega⟩
/-- Behind the second store: the item is the row's own. -/
theorem cp_store2 {x : Int} {ok1 : Nat → Prop} {A6 : Option Addr} {c6 : Nat} {v3 v6 : Value} (hok1 : ∀ k, ok1 k → ok k ∧ k ≠ g)
  (hH : Kd.H (kF w) 53 W base ok (.slice (some ⟨g, 0, none⟩) n cap) (Zc l x.toNat) x ok1 [.int .i64 (rd_T53 l x).f0, .int .i64 (rd_T53 l x).f1, .string (rd_T53 l x).f2, v3, .string (rd_T53 l x).f4, .int .i64 (rd_T53 l x).f5, .slice A6 (rd_T53 l x).f6.length c6]) (h0 : 0 ≤ x) (h1 : x < n) (hn : n = l.length) (hb : Below W.heap.size W W2) (hg : g < W.heap.size) (hok : ∀ k, W.heap.size ≤ k → ok k) (hbase : base ≤ W.heap.size)
  (hr : Kd.R k56 56 W base ok1 v3 (rd_T53 l x).f3) (hv : Kd.R (Kd.int .i64) 3 W2 W.heap.size (fun _ => True) v6 (rd_T53 l x).f6) :
  Kd.S (kF w) 53 (W2.setCell ⟨g, x.toNat * 7 + 6, none⟩ v6) base ok (.slice (some ⟨g, 0, none⟩) n cap) (Zc l (x.toNat + 1)) ∧ W2.grownBy (W2.setCell ⟨g, x.toNat * 7 + 6, none⟩ v6) (some g) := by
 have h2 := Kd.H_below (Kd.H_widen hH) hb
 have hv' := Kd.R_lower (Kd.R_mono (Kd.R_bound hv) (fun k hk => (⟨hk.2.1, hk.2.2.1⟩ : W.heap.size ≤ k ∧ k < W2.heap.size))) hbase
 obtain ⟨_, hone⟩ := Kd.R_val hv
 obtain ⟨h3, h4⟩ := Kd.H_seg h2 h0 h1 (seg := [v6]) (j := 6) (by show 6 + 1 ≤ 7; omega) (fun q hq => by rw [List.mem_singleton] at hq; subst hq; exact hone)
 have g6 := Kd.R_far hv' (p := ⟨g, x.toNat * 7 + 6, none⟩) (fun k hk => by show k ≠ g; omega) v6
 have g3 := Kd.R_far (Kd.R_below hr hb) (p := ⟨g, x.toNat * 7 + 6, none⟩) (fun k hk => (hok1 k hk).2) v6
 have hM := k53_mkM (W2.setCell ⟨g, x.toNat * 7 + 6, none⟩ v6) base (fun k => ok1 k ∨ ok k ∧ W.heap.size ≤ k) (rd_T53 l x) (Kd.R_mono g3 (fun k hk => Or.inl hk)) (Kd.R_mono g6 (fun k hk => Or.inr ⟨hok k hk.1, hk.1⟩))
 have hil : x.toNat < l.length := by omega
 refine ⟨?_, h4⟩
 rw [← Zc_set l x.toNat hil, ← rd_get l x hil]
 exact Kd.H_back h3 (x' := (rd_T53 l x, true)) hM (fun k hk => hk)
end
end
def impl_Item.f (l0 : List (S53)) : Option ((List (S53))) := (some (([] : List (S53)) : List (S53))).bind fun y336 => (if y336.length + l0.length < 1353245080339 then (some (y336 ++ l0)) else (none))
theorem impl_Item.calls (A0 : Option Addr) (c0 : Nat) (l0 : List (S53)) (r : List (S53)) (w : World) (hr0 : Kd.C k53 w A0 l0.length l0) (hc0 : l0.length ≤ c0) (h : impl_Item.f l0 = some r) :
  Calls Tryz.prog 85 #[.slice A0 l0.length c0] w fun e w' => ∃ v0_ : Value, e = .returned (v0_) ∧ Kd.R (kSh w) 53 w' w.heap.size (fun _ => True) v0_ r ∧ Below w.heap.size w w' := by
 have HR0 := am hr0
 have HC0 := am hc0
 clear hr0 hc0
 have HB := am (Below.refl w.heap.size w)
 have H : ((some (([] : List (S53)) : List (S53))).bind fun y336 => (if y336.length + l0.length < 1353245080339 then (some (y336 ++ l0)) else (none))) = some r := h
 clear h
 obtain ⟨y336, hy336⟩ : ∃ y_ : List (S53), y_ = (([] : List (S53))) := ⟨_, rfl⟩
 replace H : (if y336.length + l0.length < 1353245080339 then (some (y336 ++ l0)) else (none)) = some r := by first | (rw [hy336]; with_reducible exact H) | (have H2_ := (Option.bind_some _ _).symm.trans H; rw [hy336]; with_reducible exact H2_) | (have H2_ := (Option.bind_some _ _).symm.trans H; with_reducible exact H2_) | with_reducible exact H | (rw [hy336]; exact H) | exact H
 have Ny336 := am hy336
 clear hy336
 by_cases c2 : y336.length + l0.length < 1353245080339
 case neg => rw [if_neg c2] at H; exact absurd H (by simp)
 rw [if_pos c2] at H
 have LMc2 := am c2
 clear c2
 obtain ⟨y339, hy339⟩ : ∃ y_ : List (S53), y_ = (y336 ++ l0) := ⟨_, rfl⟩
 replace H : (some y339) = some r := by first | (rw [hy339]; with_reducible exact H) | (have H2_ := (Option.bind_some _ _).symm.trans H; rw [hy339]; with_reducible exact H2_) | (have H2_ := (Option.bind_some _ _).symm.trans H; with_reducible exact H2_) | with_reducible exact H | (rw [hy339]; exact H) | exact H
 have Ny339 := am hy339
 clear hy339
 obtain rfl := Option.some.inj H
 rcases A0 with _ | ad0
 ·have hl0 : l0 = [] := by
   have h1 := HR0.out.2.2
   cases l0 with
   | nil => rfl
   | cons x xs => obtain ⟨ad, he, _⟩ := h1 (Nat.succ_pos _); cases he
  subst hl0
  have e1_ := Ny336.out; subst e1_
  have e2_ := Ny339.out; subst e2_
  have hnil : ∀ W, (binOp .eql 29 (.slice none 0 c0) (.slice none 0 0)).run Tryz.prog W = .ok (.bool true) W := fun W => Lib.run_eql_slice_nil (h := Tryz.underlying29) ..
  go_enter Tryz.func85, Tryz.ntmps85
  go_wp2
  go_ret
  exact ⟨_, rfl, Kd.R_nil _ _ _ _ _, ab1⟩
 have hnil : ∀ W, (binOp .eql 29 (.slice (some ad0) l0.length c0) (.slice none 0 0)).run Tryz.prog W = .ok (.bool false) W := fun W => Lib.run_eql_slice_nil (h := Tryz.underlying29) ..
 go_enter Tryz.func85, Tryz.ntmps85
 go_wp2_with (first | ((with_reducible refine gate_dst (N := 5) rfl ?_); refine Kd.R_lit (kSh w) _ 53 ?hg (N := 5) ?hd (xs := ([] : List (S53))) (inner := []) (ok := fun _ => True) (okp := fun _ => True) ?hr ?hp (fun _ hk => hk) trivial (Below.refl _ _) (Nat.le_refl _) (by simp) ?_; (case hd => rfl); (case hg => rfl); (case hr => first | (go_simp; done) | (go_simp; rfl)); (case hp => exact (Reps.none _ _)); intro v337 w3 ho4 hb hg_ hnew_; clear hg_ hnew_; (first | rw [← Ny336.out] at ho4 | (simp only [Int.reduceToNat] at ho4; rw [← Ny336.out] at ho4)); have HO338 := am (Kd.R_lower ho4 (below_size ab1)); replace HB := am (below_step ab1 hb); clear hb ho4) | ((with_reducible refine gate_builtin (b := .append) (xs := #[.tmp 5, .tmp 6]) rfl ?_); at_builtin; refine Kd.R_append_rows (kSh w) (w0 := w) w.heap.size rfl (.tmp 5) (.tmp 6) 29 53 (.agg #[(.int .i64 0), (.int .i64 0), (.string ⟨#[]⟩), (.slice none 0 0), (.string ⟨#[]⟩), (.int .i64 0), (.slice none 0 0)]) 104 rfl Tryz.underlying29 info53 rfl (Nat.succ_pos 6) (by omega) v337 y336 l0 _ _ _ (fun _ => True) (fun _ => False) rfl rfl ?aO ?aR (fun _ _ h => h) (fun _ h => h.elim) ?aF ?aB ?aS ?aL ?_; (case aR => exact sh_C HR0.out ab1); (case aB => exact ab1); (case aF => exact (fun _ _ => trivial)); (case aO => exact (ab8 HO338)); (case aS => exact (below_size ab1)); (case aL => have := LMc2.out; omega); intro v340 w5 ho hb hg hat; rw [← Ny339.out] at ho; replace HB := am hb; have HO341 := am ho; clear HO338; clear ho hb hg hat))
 go_ret
 exact ⟨_, ab7, ab8 HO341, ab1⟩
def impl_Attr_105.f (l0 : List (S56)) : Option ((List (S56))) := (some (([] : List (S56)) : List (S56))).bind fun y336 => (if y336.length + l0.length < 4398046511104 then (some (y336 ++ l0)) else (none))
theorem impl_Attr_105.calls (A0 : Option Addr) (c0 : Nat) (l0 : List (S56)) (r : List (S56)) (w : World) (hr0 : Kd.C k56 w A0 l0.length l0) (hc0 : l0.length ≤ c0) (h : impl_Attr_105.f l0 = some r) :
  Calls Tryz.prog 105 #[.slice A0 l0.length c0] w fun e w' => ∃ v0_ : Value, e = .returned (v0_) ∧ Kd.R k56 56 w' w.heap.size (fun _ => True) v0_ r ∧ Below w.heap.size w w' := by
 have HR0 := am hr0
 have HC0 := am hc0
 clear hr0 hc0
 have HB := am (Below.refl w.heap.size w)
 have H : ((some (([] : List (S56)) : List (S56))).bind fun y336 => (if y336.length + l0.length < 4398046511104 then (some (y336 ++ l0)) else (none))) = some r := h
 clear h
 obtain ⟨y336, hy336⟩ : ∃ y_ : List (S56), y_ = (([] : List (S56))) := ⟨_, rfl⟩
 replace H : (if y336.length + l0.length < 4398046511104 then (some (y336 ++ l0)) else (none)) = some r := by first | (rw [hy336]; with_reducible exact H) | (have H2_ := (Option.bind_some _ _).symm.trans H; rw [hy336]; with_reducible exact H2_) | (have H2_ := (Option.bind_some _ _).symm.trans H; with_reducible exact H2_) | with_reducible exact H | (rw [hy336]; exact H) | exact H
 have Ny336 := am hy336
 clear hy336
 by_cases c2 : y336.length + l0.length < 4398046511104
 case neg => rw [if_neg c2] at H; exact absurd H (by simp)
 rw [if_pos c2] at H
 have LMc2 := am c2
 clear c2
 obtain ⟨y339, hy339⟩ : ∃ y_ : List (S56), y_ = (y336 ++ l0) := ⟨_, rfl⟩
 replace H : (some y339) = some r := by first | (rw [hy339]; with_reducible exact H) | (have H2_ := (Option.bind_some _ _).symm.trans H; rw [hy339]; with_reducible exact H2_) | (have H2_ := (Option.bind_some _ _).symm.trans H; with_reducible exact H2_) | with_reducible exact H | (rw [hy339]; exact H) | exact H
 have Ny339 := am hy339
 clear hy339
 obtain rfl := Option.some.inj H
 rcases A0 with _ | ad0
 ·have hl0 : l0 = [] := by
   have h1 := HR0.out.2.2
   cases l0 with
   | nil => rfl
   | cons x xs => obtain ⟨ad, he, _⟩ := h1 (Nat.succ_pos _); cases he
  subst hl0
  have e1_ := Ny336.out; subst e1_
  have e2_ := Ny339.out; subst e2_
  have hnil : ∀ W, (binOp .eql 34 (.slice none 0 c0) (.slice none 0 0)).run Tryz.prog W = .ok (.bool true) W := fun W => Lib.run_eql_slice_nil (h := Tryz.underlying34) ..
  go_enter Tryz.func105, Tryz.ntmps105
  go_wp2
  go_ret
  exact ⟨_, rfl, Kd.R_nil _ _ _ _ _, ab1⟩
 have hnil : ∀ W, (binOp .eql 34 (.slice (some ad0) l0.length c0) (.slice none 0 0)).run Tryz.prog W = .ok (.bool false) W := fun W => Lib.run_eql_slice_nil (h := Tryz.underlying34) ..
 go_enter Tryz.func105, Tryz.ntmps105
 go_wp2_with (first | ((with_reducible refine gate_dst (N := 5) rfl ?_); refine Kd.R_lit k56 _ 56 ?hg (N := 5) ?hd (xs := ([] : List (S56))) (inner := []) (ok := fun _ => True) (okp := fun _ => True) ?hr ?hp (fun _ hk => hk) trivial (Below.refl _ _) (Nat.le_refl _) (by simp) ?_; (case hd => rfl); (case hg => rfl); (case hr => first | (go_simp; done) | (go_simp; rfl)); (case hp => exact (Reps.none _ _)); intro v337 w3 ho4 hb hg_ hnew_; clear hg_ hnew_; (first | rw [← Ny336.out] at ho4 | (simp only [Int.reduceToNat] at ho4; rw [← Ny336.out] at ho4)); have HO338 := am (Kd.R_lower ho4 (below_size ab1)); replace HB := am (below_step ab1 hb); clear hb ho4) | ((with_reducible refine gate_builtin (b := .append) (xs := #[.tmp 5, .tmp 6]) rfl ?_); at_builtin; refine Kd.R_append_rows k56 (w0 := w) w.heap.size rfl (.tmp 5) (.tmp 6) 34 56 (.agg #[(.string ⟨#[]⟩), (.string ⟨#[]⟩)]) 32 rfl Tryz.underlying34 info56 rfl (by decide) (by omega) v337 y336 l0 _ _ _ (fun _ => True) (fun _ => False) rfl rfl ?aO ?aR (fun _ _ h => h) (fun _ h => h.elim) ?aF ?aB ?aS ?aL ?_; (case aR => repeat (first | exact (Kd.C_below HR0.out HB.out) | (with_reducible refine Kd.C_alloc ?_ _) | (with_reducible refine Kd.C_drewN ?_ _) | (with_reducible refine Kd.C_drew ?_))); (case aB => exact ab1); (case aF => exact (fun _ _ => trivial)); (case aO => exact (ab8 HO338)); (case aS => exact (below_size ab1)); (case aL => have := LMc2.out; omega); intro v340 w5 ho hb hg hat; rw [← Ny339.out] at ho; replace HB := am hb; have HO341 := am ho; clear HO338; clear ho hb hg hat))
 go_ret
 exact ⟨_, ab7, ab8 HO341, ab1⟩
def impl_copyAttrs.f (l0 : List (S56)) : Option ((List (S56))) := (impl_Attr_105.f l0).bind fun t350 => (some t350)
theorem impl_copyAttrs.calls (A0 : Option Addr) (c0 : Nat) (l0 : List (S56)) (r : List (S56)) (w : World) (hr0 : Kd.C k56 w A0 l0.length l0) (hc0 : l0.length ≤ c0) (h : impl_copyAttrs.f l0 = some r) :
  Calls Tryz.prog 86 #[.slice A0 l0.length c0] w fun e w' => ∃ v0_ : Value, e = .returned (v0_) ∧ Kd.R k56 56 w' w.heap.size (fun _ => True) v0_ r ∧ Below w.heap.size w w' := by
 have HR0 := am hr0
 have HC0 := am hc0
 clear hr0 hc0
 have HB := am (Below.refl w.heap.size w)
 have H : ((impl_Attr_105.f l0).bind fun t350 => (some t350)) = some r := h
 clear h
 replace H := bi_ H; obtain ⟨t350, A2, H⟩ := H
 obtain rfl := Option.some.inj H
 go_enter Tryz.func86, Tryz.ntmps86
 go_wp2_with (first | ((with_reducible refine gf_ 105 ?_); refine gx_ Tryz.func105 (impl_Attr_105.calls _ _ l0 t350 _ ?side1 HC0.out A2.out) ?_; (case side1 => exact (by repeat (first | exact HR0.out | (with_reducible refine Kd.C_alloc ?_ _) | (with_reducible refine Kd.C_drewN ?_ _) | (with_reducible refine Kd.C_drew ?_)))); rintro v351 w3 ⟨ho0, hb⟩; have HO352 := am (Kd.R_lower ho0 (below_size ab1)); replace HB := am (below_step ab1 hb); (try clear hb); (try clear ho0)))
 go_ret
 exact ⟨_, ab7, ab8 HO352, ab1⟩
def impl_copyItems.f (l0 : List (S53)) : Option (List (S53)) := if l0.length < 1353245080339 then (if (l0.all fun x => decide (x.f3.length < 4398046511104) && decide (x.f6.length < 17592186044416)) = true then some l0 else none) else none
theorem impl_copyItems.calls (A0 : Option Addr) (c0 : Nat) (l0 : List (S53)) (r : List (S53)) (w : World) (hr0 : Kd.C k53 w A0 l0.length l0) (hc0 : l0.length ≤ c0) (h : impl_copyItems.f l0 = some r) :
  Calls Tryz.prog 59 #[.slice A0 l0.length c0] w fun e w' => ∃ v0_ : Value, e = .returned (v0_) ∧ Kd.S k53 53 w' w.heap.size (fun _ => True) v0_ r ∧ Below w.heap.size w w' := by
 have HR0 := am hr0
 have HC0 := am hc0
 clear hr0 hc0
 have HB := am (Below.refl w.heap.size w)
 unfold impl_copyItems.f at h
 by_cases cA : l0.length < 1353245080339
 case neg => rw [if_neg cA] at h; exact absurd h (by simp)
 rw [if_pos cA] at h
 by_cases cB : (l0.all fun x => decide (x.f3.length < 4398046511104) && decide (x.f6.length < 17592186044416)) = true
 case neg => rw [if_neg cB] at h; exact absurd h (by simp)
 rw [if_pos cB] at h
 obtain rfl := Option.some.inj h
 clear h
 have A1 := am (show impl_Item.f l0 = some l0 from by unfold impl_Item.f; simp only [Option.bind_some, List.length_nil, Nat.zero_add, List.nil_append]; rw [if_pos cA])
 have LA := am (fun x hx => (by have := List.all_eq_true.mp cB x hx; rw [Bool.and_eq_true, decide_eq_true_eq, decide_eq_true_eq] at this; exact this : x.f3.length < 4398046511104 ∧ x.f6.length < 17592186044416) : ∀ x ∈ l0, _)
 clear cA cB
 go_enter Tryz.func59, Tryz.ntmps59
 go_wp2_with (first | ((with_reducible refine gf_ 85 ?_); refine gx_ Tryz.func85 (impl_Item.calls _ _ l0 l0 _ HR0.out HC0.out A1.out) ?_; rintro v346 w3 ⟨ho0, hb⟩; have HO := am (Kd.S_mono (Kd.S_bound (Zc_of_sh ho0)) (fun k hk => hk.2.1) : Kd.S (kF w) 53 w3 w.heap.size (fun k => w.heap.size ≤ k) v346 (Zc l0 0)); clear HB; have HB := am hb; clear hb ho0; obtain ⟨Ao4, co4, eo4⟩ := Kd.S_slice HO.out; rw [Zc_length] at eo4; subst eo4))
 go_loopg [9] (l0.length + 1) (fun kq v9 w' => ∃ (x9_1 : Int), v9 = .int .i64 x9_1 ∧ Aside0 (0 ≤ x9_1 ∧ x9_1.toNat + kq = l0.length + 1 ∧ x9_1.toNat ≤ l0.length) ∧ Aside0 (Kd.S (kF w) 53 w' w.heap.size (fun k => w.heap.size ≤ k) (.slice Ao4 l0.length co4) (Zc l0 x9_1.toNat)) ∧ Aside0 (Below w.heap.size w w'))
 case atStart => exact ⟨0, ab6, ⟨by omega, by show 0 + _ = _; omega, by show 0 ≤ _; omega⟩, HO, ⟨ab1⟩⟩
 case round =>
  clear HO
  obtain ⟨x9_1, rfl, HI, HO, HB⟩ := hrel
  by_cases c5 : x9_1 < (l0.length : Int)
  ·have c5b0 : decide (x9_1 < (l0.length : Int)) = true := decide_eq_true c5
   have c6 : 0 ≤ x9_1 := HI.out.1
   have C5 := am c5
   have C6 := am c6
   obtain ⟨g, cap, eg, gb, gl, cl, HG⟩ := Kd.S_form HO.out (by rw [Zc_length]; omega)
   rw [Zc_length] at eg
   injection eg with ea_ en_ ec_
   subst ea_
   subst ec_
   clear en_
   have GB := am gb
   have GL := am gl
   clear gb gl HG
   obtain ⟨oki, A3, A6, c3, c6_, hoki, hH, hx3, hf3, hx6, hf6, l3, g3, l6, g6⟩ := cp_open HO.out c6 c5 rfl
   have HOK := am hoki
   have HH := am hH
   have G3 := am g3
   have L3 := am l3
   have G6 := am g6
   have L6 := am l6
   clear hoki hH g3 l3 g6 l6 HO
   have HL := am (LA.out (rd_T53 l0 x9_1) (by rw [rd_get l0 x9_1 (by omega)]; exact List.getElem_mem _))
   have B3 := am (show impl_copyAttrs.f (rd_T53 l0 x9_1).f3 = some (rd_T53 l0 x9_1).f3 from by unfold impl_copyAttrs.f; simp only [impl_Attr_105.f, Option.bind_some, List.length_nil, Nat.zero_add, List.nil_append]; rw [if_pos HL.out.1]; rfl)
   have B6 := am (show slices_Clone_int_int.f (rd_T53 l0 x9_1).f6 = some (rd_T53 l0 x9_1).f6 from by unfold slices_Clone_int_int.f; simp only [Option.bind_some, List.length_nil, Nat.zero_add, List.nil_append]; rw [if_pos HL.out.2])
   clear HL
   have HW := am (rfl : wr = wr)
   replace c6 := eq_true c6
   replace c5 := eq_true c5
   go_wp2_with (first | ((with_reducible refine gf_ 86 ?_); refine gx_ Tryz.func86 (impl_copyAttrs.calls _ _ (rd_T53 l0 x9_1).f3 (rd_T53 l0 x9_1).f3 _ (Kd.C_below G3.out HB.out) (L3.out) B3.out) ?_; rintro v350 w12 ⟨ho0, hb⟩; obtain ⟨Ao5, co5, eo5⟩ := Kd.R_slice ho0; subst eo5; have HN := am (cp_store1 HOK.out HH.out C6.out C5.out hb GL.out (fun k hk => Nat.le_trans (below_size HB.out) hk) (below_size HB.out) ho0); replace hx3 := (hb.cell (World.block_lt_of_cell? _ _ hx3)).trans hx3; replace hx6 := (hb.cell (World.block_lt_of_cell? _ _ hx6)).trans hx6; replace hf3 := (hb.frozen GL.out).trans hf3; replace hf6 := (hb.frozen GL.out).trans hf6; replace HB := am (below_step HB.out hb); clear HH HOK; have GL2 := am (Nat.lt_of_lt_of_le GL.out hb.size); clear hb ho0) | ((with_reducible refine gate_callee (f := 60) rfl ?_); (generalize hw_ : w12.setCell ⟨g, x9_1.toNat * 7 + 3, none⟩ (.slice Ao5 (rd_T53 l0 x9_1).f3.length co5) = w13); have hw := hw_.symm; clear hw_; obtain ⟨ok1, q1, q2, q3, q4⟩ := HN.out; rw [← hw] at q2 q3 q4; have HOK := am q1; have HH := am q2; have HV3 := am q3; clear q1 q2 q3 HN; have hx6' : w13.cell? ⟨g, x9_1.toNat * 7 + 6, none⟩ = some (.slice A6 (rd_T53 l0 x9_1).f6.length c6_) := (by rw [hw]; exact (World.cell?_setCell_other _ _ _ _ (by intro e_; injection e_; omega)).trans hx6); have hf6' : w13.frozen? ⟨g, x9_1.toNat * 7 + 6, none⟩ = false := (by rw [hw, World.frozen?_setCell]; exact hf6); have GL3 := am (show g < w13.heap.size from by rw [hw, World.size_setCell]; exact GL2.out); replace HB := am ((by rw [hw]; exact below_set HB.out GB.out : Below w.heap.size w w13)); clear hx3 hf3 hx6 hf6 q4 hw; have hx6 := hx6'; have hf6 := hf6'; clear hx6' hf6'; refine goesL_ (some 29) rfl rfl Tryz.func60 (by kernel_rfl) rfl #[.slice A6 (rd_T53 l0 x9_1).f6.length c6_] rfl ab5 ?_; (with_reducible refine (slices_Clone_int_int.calls _ _ (rd_T53 l0 x9_1).f6 (rd_T53 l0 x9_1).f6 _ (Kd.C_below G6.out HB.out) (L6.out) B6.out).mono ?_); rintro e w14 ⟨v354, rfl, ho0, hb⟩; refine ⟨_, rfl, ?_⟩; obtain ⟨Ao6, co6, eo6⟩ := Kd.R_slice ho0; subst eo6; have HN := am (cp_store2 HOK.out HH.out C6.out C5.out rfl hb GL3.out (fun k hk => Nat.le_trans (below_size HB.out) hk) (below_size HB.out) HV3.out ho0); replace hx6 := (hb.cell (World.block_lt_of_cell? _ _ hx6)).trans hx6; replace hf6 := (hb.frozen GL3.out).trans hf6; have n0_ := am (below_step HB.out hb); clear HB HH HOK HV3; have HB := n0_; clear n0_ hb ho0))
   go_roundg (l0.length - x9_1.toNat)
   case measure => have := HI.out; omega
   case rel => exact ⟨wrap64 (x9_1 + 1), ab6, by have := HI.out; have e1_ : wrap64 (x9_1 + 1) = x9_1 + 1 := (by have h1_ := C6.out; have h2_ := C5.out; have h3_ := HR0.out.2.1; unfold wrap64; omega); rw [e1_]; exact ⟨⟨by have := C6.out; omega, by have := C5.out; have := C6.out; omega, by have := C5.out; have := C6.out; omega⟩⟩, by have e1_ : (wrap64 (x9_1 + 1)).toNat = x9_1.toNat + 1 := (by have h1_ := C6.out; have e2_ : wrap64 (x9_1 + 1) = x9_1 + 1 := (by have h1_ := C6.out; have h2_ := C5.out; have h3_ := HR0.out.2.1; unfold wrap64; omega); rw [e2_]; omega); rw [e1_]; exact ⟨HN.out.1⟩, ⟨below_set HB.out GB.out⟩⟩
  ·have c5b0 : decide (x9_1 < (l0.length : Int)) = false := decide_eq_false c5
   have e_ : x9_1.toNat = l0.length := by have := HI.out; omega
   clear c5
   rw [e_] at HO
   go_wp2
   go_ret
   exact ⟨_, rfl, Kd.S_mono (Zc_full HO.out) (fun _ _ => trivial), ab1⟩
def impl_copyPage.f (l0_0 : List (S53)) (l0_1 : List Int) (l0_2 : List Int) (a0_3 : Int) (a0_4 : Int) : Option ((List (S53)) × List Int × List Int × Int × Int) := (impl_copyItems.f l0_0).bind fun t355 => ((slices_Clone_int_int.f l0_1).bind fun t358 => ((slices_Clone_int_int.f l0_2).bind fun t361 => (some (t355, t358, t361, a0_3, a0_4))))
theorem impl_copyPage.calls (A0_0 : Option Addr) (c0_0 : Nat) (l0_0 : List (S53)) (A0_1 : Option Addr) (c0_1 : Nat) (l0_1 : List Int) (A0_2 : Option Addr) (c0_2 : Nat) (l0_2 : List Int) (a0_3 : Int) (a0_4 : Int) (r1 : List (S53)) (r2 : List Int) (r3 : List Int) (r4 : Int) (r5 : Int) (w : World) (hr0_0 : Kd.C k53 w A0_0 l0_0.length l0_0) (hc0_0 : l0_0.length ≤ c0_0) (hr0_1 : Kd.C (Kd.int .i64) w A0_1 l0_1.length l0_1) (hc0_1 : l0_1.length ≤ c0_1) (hr0_2 : Kd.C (Kd.int .i64) w A0_2 l0_2.length l0_2) (hc0_2 : l0_2.length ≤ c0_2) (h : impl_copyPage.f l0_0 l0_1 l0_2 a0_3 a0_4 = some (r1, r2, r3, r4, r5)) :
  Calls Tryz.prog 32 #[.agg #[.slice A0_0 l0_0.length c0_0, .slice A0_1 l0_1.length c0_1, .slice A0_2 l0_2.length c0_2, .int .i64 a0_3, .int .i64 a0_4]] w fun e w' => ∃ v0_ v1_ v2_ : Value, e = .returned (.agg #[v0_, v1_, v2_, .int .i64 r4, .int .i64 r5]) ∧ Kd.S k53 53 w' w.heap.size (fun k_ => some k_ ≠ (v1_ : Value).ownBlock ∧ some k_ ≠ (v2_ : Value).ownBlock) v0_ r1 ∧ Kd.R (Kd.int .i64) 3 w' w.heap.size (fun k_ => some k_ ≠ (v2_ : Value).ownBlock) v1_ r2 ∧ Kd.R (Kd.int .i64) 3 w' w.heap.size (fun k_ => some k_ ≠ (v1_ : Value).ownBlock) v2_ r3 ∧ Below w.heap.size w w' := by
 have hu31 := Tryz.underlying31
 have HR0_0 := am hr0_0
 have HC0_0 := am hc0_0
 clear hr0_0 hc0_0
 have HR0_1 := am hr0_1
 have HC0_1 := am hc0_1
 clear hr0_1 hc0_1
 have HR0_2 := am hr0_2
 have HC0_2 := am hc0_2
 clear hr0_2 hc0_2
 have HB := am (Below.refl w.heap.size w)
 have H : ((impl_copyItems.f l0_0).bind fun t355 => ((slices_Clone_int_int.f l0_1).bind fun t358 => ((slices_Clone_int_int.f l0_2).bind fun t361 => (some (t355, t358, t361, a0_3, a0_4))))) = some (r1, r2, r3, r4, r5) := h
 clear h
 replace H := bi_ H; obtain ⟨t355, A2, H⟩ := H
 replace H := bi_ H; obtain ⟨t358, A3, H⟩ := H
 replace H := bi_ H; obtain ⟨t361, A4, H⟩ := H
 simp only [Option.some.injEq, Prod.mk.injEq] at H
 obtain ⟨rfl, rfl, rfl, rfl, rfl⟩ := H
 go_enter Tryz.func32, Tryz.ntmps32
 go_wp2_with (first | ((with_reducible refine gd_ 1 ?_); refine bx_ 1 (cs := #[.slice A0_0 l0_0.length c0_0, .slice A0_1 l0_1.length c0_1, .slice A0_2 l0_2.length c0_2, .int .i64 a0_3, .int .i64 a0_4]) 31 ?_; intro gb353 hg w5 hbox hb; have BK353 := am hbox; have GW353 := ge_ (w := w) hg; have GE353 := ge_ (w := w) hg; replace HB := am (below_step ab1 hb); clear hb hbox hg) | ((with_reducible refine gd_ 2 ?_); refine bx_ 2 (cs := #[.slice none 0 0, .slice none 0 0, .slice none 0 0, .int .i64 0, .int .i64 0]) 31 ?_; intro gb354 hg w6 hbox hb; have BK354 := am hbox; have GW354 := gE_ (w := w) GE353 hg; have GE354 := gE_ (w := w) GE353 hg; replace HB := am (below_step (ab2 GE353) hb); have NB353_354 := nl_ BK353 hg; have NB354_353 := ng_ BK353 hg; replace BK353 := bl_ BK353 hb; clear hb hbox hg; have hnb7 := NB353_354.out; have hnc7 := NB354_353.out; obtain ⟨⟨_, _, _, _, _⟩, _, _, _, _, _⟩ := Op.cells5 BK353.out) | ((with_reducible refine gf_ 59 ?_); refine gx_ Tryz.func59 (impl_copyItems.calls _ _ l0_0 t355 _ (sc_ HR0_0) HC0_0.out A2.out) ?_; rintro v356 w9 ⟨ho0, hb⟩; have HO357 := am (Kd.S_lower ho0 (below_size ba_)); replace BK353 := bl_ BK353 hb; replace BK354 := bl_ BK354 hb; replace HB := am (below_step ba_ hb); (try clear hb); (try clear ho0); obtain ⟨Ao10, co10, eo10⟩ := Kd.S_slice HO357.out; subst eo10; obtain ⟨⟨_, _, _, _, _⟩, _, _, _, _, _⟩ := Op.cells5 BK353.out) | ((with_reducible refine gf_ 60 ?_); refine gx_ Tryz.func60 (slices_Clone_int_int.calls _ _ l0_1 t358 _ ?side1 HC0_1.out A3.out) ?_; (case side1 => exact Kd.C_below HR0_1.out ba_); rintro v359 w12 ⟨ho0, hb⟩; replace HO357 := am (Kd.S_elder' (by (with_reducible repeat (first | apply Kd.S_alloc | apply Kd.S_drewN | apply Kd.S_drew)); exact (Kd.S_mono (Kd.S_far (p := ⟨gb353, 0, none⟩) (Kd.S_types HO357.out BK353.out (by decide)) (fun _ hk => hk.2) (.slice Ao10 t355.length co10)) (fun _ h_ => h_.1))) (Kd.R_base ho0) hb); have HO360 := am (Kd.R_lower ho0 (below_size ba_)); replace BK353 := bp_ BK353 hb; replace BK354 := bp_ BK354 hb; replace HB := am (below_step ba_ hb); (try clear hb); (try clear hk); (try clear ho0); obtain ⟨Ao13, co13, eo13⟩ := Kd.R_slice HO360.out; subst eo13; obtain ⟨⟨_, _, _, _, _⟩, _, _, _, _, _⟩ := Op.cells5 BK353.out) | ((with_reducible refine gf_ 60 ?_); refine gx_ Tryz.func60 (slices_Clone_int_int.calls _ _ l0_2 t361 _ ?side1 HC0_2.out A4.out) ?_; (case side1 => exact Kd.C_below HR0_2.out ba_); rintro v362 w15 ⟨ho0, hb⟩; replace HO357 := am (Kd.S_elder' (by (with_reducible repeat (first | apply Kd.S_alloc | apply Kd.S_drewN | apply Kd.S_drew)); exact (Kd.S_mono (Kd.S_far (p := ⟨gb353, 1, none⟩) (Kd.S_types HO357.out BK353.out (by decide)) (fun _ hk => hk.2) (.slice Ao13 t358.length co13)) (fun _ h_ => h_.1))) (Kd.R_base ho0) hb); have HO363 := am (Kd.R_lower (Kd.R_new' ho0 (Kd.R_lt (by (with_reducible repeat (first | apply Kd.R_alloc | apply Kd.R_drewN | apply Kd.R_drew)); exact (Kd.R_mono (Kd.R_far (p := ⟨gb353, 1, none⟩) (Kd.R_types HO360.out BK353.out (by decide)) (fun _ hk => hk.2) (.slice Ao13 t358.length co13)) (fun _ h_ => h_.1))))) (below_size ba_)); replace HO360 := am (Kd.R_elder' (by (with_reducible repeat (first | apply Kd.R_alloc | apply Kd.R_drewN | apply Kd.R_drew)); exact (Kd.R_mono (Kd.R_far (p := ⟨gb353, 1, none⟩) (Kd.R_types HO360.out BK353.out (by decide)) (fun _ hk => hk.2) (.slice Ao13 t358.length co13)) (fun _ h_ => h_.1))) (Kd.R_base ho0) hb); replace BK353 := bp_ BK353 hb; replace BK354 := bp_ BK354 hb; replace HB := am (below_step ba_ hb); (try clear hb); (try clear hk); (try clear ho0); obtain ⟨Ao16, co16, eo16⟩ := Kd.R_slice HO363.out; subst eo16; obtain ⟨⟨_, _, _, _, _⟩, _, _, _, _, _⟩ := Op.cells5 BK353.out; obtain ⟨⟨_, _, _, _, _⟩, _, _, _, _, _⟩ := Op.cells5 BK354.out))
 refine bodyPost_ret (results_cell_row rfl _ _ gb354 31 #[.slice Ao10 t355.length co10, .slice Ao13 t358.length co13, .slice Ao16 t361.length co16, .int .i64 a0_3, .int .i64 a0_4] (0, 0) _ rfl (bq_ BK354) Tryz.underlying31 rfl (by kernel_rfl)) rfl ?_
 exact ⟨_, _, _, ab7, by (with_reducible repeat (first | apply Kd.S_alloc | apply Kd.S_drewN | apply Kd.S_drew)); exact Kd.S_mono (Kd.S_far (p := ⟨gb354, 4, none⟩) (Kd.S_far (p := ⟨gb354, 3, none⟩) (Kd.S_far (p := ⟨gb354, 2, none⟩) (Kd.S_far (p := ⟨gb354, 1, none⟩) (Kd.S_far (p := ⟨gb354, 0, none⟩) (Kd.S_far (p := ⟨gb353, 2, none⟩) (Kd.S_types (Kd.S_types HO357.out BK353.out (by decide)) BK354.out (by decide)) (fun _ hk => hk.1.2) (.slice Ao16 t361.length co16)) (fun _ hk => hk.2) (.slice Ao10 t355.length co10)) (fun _ hk => hk.2) (.slice Ao13 t358.length co13)) (fun _ hk => hk.2) (.slice Ao16 t361.length co16)) (fun _ hk => hk.2) (.int .i64 a0_3)) (fun _ hk => hk.2) (.int .i64 a0_4)) (fun _ hk => ⟨hk.1.1.1.2, hk.1.1.2⟩), by (with_reducible repeat (first | apply Kd.R_alloc | apply Kd.R_drewN | apply Kd.R_drew)); exact Kd.R_mono (Kd.R_far (p := ⟨gb354, 4, none⟩) (Kd.R_far (p := ⟨gb354, 3, none⟩) (Kd.R_far (p := ⟨gb354, 2, none⟩) (Kd.R_far (p := ⟨gb354, 1, none⟩) (Kd.R_far (p := ⟨gb354, 0, none⟩) (Kd.R_far (p := ⟨gb353, 2, none⟩) (Kd.R_types (Kd.R_types HO360.out BK353.out (by decide)) BK354.out (by decide)) (fun _ hk => hk.1.2) (.slice Ao16 t361.length co16)) (fun _ hk => hk.2) (.slice Ao10 t355.length co10)) (fun _ hk => hk.2) (.slice Ao13 t358.length co13)) (fun _ hk => hk.2) (.slice Ao16 t361.length co16)) (fun _ hk => hk.2) (.int .i64 a0_3)) (fun _ hk => hk.2) (.int .i64 a0_4)) (fun _ hk => hk.1.1.2), by (with_reducible repeat (first | apply Kd.R_alloc | apply Kd.R_drewN | apply Kd.R_drew)); exact Kd.R_mono (Kd.R_far (p := ⟨gb354, 4, none⟩) (Kd.R_far (p := ⟨gb354, 3, none⟩) (Kd.R_far (p := ⟨gb354, 2, none⟩) (Kd.R_far (p := ⟨gb354, 1, none⟩) (Kd.R_far (p := ⟨gb354, 0, none⟩) (Kd.R_far (p := ⟨gb353, 2, none⟩) (Kd.R_types (Kd.R_types HO363.out BK353.out (by decide)) BK354.out (by decide)) (fun _ hk => hk.1.2) (.slice Ao16 t361.length co16)) (fun _ hk => hk.2) (.slice Ao10 t355.length co10)) (fun _ hk => hk.2) (.slice Ao13 t358.length co13)) (fun _ hk => hk.2) (.slice Ao16 t361.length co16)) (fun _ hk => hk.2) (.int .i64 a0_3)) (fun _ hk => hk.2) (.int .i64 a0_4)) (fun _ hk => hk.1.1.2), ba_⟩
def impl_inRange.f (a0 : Int) (a1 : Int) (a2 : Int) : Option (Bool) := if a0 ≥ a1 then (some (decide (a0 ≤ a2))) else (some false)
theorem impl_inRange.calls (a0 : Int) (a1 : Int) (a2 : Int) (r : Bool) (w : World) (h : impl_inRange.f a0 a1 a2 = some r) :
  Calls Tryz.prog 87 #[.int .i64 a0, .int .i64 a1, .int .i64 a2] w fun e w' => e = .returned (.bool r) ∧ Drawn0 w w' := by
 have H : (if a0 ≥ a1 then (some (decide (a0 ≤ a2))) else (some false)) = some r := h
 clear h
 by_cases c4 : a0 ≥ a1
 ·rw [if_pos c4] at H
  have c4b0 : decide (a1 ≤ a0) = true := decide_eq_true c4
  clear c4
  obtain rfl := Option.some.inj H
  go_enter Tryz.func87, Tryz.ntmps87
  go_wp2
  go_ret
  exact ⟨ab6, by repeat (first | exact Drawn0.refl _ | apply Drawn0.step)⟩
 ·rw [if_neg c4] at H
  have c4b0 : decide (a1 ≤ a0) = false := decide_eq_false c4
  clear c4
  obtain rfl := Option.some.inj H
  go_enter Tryz.func87, Tryz.ntmps87
  go_wp2
  go_ret
  exact ⟨ab6, by repeat (first | exact Drawn0.refl _ | apply Drawn0.step)⟩
/-- A state of type 31 at block g of W; what its slices lead to came in by w0. -/
def IsS31 (w0 W : World) (g : Nat) (f0 : List (S53)) (f1 : List Int) (f2 : List Int) (f3 : Int) (f4 : Int) : Prop := ∃ A0 c0, ∃ A1 c1, ∃ A2 c2, W.heap[g]? = some (.cells #[.slice A0 f0.length c0, .slice A1 f1.length c1, .slice A2 f2.length c2, .int .i64 f3, .int .i64 f4] 31 (0, 0)) ∧ (True ∧ f0.length ≤ c0 ∧ f1.length ≤ c1 ∧ f2.length ≤ c2) ∧ Kd.C k53 w0 A0 f0.length f0 ∧ Kd.C (Kd.int .i64) w0 A1 f1.length f1 ∧ Kd.C (Kd.int .i64) w0 A2 f2.length f2
theorem IsS31.grown {w0 W : World} {g : Nat} {f0 : List (S53)} {f1 : List Int} {f2 : List Int} {f3 : Int} {f4 : Int} {W1 : World} {row : Option Nat} (h : IsS31 w0 W g f0 f1 f2 f3 f4) (hw : W.grownBy W1 row) (hne : some g ≠ row) : IsS31 w0 W1 g f0 f1 f2 f3 f4 := by
 obtain ⟨A0, c0, A1, c1, A2, c2, hb, hg, hr0, hr1, hr2⟩ := h
 exact ⟨A0, c0, A1, c1, A2, c2, blk_grown hb hw hne, hg, hr0, hr1, hr2⟩
theorem IsS31.below {w0 W : World} {g : Nat} {f0 : List (S53)} {f1 : List Int} {f2 : List Int} {f3 : Int} {f4 : Int} {W1 : World} (h : IsS31 w0 W g f0 f1 f2 f3 f4) (hw : Below W.heap.size W W1) : IsS31 w0 W1 g f0 f1 f2 f3 f4 := h.grown (grown_of_below hw none) (by simp)
theorem IsS31.drewN {w0 W : World} {g : Nat} {f0 : List (S53)} {f1 : List Int} {f2 : List Int} {f3 : Int} {f4 : Int} (h : IsS31 w0 W g f0 f1 f2 f3 f4) (m : Nat) : IsS31 w0 (W.drewN m) g f0 f1 f2 f3 f4 := h
theorem IsS31.ne_blk {w0 W : World} {g : Nat} {f0 : List (S53)} {f1 : List Int} {f2 : List Int} {f3 : Int} {f4 : Int} {a : Nat} {cs : Array Value} {t : TypeId} {fr : Nat × Nat} (h : IsS31 w0 W g f0 f1 f2 f3 f4) (hb2 : W.heap[a]? = some (.cells cs t fr)) (ht : t ≠ 31) : g ≠ a := by
 obtain ⟨A0, c0, A1, c1, A2, c2, hb, hg, hr0, hr1, hr2⟩ := h
 rintro rfl
 rw [hb] at hb2
 injection hb2 with hb2
 injection hb2 with _ ht2
 exact ht ht2.symm
theorem cellS31_1 {W : World} {g : Nat} {A0 : Option Addr} {c0 : Nat} {A1 : Option Addr} {c1 : Nat} {A2 : Option Addr} {c2 : Nat} {f0 : List (S53)} {f1 : List Int} {f2 : List Int} {f3 : Int} {f4 : Int} (h : W.heap[g]? = some (.cells #[.slice A0 f0.length c0, .slice A1 f1.length c1, .slice A2 f2.length c2, .int .i64 f3, .int .i64 f4] 31 (0, 0))) : W.cell? ⟨g, 1, none⟩ = some (.slice A1 f1.length c1) := (blk_cell h 1).trans rfl
def impl_Page_isTag.f (s0_0 : List (S53)) (s0_1 : List Int) (s0_2 : List Int) (s0_3 : Int) (s0_4 : Int) (a1 : Int) : Option (Bool × Int × Int) := (impl_inRange.f a1 0 (wrap64 ((s0_0.length : Int) - 1))).bind fun t364 => (if t364 = true then (if 0 ≤ a1 then (if a1 < (s0_0.length : Int) then (some ((((rd_T53 s0_0 a1).f0) == 2), s0_3, s0_4)) else (none)) else (none)) else (some (false, s0_3, s0_4)))
theorem impl_Page_isTag.calls (g : Nat) (s0_0 : List (S53)) (s0_1 : List Int) (s0_2 : List Int) (s0_3 : Int) (s0_4 : Int) (a1 : Int) (r1 : Bool) (r2 : Int) (r3 : Int) (w0 w : World) (hI : IsS31 w0 w g s0_0 s0_1 s0_2 s0_3 s0_4) (hB : Below w0.heap.size w0 w) (h : impl_Page_isTag.f s0_0 s0_1 s0_2 s0_3 s0_4 a1 = some (r1, r2, r3)) :
  Calls Tryz.prog 61 #[.pointer (some ⟨g, 0, none⟩), .int .i64 a1] w fun e w' => e = .returned (.bool r1) ∧ IsS31 w0 w' g s0_0 s0_1 s0_2 r2 r3 ∧ Below w0.heap.size w0 w' ∧ KeepBut w w' g none := by
 have HI0 := am hI
 have HK := am (KeepBut.refl w g none)
 have HL := am hB.size
 clear hI
 have HW0 := am hB.size
 have HB := am hB
 clear hB
 have H : ((impl_inRange.f a1 0 (wrap64 ((s0_0.length : Int) - 1))).bind fun t364 => (if t364 = true then (if 0 ≤ a1 then (if a1 < (s0_0.length : Int) then (some ((((rd_T53 s0_0 a1).f0) == 2), s0_3, s0_4)) else (none)) else (none)) else (some (false, s0_3, s0_4)))) = some (r1, r2, r3) := h
 clear h
 replace H := bi_ H; obtain ⟨t364, A3, H⟩ := H
 replace H := ib_ H; rcases H with ⟨rfl, H⟩ | ⟨rfl, H⟩
 ·replace H := iq_ H; obtain ⟨c5b0, H⟩ := H
  replace H := iq_ H; obtain ⟨c6b0, H⟩ := H
  simp only [Option.some.injEq, Prod.mk.injEq] at H
  obtain ⟨rfl, rfl, rfl⟩ := H
  obtain ⟨ASz7_0, cSz7_0, ASz7_1, cSz7_1, ASz7_2, cSz7_2, HGz7, hgz7, HSz7_0, HSz7_1, HSz7_2⟩ := HI0.out
  obtain ⟨⟨_, _, _, _, _⟩, _, _, _, _, _⟩ := Op.cells5 HGz7
  clear HGz7 hgz7
  go_enter Tryz.func61, Tryz.ntmps61
  go_wp2_with (first | ((with_reducible refine gf_ 87 ?_); refine gc_ Tryz.func87 (impl_inRange.calls a1 0 (wrap64 ((s0_0.length : Int) - 1)) true _ A3.out) ?_; rintro w' ⟨nd, rfl⟩; have p365 : 0 ≤ (a1 : Int) := of_decide_eq_true ab4; have q365 : a1 < (s0_0.length : Int) := of_decide_eq_true ab4; obtain ⟨ad365, A365_3, c365_3, A365_6, c365_6, e365, hx365_0, hx365_1, hx365_2, hx365_3, hx365_4, hx365_5, hx365_6, hl365_3, hi365_3, hl365_6, hi365_6⟩ := at_T53 HSz7_0 a1 p365 q365; cases e365; replace hx365_0 := pc_ HB hx365_0; replace hx365_1 := pc_ HB hx365_1; replace hx365_2 := pc_ HB hx365_2; replace hx365_3 := pc_ HB hx365_3; replace hx365_4 := pc_ HB hx365_4; replace hx365_5 := pc_ HB hx365_5; replace hx365_6 := pc_ HB hx365_6; have HR365_3 := am hi365_3; have HC365_3 := am hl365_3; clear hi365_3 hl365_3; have HR365_6 := am hi365_6; have HC365_6 := am hl365_6; clear hi365_6 hl365_6; replace p365 := eq_true p365; replace q365 := eq_true q365))
  go_ret
  exact ⟨ab7, by repeat (first | (with_reducible first | exact HI0.out | apply IsS31.alloc | apply IsS31.drewN | apply IsS31.drew | apply IsS31.set_3 | apply IsS31.set_4) | exact HI0.out), ab1, by repeat (first | (with_reducible first | exact HK.out | apply KeepBut.set_ | apply keep_drewN | apply keep_drew | apply keep_alloc) | exact HK.out)⟩
 ·simp only [Option.some.injEq, Prod.mk.injEq] at H
  obtain ⟨rfl, rfl, rfl⟩ := H
  obtain ⟨ASz8_0, cSz8_0, ASz8_1, cSz8_1, ASz8_2, cSz8_2, HGz8, hgz8, HSz8_0, HSz8_1, HSz8_2⟩ := HI0.out
  obtain ⟨⟨_, _, _, _, _⟩, _, _, _, _, _⟩ := Op.cells5 HGz8
  clear HGz8 hgz8
  go_enter Tryz.func61, Tryz.ntmps61
  go_wp2_with (first | ((with_reducible refine gf_ 87 ?_); refine gc_ Tryz.func87 (impl_inRange.calls a1 0 (wrap64 ((s0_0.length : Int) - 1)) false _ A3.out) ?_; rintro w' ⟨nd, rfl⟩))
  go_ret
  exact ⟨ab7, by repeat (first | (with_reducible first | exact HI0.out | apply IsS31.alloc | apply IsS31.drewN | apply IsS31.drew | apply IsS31.set_3 | apply IsS31.set_4) | exact HI0.out), ab1, by repeat (first | (with_reducible first | exact HK.out | apply KeepBut.set_ | apply keep_drewN | apply keep_drew | apply keep_alloc) | exact HK.out)⟩
def slices_Index_int_int.l0 : Nat → List Int → Int → Int → Int → Option (Int)
 | 0, _, _, _, _ => none
 | k + 1, x0, x1, x7, x8 => if x8 < x7 then (if 0 ≤ x8 then (if x8 < (x0.length : Int) then (if x1 = (rd x0 x8) then (some x8) else (slices_Index_int_int.l0 k x0 x1 x7 (wrap64 (x8 + 1)))) else (none)) else (none)) else (some (-1))
def slices_Index_int_int.f (k : Nat) (l0 : List Int) (a1 : Int) : Option (Int) := slices_Index_int_int.l0 k l0 a1 (l0.length : Int) 0
theorem slices_Index_int_int.calls (k : Nat) (A0 : Option Addr) (c0 : Nat) (l0 : List Int) (a1 : Int) (r : Int) (w : World) (hr0 : Kd.C (Kd.int .i64) w A0 l0.length l0) (hc0 : l0.length ≤ c0) (h : slices_Index_int_int.f k l0 a1 = some r) :
  Calls Tryz.prog 62 #[.slice A0 l0.length c0, .int .i64 a1] w fun e w' => e = .returned (.int .i64 r) ∧ Drawn0 w w' := by
 have HR0 := am hr0
 have HC0 := am hc0
 clear hr0 hc0
 have H : (slices_Index_int_int.l0 k l0 a1 (l0.length : Int) 0) = some r := h
 clear h
 have H' := am H
 clear H
 go_enter Tryz.func62, Tryz.ntmps62
 go_wp2
 go_loopg [8] k (fun kq v8 w' => ∃ (x8_1 : Int), v8 = .int .i64 x8_1 ∧ Aside0 (slices_Index_int_int.l0 kq l0 a1 (l0.length : Int) x8_1 = some r) ∧ Aside0 (kq ≤ k) ∧ Drawn0 w w')
 case atStart => exact ⟨(0), ab6, H', ⟨Nat.le_refl _⟩, by repeat (first | exact Drawn0.refl _ | apply Drawn0.step)⟩
 case round =>
  clear H'
  try clear p2
  obtain ⟨x8_1, rfl, HA, HK1, ⟨m1, rfl⟩⟩ := hrel
  cases gk with
  | zero => exact absurd HA.out (by simp [slices_Index_int_int.l0])
  | succ k1 =>
   have H := HA.out
   clear HA
   simp only [slices_Index_int_int.l0] at H
   replace H := ir_ H; rcases H with ⟨c3b0, H⟩ | ⟨c3b0, H⟩
   ·replace H := iq_ H; obtain ⟨c4b0, H⟩ := H
    replace H := iq_ H; obtain ⟨c5b0, H⟩ := H
    replace H := ie_ H; rcases H with ⟨c6b0, c6b1, H⟩ | ⟨c6, c6b0, c6b1, H⟩
    ·obtain rfl := Option.some.inj H
     have p366 : 0 ≤ (x8_1 : Int) := of_decide_eq_true ab4
     have q366 : x8_1 < (l0.length : Int) := of_decide_eq_true ab4
     obtain ⟨ad366, e366, hx366_0⟩ := Kd.at_int HR0.out x8_1 p366 q366
     cases e366
     replace p366 := eq_true p366
     replace q366 := eq_true q366
     go_wp2
     go_ret
     exact ⟨ab6, by repeat (first | exact Drawn0.refl _ | apply Drawn0.step)⟩
    ·have H' := am H
     clear H
     have p366 : 0 ≤ (x8_1 : Int) := of_decide_eq_true ab4
     have q366 : x8_1 < (l0.length : Int) := of_decide_eq_true ab4
     obtain ⟨ad366, e366, hx366_0⟩ := Kd.at_int HR0.out x8_1 p366 q366
     cases e366
     replace p366 := eq_true p366
     replace q366 := eq_true q366
     go_wp2
     go_roundg k1
     case measure => have := HK1.out; omega
     case rel => exact ⟨(wrap64 (x8_1 + 1)), ab6, H', ⟨by have := HK1.out; omega⟩, by repeat (first | exact Drawn0.refl _ | apply Drawn0.step)⟩
   ·obtain rfl := Option.some.inj H
    go_wp2
    go_ret
    exact ⟨ab6, by repeat (first | exact Drawn0.refl _ | apply Drawn0.step)⟩
def impl_Page_hasRoom.f (s0_0 : List (S53)) (s0_1 : List Int) (s0_2 : List Int) (s0_3 : Int) (s0_4 : Int) : Option (Bool × Int × Int) := some (decide ((s0_0.length : Int) < 3000), s0_3, s0_4)
theorem impl_Page_hasRoom.calls (g : Nat) (s0_0 : List (S53)) (s0_1 : List Int) (s0_2 : List Int) (s0_3 : Int) (s0_4 : Int) (r1 : Bool) (r2 : Int) (r3 : Int) (w0 w : World) (hI : IsS31 w0 w g s0_0 s0_1 s0_2 s0_3 s0_4) (hB : Below w0.heap.size w0 w) (h : impl_Page_hasRoom.f s0_0 s0_1 s0_2 s0_3 s0_4 = some (r1, r2, r3)) :
  Calls Tryz.prog 97 #[.pointer (some ⟨g, 0, none⟩)] w fun e w' => e = .returned (.bool r1) ∧ IsS31 w0 w' g s0_0 s0_1 s0_2 r2 r3 ∧ Below w0.heap.size w0 w' ∧ KeepBut w w' g none := by
 have HI0 := am hI
 have HK := am (KeepBut.refl w g none)
 have HL := am hB.size
 clear hI
 have HW0 := am hB.size
 have HB := am hB
 clear hB
 have H : (some (decide ((s0_0.length : Int) < 3000), s0_3, s0_4)) = some (r1, r2, r3) := h
 clear h
 simp only [Option.some.injEq, Prod.mk.injEq] at H
 obtain ⟨rfl, rfl, rfl⟩ := H
 obtain ⟨ASz2_0, cSz2_0, ASz2_1, cSz2_1, ASz2_2, cSz2_2, HGz2, hgz2, HSz2_0, HSz2_1, HSz2_2⟩ := HI0.out
 obtain ⟨⟨_, _, _, _, _⟩, _, _, _, _, _⟩ := Op.cells5 HGz2
 clear HGz2 hgz2
 go_enter Tryz.func97, Tryz.ntmps97
 go_wp2
 go_ret
 exact ⟨ab7, by repeat (first | (with_reducible first | exact HI0.out | apply IsS31.alloc | apply IsS31.drewN | apply IsS31.drew | apply IsS31.set_3 | apply IsS31.set_4) | exact HI0.out), ab1, by repeat (first | (with_reducible first | exact HK.out | apply KeepBut.set_ | apply keep_drewN | apply keep_drew | apply keep_alloc) | exact HK.out)⟩
def laws_eqAttr.f (a0_0 : ByteArray) (a0_1 : ByteArray) (a1_0 : ByteArray) (a1_1 : ByteArray) : Option (Bool) := if a0_0.toList = a1_0.toList then (if a0_1.toList = a1_1.toList then (some true) else (some false)) else (some false)
theorem laws_eqAttr.calls (a0_0 : ByteArray) (a0_1 : ByteArray) (a1_0 : ByteArray) (a1_1 : ByteArray) (r : Bool) (w : World) (h : laws_eqAttr.f a0_0 a0_1 a1_0 a1_1 = some r) :
  Calls Tryz.prog 37 #[.agg #[.string a0_0, .string a0_1], .agg #[.string a1_0, .string a1_1]] w fun e w' => e = .returned (.bool r) ∧ Below w.heap.size w w' := by
 have hu56 := Tryz.underlying56
 have HB := am (Below.refl w.heap.size w)
 have H : (if a0_0.toList = a1_0.toList then (if a0_1.toList = a1_1.toList then (some true) else (some false)) else (some false)) = some r := h
 clear h
 replace H := ie_ H; rcases H with ⟨c3b0, c3b1, H⟩ | ⟨c3, c3b0, c3b1, H⟩
 ·replace H := ie_ H; rcases H with ⟨c4b0, c4b1, H⟩ | ⟨c4, c4b0, c4b1, H⟩
  ·obtain rfl := Option.some.inj H
   go_enter Tryz.func37, Tryz.ntmps37
   go_wp2_with (first | ((with_reducible refine gd_ 2 ?_); refine bx_ 2 (cs := #[.string a0_0, .string a0_1]) 56 ?_; intro gb489 hg w5 hbox hb; have BK489 := am hbox; have GW489 := ge_ (w := w) hg; have GE489 := ge_ (w := w) hg; replace HB := am (below_step ab1 hb); clear hb hbox hg) | ((with_reducible refine gd_ 3 ?_); refine bx_ 3 (cs := #[.string a1_0, .string a1_1]) 56 ?_; intro gb490 hg w6 hbox hb; have BK490 := am hbox; have GW490 := gE_ (w := w) GE489 hg; have GE490 := gE_ (w := w) GE489 hg; replace HB := am (below_step (ab2 GE489) hb); have NB489_490 := nl_ BK489 hg; have NB490_489 := ng_ BK489 hg; replace BK489 := bl_ BK489 hb; clear hb hbox hg; have hnb7 := NB489_490.out; have hnc7 := NB490_489.out; obtain ⟨⟨_, _⟩, _, _⟩ := Op.cells2 BK489.out; obtain ⟨⟨_, _⟩, _, _⟩ := Op.cells2 BK490.out))
   go_ret
   exact ⟨ab7, ba_⟩
  ·obtain rfl := Option.some.inj H
   go_enter Tryz.func37, Tryz.ntmps37
   go_wp2_with (first | ((with_reducible refine gd_ 2 ?_); refine bx_ 2 (cs := #[.string a0_0, .string a0_1]) 56 ?_; intro gb489 hg w10 hbox hb; have BK489 := am hbox; have GW489 := ge_ (w := w) hg; have GE489 := ge_ (w := w) hg; replace HB := am (below_step ab1 hb); clear hb hbox hg) | ((with_reducible refine gd_ 3 ?_); refine bx_ 3 (cs := #[.string a1_0, .string a1_1]) 56 ?_; intro gb490 hg w11 hbox hb; have BK490 := am hbox; have GW490 := gE_ (w := w) GE489 hg; have GE490 := gE_ (w := w) GE489 hg; replace HB := am (below_step (ab2 GE489) hb); have NB489_490 := nl_ BK489 hg; have NB490_489 := ng_ BK489 hg; replace BK489 := bl_ BK489 hb; clear hb hbox hg; have hnb12 := NB489_490.out; have hnc12 := NB490_489.out; obtain ⟨⟨_, _⟩, _, _⟩ := Op.cells2 BK489.out; obtain ⟨⟨_, _⟩, _, _⟩ := Op.cells2 BK490.out))
   go_ret
   exact ⟨ab7, ba_⟩
 ·obtain rfl := Option.some.inj H
  go_enter Tryz.func37, Tryz.ntmps37
  go_wp2_with (first | ((with_reducible refine gd_ 2 ?_); refine bx_ 2 (cs := #[.string a0_0, .string a0_1]) 56 ?_; intro gb489 hg w15 hbox hb; have BK489 := am hbox; have GW489 := ge_ (w := w) hg; have GE489 := ge_ (w := w) hg; replace HB := am (below_step ab1 hb); clear hb hbox hg) | ((with_reducible refine gd_ 3 ?_); refine bx_ 3 (cs := #[.string a1_0, .string a1_1]) 56 ?_; intro gb490 hg w16 hbox hb; have BK490 := am hbox; have GW490 := gE_ (w := w) GE489 hg; have GE490 := gE_ (w := w) GE489 hg; replace HB := am (below_step (ab2 GE489) hb); have NB489_490 := nl_ BK489 hg; have NB490_489 := ng_ BK489 hg; replace BK489 := bl_ BK489 hb; clear hb hbox hg; have hnb17 := NB489_490.out; have hnc17 := NB490_489.out; obtain ⟨⟨_, _⟩, _, _⟩ := Op.cells2 BK489.out; obtain ⟨⟨_, _⟩, _, _⟩ := Op.cells2 BK490.out))
  go_ret
  exact ⟨ab7, ba_⟩
def laws_eqAttrS.l0 : Nat → List (S56) → List (S56) → Int → Option (Bool)
 | 0, _, _, _ => none
 | k + 1, x0, x1, x5 => if x5 < (x0.length : Int) then (if 0 ≤ x5 then (if x5 < (x1.length : Int) then ((laws_eqAttr.f ((rd_T56 x0 x5).f0) ((rd_T56 x0 x5).f1) ((rd_T56 x1 x5).f0) ((rd_T56 x1 x5).f1)).bind fun t493 => (if t493 = true then (laws_eqAttrS.l0 k x0 x1 (wrap64 (x5 + 1))) else (some false))) else (none)) else (none)) else (some true)
def laws_eqAttrS.f (k : Nat) (l0 : List (S56)) (l1 : List (S56)) : Option (Bool) := if (l0.length : Int) = (l1.length : Int) then (laws_eqAttrS.l0 k l0 l1 0) else (some false)
def laws_eqAttrS.T6 : Bool × List (List Nat × List Nat) := (true, [([], []), ([], []), ([0, 1], [0, 1]), ([2], [2]), ([], []), ([], []), ([4, 5], [4, 5]), ([6], [6]), ([3, 7], [3, 7]), ([8], [8])])
def laws_eqAttrS.B6 : List Nat := [0, 0, 3, 7, 0, 0, 48, 112, 255, 511]
theorem laws_eqAttrS.tab6 : rtab .any (opsOf Tryz.f13 6) = laws_eqAttrS.T6 := by kernel_rfl
theorem laws_eqAttrS.bits6 : waitsOk laws_eqAttrS.T6.2 laws_eqAttrS.B6 = true := by kernel_rfl
theorem laws_eqAttrS.calls (k : Nat) (A0 : Option Addr) (c0 : Nat) (l0 : List (S56)) (A1 : Option Addr) (c1 : Nat) (l1 : List (S56)) (r : Bool) (w : World) (hr0 : Kd.C k56 w A0 l0.length l0) (hc0 : l0.length ≤ c0) (hr1 : Kd.C k56 w A1 l1.length l1) (hc1 : l1.length ≤ c1) (h : laws_eqAttrS.f k l0 l1 = some r) :
  Calls Tryz.prog 13 #[.slice A0 l0.length c0, .slice A1 l1.length c1] w fun e w' => e = .returned (.bool r) ∧ Below w.heap.size w w' := by
 have hu56 := Tryz.underlying56
 have HR0 := am hr0
 have HC0 := am hc0
 clear hr0 hc0
 have HR1 := am hr1
 have HC1 := am hc1
 clear hr1 hc1
 have HB := am (Below.refl w.heap.size w)
 have H : (if (l0.length : Int) = (l1.length : Int) then (laws_eqAttrS.l0 k l0 l1 0) else (some false)) = some r := h
 clear h
 by_cases c3 : (l0.length : Int) = (l1.length : Int)
 ·rw [if_pos c3] at H
  have c3b0 : ((l0.length : Int) == (l1.length : Int)) = true := beq_iff_eq.mpr c3
  have c3b1 : ((l0.length : Int) != (l1.length : Int)) = false := bne_eq_false_iff_eq.mpr c3
  have c3b2 : (l0.length == l1.length) = true := by first | simpa using c3 | (simp at c3 ⊢; omega)
  clear c3
  have H' := am H
  clear H
  go_enter Tryz.func13, Tryz.ntmps13
  go_wp2
  go_loopg [5] k (fun kq v5 w' => ∃ (x5_1 : Int), v5 = .int .i64 x5_1 ∧ Aside0 (laws_eqAttrS.l0 kq l0 l1 x5_1 = some r) ∧ Aside0 (kq ≤ k) ∧ Aside0 (Below w.heap.size w w'))
  case atStart => exact ⟨(0), ab6, H', ⟨Nat.le_refl _⟩, ⟨ab1⟩⟩
  case round =>
   clear H'
   (try clear c1); (try clear p2); (try clear c3); (try clear c3b0); (try clear c3b1); (try clear c3b2)
   obtain ⟨x5_1, rfl, HA, HK1, HB⟩ := hrel
   cases gk with
   | zero => exact absurd HA.out (by simp [laws_eqAttrS.l0])
   | succ k1 =>
    have H := HA.out
    clear HA
    simp only [laws_eqAttrS.l0] at H
    replace H := ir_ H; rcases H with ⟨c4b0, H⟩ | ⟨c4b0, H⟩
    ·replace H := iq_ H; obtain ⟨c5b0, H⟩ := H
     replace H := iq_ H; obtain ⟨c6b0, H⟩ := H
     replace H := bi_ H; obtain ⟨t493, A7, H⟩ := H
     replace H := ib_ H; rcases H with ⟨rfl, H⟩ | ⟨rfl, H⟩
     ·have H' := am H
      clear H
      try go_wp2
      replace HB := am (below_drew1 HB.out)
      obtain ⟨p491, q491, ad491, rfl, hx491_0, hx491_1, hw491⟩ := osT56 HB HR0.out x5_1 (of_decide_eq_true ab4) (of_decide_eq_true ab4)
      obtain ⟨p492, q492, ad492, rfl, hx492_0, hx492_1, hw492⟩ := osT56 HB HR1.out x5_1 (of_decide_eq_true ab4) (of_decide_eq_true ab4)
      refine start_ (n := 10) (ds := []) #[false, false, false, false, false, false, false, false, false, false] (by kernel_rfl) rfl rfl (spT56 HB hw491 (spT56 HB hw492 tr_ :) :) (fun hHeld => ?_); refine with_tabW laws_eqAttrS.tab6 laws_eqAttrS.bits6 (fun HT_ HW_ => ?_)
      generalize wr.drew = w9 at HB hx491_0 hx491_1 hx492_0 hx492_1 hHeld ⊢
      refine pa_ 0 17 HT_ ?_
      refine pa_ 1 18 HT_ ?_
      refine pa_ 2 19 HT_ ?_
      refine pa_ 4 21 HT_ ?_
      refine pa_ 5 22 HT_ ?_
      refine pa_ 6 23 HT_ ?_
      refine tk_ 3 20 HT_ HW_ hHeld ?_
      refine tk_ 7 24 HT_ HW_ hHeld ?_
      refine on_ 8 25 HT_ fun K hK => ?_
      refine goes_ Tryz.func37 (by kernel_rfl) rfl #[.agg #[.string ((rd_T56 l0 x5_1).f0), .string ((rd_T56 l0 x5_1).f1)], .agg #[.string ((rd_T56 l1 x5_1).f0), .string ((rd_T56 l1 x5_1).f1)]] (by rfl) rfl rfl ab5 ?_
      with_reducible refine (laws_eqAttr.calls ((rd_T56 l0 x5_1).f0) ((rd_T56 l0 x5_1).f1) ((rd_T56 l1 x5_1).f0) ((rd_T56 l1 x5_1).f1) true _ A7.out).mono ?_
      rintro e w10 ⟨rfl, hb⟩
      refine ⟨_, rfl, ?_⟩
      replace HB := am (below_step ab1 hb)
      (try clear hb)
      refine hK.out _ _ (spT56 HB hw491 (spT56 HB hw492 tr_ :) :) (fun hHeld => ?_)
      clear hK K
      refine nm_ ?_
      refine pa_ 9 26 HT_ ?_
      refine dn_ HT_ ?_
      try go_wp2
      go_roundg k1
      case measure => have := HK1.out; omega
      case rel => exact ⟨(wrap64 (x5_1 + 1)), ab6, H', ⟨by have := HK1.out; omega⟩, ⟨ab1⟩⟩
     ·obtain rfl := Option.some.inj H
      try go_wp2
      replace HB := am (below_drew1 HB.out)
      obtain ⟨p491, q491, ad491, rfl, hx491_0, hx491_1, hw491⟩ := osT56 HB HR0.out x5_1 (of_decide_eq_true ab4) (of_decide_eq_true ab4)
      obtain ⟨p492, q492, ad492, rfl, hx492_0, hx492_1, hw492⟩ := osT56 HB HR1.out x5_1 (of_decide_eq_true ab4) (of_decide_eq_true ab4)
      refine start_ (n := 10) (ds := []) #[false, false, false, false, false, false, false, false, false, false] (by kernel_rfl) rfl rfl (spT56 HB hw491 (spT56 HB hw492 tr_ :) :) (fun hHeld => ?_); refine with_tabW laws_eqAttrS.tab6 laws_eqAttrS.bits6 (fun HT_ HW_ => ?_)
      generalize wr.drew = w11 at HB hx491_0 hx491_1 hx492_0 hx492_1 hHeld ⊢
      refine pa_ 0 17 HT_ ?_
      refine pa_ 1 18 HT_ ?_
      refine pa_ 2 19 HT_ ?_
      refine pa_ 4 21 HT_ ?_
      refine pa_ 5 22 HT_ ?_
      refine pa_ 6 23 HT_ ?_
      refine tk_ 3 20 HT_ HW_ hHeld ?_
      refine tk_ 7 24 HT_ HW_ hHeld ?_
      refine on_ 8 25 HT_ fun K hK => ?_
      refine goes_ Tryz.func37 (by kernel_rfl) rfl #[.agg #[.string ((rd_T56 l0 x5_1).f0), .string ((rd_T56 l0 x5_1).f1)], .agg #[.string ((rd_T56 l1 x5_1).f0), .string ((rd_T56 l1 x5_1).f1)]] (by rfl) rfl rfl ab5 ?_
      with_reducible refine (laws_eqAttr.calls ((rd_T56 l0 x5_1).f0) ((rd_T56 l0 x5_1).f1) ((rd_T56 l1 x5_1).f0) ((rd_T56 l1 x5_1).f1) false _ A7.out).mono ?_
      rintro e w12 ⟨rfl, hb⟩
      refine ⟨_, rfl, ?_⟩
      replace HB := am (below_step ab1 hb)
      (try clear hb)
      refine hK.out _ _ (spT56 HB hw491 (spT56 HB hw492 tr_ :) :) (fun hHeld => ?_)
      clear hK K
      refine nm_ ?_
      refine pa_ 9 26 HT_ ?_
      refine dn_ HT_ ?_
      try go_wp2
      go_ret
      exact ⟨ab7, ab1⟩
    ·obtain rfl := Option.some.inj H
     go_wp2
     go_ret
     exact ⟨ab7, ab1⟩
 ·rw [if_neg c3] at H
  have c3b0 : ((l0.length : Int) == (l1.length : Int)) = false := beq_eq_false_iff_ne.mpr c3
  have c3b1 : ((l0.length : Int) != (l1.length : Int)) = true := bne_iff_ne.mpr c3
  have c3b2 : (l0.length == l1.length) = false := by first | simpa using c3 | (simp at c3 ⊢; omega)
  obtain rfl := Option.some.inj H
  go_enter Tryz.func13, Tryz.ntmps13
  go_wp2
  go_ret
  exact ⟨ab7, ab1⟩
end Go.Proofs.YtekkalnafngfeaaGreat.P
