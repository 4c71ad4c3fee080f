-- WRITTEN BY this session's own programs
import Derived.Test.YtekkalnafngfeaaProg
import Derived.Test.YtekkalnafngfeaaVPiOp1
import Derived.Below
import Derived.Deep.Draws
import Derived.Deep.AppendLies
import Derived.Maps.AppendAt
import Derived.OwnWalk
import Derived.Laws.BytesArg
import Derived.Laws.MakeOwn
import Derived.Laws.OwnMore
import Derived.Deep.OwnRows
import Derived.Tactics
import Derived.Lib.ConvBytes
import Derived.Laws.Slices
import Derived.WalkKit
import Derived.KernelRfl
import Derived.RowKit3
import Derived.Deep.LoopGhost
import Derived.Deep.QuietTactic
import Derived.BigQuiet
import Derived.WideLaws
import Derived.Deep.DeepCutAuto
import Derived.Deep.CutBlock
import Derived.Deep.RegionHeld3
import Derived.Laws.Rows
import Derived.Lib.AppendStr
import Derived.ArgAppend
import Derived.Laws.IdiomCopy
import Derived.OrdersHeld
import Derived.Laws.BitsLemmas
import Derived.RowKit
import Derived.Lib.FrozenHead2
import Derived.Lib.OthersKept
import Derived.Lib.LazyBuf
import Derived.Test.YtekkalnafngfeaaShelf
import Derived.Test.YtekkalnafngfeaaVPiw
namespace Go.Proofs.Ytekkalnafngfeaa.P
open Go.RowKit Go.Proofs.YtekkalnafngfeaaW.PrintWords Go.Proofs.YtekkalnafngfeaaW.PrintLast Go.Proofs.YtekkalnafngfeaaW.PrintMore
set_option linter.unusedVariables false
set_option linter.unusedSimpArgs false
set_option maxHeartbeats 8000000
set_option maxRecDepth 100000
attribute [local go_sem] max2_int min2_int max_two min_two max_three min_three max_four min_four
theorem info3 : (Try.prog.info? 3).map (fun i => (i.zero, i.size, i.bytes)) = some (some (.int .i64 0), 1, 8) := by kernel_rfl
theorem info38 : (Try.prog.info? 38).map (fun i => (i.zero, i.size, i.bytes)) = some (some (.agg #[(.int .i64 0), (.int .i64 0), (.string ⟨#[]⟩), (.slice none 0 0), (.string ⟨#[]⟩), (.int .i64 0), (.slice none 0 0)]), 7, 104) := by kernel_rfl
theorem info69 : (Try.prog.info? 69).map (fun i => (i.zero, i.size, i.bytes)) = some (some (.agg #[(.string ⟨#[]⟩), (.string ⟨#[]⟩)]), 2, 32) := by kernel_rfl
structure S63 where
 f0 : ByteArray
 f1 : ByteArray
def z63 : S63 := ⟨(⟨#[]⟩ : ByteArray), (⟨#[]⟩ : ByteArray)⟩
def k63 : Kd S63 := Kd.iso (Kd.pair Kd.string Kd.string) (fun x : S63 => (x.f0, x.f1))
theorem k63_open {w : World} {x : S63} {cs : List Value} (h : k63.K w x cs) : cs = [.string x.f0, .string x.f1] := by
 obtain ⟨_, _, rfl, rfl, rfl⟩ := h
 exact rfl
theorem k63_mk (w : World) (x : S63)  : k63.K w x [.string x.f0, .string x.f1] := ⟨[.string x.f0], [.string x.f1], rfl, rfl, rfl⟩
def rd_T63 (xs : List S63) (i : Int) : S63 := xs.getD i.toNat z63
theorem at_T63 {w : World} {A : Option Addr} {n : Nat} {xs : List S63} (h : Kd.C k63 w A n xs) (i : Int) (h0 : 0 ≤ i) (h1 : i < n) : ∃ ad , A = some ad ∧ w.cell? (ad.add (i.toNat * 2)) = some (.string (rd_T63 xs i).f0) ∧ w.cell? ⟨(ad.add (i.toNat * 2)).block, (ad.add (i.toNat * 2)).off + 1, none⟩ = some (.string (rd_T63 xs i).f1) := by
 obtain ⟨ad, c, e, _, hK, hc0⟩ := Kd.C_get h z63 i h0 h1
 have hc : ∀ j u, c[j]? = some u → w.cell? (ad.add (i.toNat * 2 + j)) = some u := hc0
 obtain rfl := k63_open hK
 exact ⟨ad, e, hc 0 _ rfl, by rw [← add_field _ _ 1 (by omega)]; exact hc 1 _ rfl⟩
structure S28 where
 f0 : Int
 f1 : Int
 f2 : ByteArray
 f3 : (List S63)
 f4 : ByteArray
 f5 : Int
 f6 : (List Int)
def z28 : S28 := ⟨(0 : Int), (0 : Int), (⟨#[]⟩ : ByteArray), ([] : List S63), (⟨#[]⟩ : ByteArray), (0 : Int), ([] : List Int)⟩
def k28 : Kd S28 := Kd.iso (Kd.pair (Kd.int .i64) (Kd.pair (Kd.int .i64) (Kd.pair Kd.string (Kd.pair (Kd.slice 63 k63) (Kd.pair Kd.string (Kd.pair (Kd.int .i64) (Kd.slice 3 (Kd.int .i64)))))))) (fun x : S28 => (x.f0, x.f1, x.f2, x.f3, x.f4, x.f5, x.f6))
theorem k28_open {w : World} {x : S28} {cs : List Value} (h : k28.K w x cs) : ∃ A3 c3 A6 c6, cs = [.int .i64 x.f0, .int .i64 x.f1, .string x.f2, .slice A3 x.f3.length c3, .string x.f4, .int .i64 x.f5, .slice A6 x.f6.length c6] ∧ x.f3.length ≤ c3 ∧ k63.C w A3 x.f3.length x.f3 ∧ x.f6.length ≤ c6 ∧ (Kd.int .i64).C w A6 x.f6.length x.f6 := by
 obtain ⟨_, _, rfl, rfl, ⟨_, _, rfl, rfl, ⟨_, _, rfl, rfl, ⟨_, _, rfl, ⟨A3, c3, rfl, l3, g3⟩, ⟨_, _, rfl, rfl, ⟨_, _, rfl, rfl, ⟨A6, c6, rfl, l6, g6⟩⟩⟩⟩⟩⟩⟩ := h
 exact ⟨A3, c3, A6, c6, rfl, l3, g3, l6, g6⟩
theorem k28_mk (w : World) (x : S28) {A3 : Option Addr} {c3 : Nat} (l3 : x.f3.length ≤ c3) (g3 : k63.C w A3 x.f3.length x.f3) {A6 : Option Addr} {c6 : Nat} (l6 : x.f6.length ≤ c6) (g6 : (Kd.int .i64).C w A6 x.f6.length x.f6) : k28.K w x [.int .i64 x.f0, .int .i64 x.f1, .string x.f2, .slice A3 x.f3.length c3, .string x.f4, .int .i64 x.f5, .slice A6 x.f6.length c6] := ⟨[.int .i64 x.f0], [.int .i64 x.f1, .string x.f2, .slice A3 x.f3.length c3, .string x.f4, .int .i64 x.f5, .slice A6 x.f6.length c6], rfl, rfl, ⟨[.int .i64 x.f1], [.string x.f2, .slice A3 x.f3.length c3, .string x.f4, .int .i64 x.f5, .slice A6 x.f6.length c6], rfl, rfl, ⟨[.string x.f2], [.slice A3 x.f3.length c3, .string x.f4, .int .i64 x.f5, .slice A6 x.f6.length c6], rfl, rfl, ⟨[.slice A3 x.f3.length c3], [.string x.f4, .int .i64 x.f5, .slice A6 x.f6.length c6], rfl, ⟨A3, c3, rfl, l3, g3⟩, ⟨[.string x.f4], [.int .i64 x.f5, .slice A6 x.f6.length c6], rfl, rfl, ⟨[.int .i64 x.f5], [.slice A6 x.f6.length c6], rfl, rfl, ⟨A6, c6, rfl, l6, g6⟩⟩⟩⟩⟩⟩⟩
def rd_T28 (xs : List S28) (i : Int) : S28 := xs.getD i.toNat z28
theorem at_T28 {w : World} {A : Option Addr} {n : Nat} {xs : List S28} (h : Kd.C k28 w A n xs) (i : Int) (h0 : 0 ≤ i) (h1 : i < n) : ∃ ad A3 c3 A6 c6, A = some ad ∧ w.cell? (ad.add (i.toNat * 7)) = some (.int .i64 (rd_T28 xs i).f0) ∧ w.cell? ⟨(ad.add (i.toNat * 7)).block, (ad.add (i.toNat * 7)).off + 1, none⟩ = some (.int .i64 (rd_T28 xs i).f1) ∧ w.cell? ⟨(ad.add (i.toNat * 7)).block, (ad.add (i.toNat * 7)).off + 2, none⟩ = some (.string (rd_T28 xs i).f2) ∧ w.cell? ⟨(ad.add (i.toNat * 7)).block, (ad.add (i.toNat * 7)).off + 3, none⟩ = some (.slice A3 (rd_T28 xs i).f3.length c3) ∧ w.cell? ⟨(ad.add (i.toNat * 7)).block, (ad.add (i.toNat * 7)).off + 4, none⟩ = some (.string (rd_T28 xs i).f4) ∧ w.cell? ⟨(ad.add (i.toNat * 7)).block, (ad.add (i.toNat * 7)).off + 5, none⟩ = some (.int .i64 (rd_T28 xs i).f5) ∧ w.cell? ⟨(ad.add (i.toNat * 7)).block, (ad.add (i.toNat * 7)).off + 6, none⟩ = some (.slice A6 (rd_T28 xs i).f6.length c6) ∧ (rd_T28 xs i).f3.length ≤ c3 ∧ k63.C w A3 (rd_T28 xs i).f3.length (rd_T28 xs i).f3 ∧ (rd_T28 xs i).f6.length ≤ c6 ∧ (Kd.int .i64).C w A6 (rd_T28 xs i).f6.length (rd_T28 xs i).f6 := by
 obtain ⟨ad, c, e, _, hK, hc0⟩ := Kd.C_get h z28 i h0 h1
 have hc : ∀ j u, c[j]? = some u → w.cell? (ad.add (i.toNat * 7 + j)) = some u := hc0
 obtain ⟨A3, c3, A6, c6, rfl, l3, g3, l6, g6⟩ := k28_open hK
 exact ⟨ad, A3, c3, A6, c6, e, hc 0 _ rfl, by rw [← add_field _ _ 1 (by omega)]; exact hc 1 _ rfl, by rw [← add_field _ _ 2 (by omega)]; exact hc 2 _ rfl, by rw [← add_field _ _ 3 (by omega)]; exact hc 3 _ rfl, by rw [← add_field _ _ 4 (by omega)]; exact hc 4 _ rfl, by rw [← add_field _ _ 5 (by omega)]; exact hc 5 _ rfl, by rw [← add_field _ _ 6 (by omega)]; exact hc 6 _ rfl, l3, g3, l6, g6⟩
structure S69 where
 f0 : ByteArray
 f1 : ByteArray
def z69 : S69 := ⟨(⟨#[]⟩ : ByteArray), (⟨#[]⟩ : ByteArray)⟩
def k69 : Kd S69 := Kd.iso (Kd.pair Kd.string Kd.string) (fun x : S69 => (x.f0, x.f1))
theorem k69_heap : Kd.Heap k69 := Kd.heap_iso _ (Kd.heap_pair Kd.heap_string Kd.heap_string)
theorem k69_open {w : World} {x : S69} {cs : List Value} (h : k69.K w x cs) : cs = [.string x.f0, .string x.f1] := by
 obtain ⟨_, _, rfl, rfl, rfl⟩ := h
 exact rfl
theorem k69_openM {w : World} {base : Nat} {ok : Nat → Prop} {x : S69} {cs : List Value} (h : k69.M w base ok x cs) : cs = [.string x.f0, .string x.f1] := by
 obtain ⟨_, _, rfl, rfl, rfl⟩ := h
 exact rfl
theorem k69_mkM (w : World) (base : Nat) (ok : Nat → Prop) (x : S69)  : k69.M w base ok x [.string x.f0, .string x.f1] := ⟨[.string x.f0], [.string x.f1], rfl, rfl, rfl⟩
def rd_T69 (xs : List S69) (i : Int) : S69 := xs.getD i.toNat z69
theorem at_T69 {w : World} {A : Option Addr} {n : Nat} {xs : List S69} (h : Kd.C k69 w A n xs) (i : Int) (h0 : 0 ≤ i) (h1 : i < n) : ∃ ad , A = some ad ∧ w.cell? (ad.add (i.toNat * 2)) = some (.string (rd_T69 xs i).f0) ∧ w.cell? ⟨(ad.add (i.toNat * 2)).block, (ad.add (i.toNat * 2)).off + 1, none⟩ = some (.string (rd_T69 xs i).f1) := by
 obtain ⟨ad, c, e, _, hK, hc0⟩ := Kd.C_get h z69 i h0 h1
 have hc : ∀ j u, c[j]? = some u → w.cell? (ad.add (i.toNat * 2 + j)) = some u := hc0
 obtain rfl := k69_open hK
 exact ⟨ad, e, hc 0 _ rfl, by rw [← add_field _ _ 1 (by omega)]; exact hc 1 _ rfl⟩
structure S38 where
 f0 : Int
 f1 : Int
 f2 : ByteArray
 f3 : (List S69)
 f4 : ByteArray
 f5 : Int
 f6 : (List Int)
def z38 : S38 := ⟨(0 : Int), (0 : Int), (⟨#[]⟩ : ByteArray), ([] : List S69), (⟨#[]⟩ : ByteArray), (0 : Int), ([] : List Int)⟩
def k38 : Kd S38 := Kd.iso (Kd.pair (Kd.int .i64) (Kd.pair (Kd.int .i64) (Kd.pair Kd.string (Kd.pair (Kd.slice 69 k69) (Kd.pair Kd.string (Kd.pair (Kd.int .i64) (Kd.slice 3 (Kd.int .i64)))))))) (fun x : S38 => (x.f0, x.f1, x.f2, x.f3, x.f4, x.f5, x.f6))
theorem k38_heap : Kd.Heap k38 := Kd.heap_iso _ (Kd.heap_pair (Kd.heap_int .i64) (Kd.heap_pair (Kd.heap_int .i64) (Kd.heap_pair Kd.heap_string (Kd.heap_pair (Kd.heap_slice 69 k69_heap) (Kd.heap_pair Kd.heap_string (Kd.heap_pair (Kd.heap_int .i64) (Kd.heap_slice 3 (Kd.heap_int .i64))))))))
theorem k38_open {w : World} {x : S38} {cs : List Value} (h : k38.K w x cs) : ∃ A3 c3 A6 c6, cs = [.int .i64 x.f0, .int .i64 x.f1, .string x.f2, .slice A3 x.f3.length c3, .string x.f4, .int .i64 x.f5, .slice A6 x.f6.length c6] ∧ x.f3.length ≤ c3 ∧ k69.C w A3 x.f3.length x.f3 ∧ x.f6.length ≤ c6 ∧ (Kd.int .i64).C w A6 x.f6.length x.f6 := by
 obtain ⟨_, _, rfl, rfl, ⟨_, _, rfl, rfl, ⟨_, _, rfl, rfl, ⟨_, _, rfl, ⟨A3, c3, rfl, l3, g3⟩, ⟨_, _, rfl, rfl, ⟨_, _, rfl, rfl, ⟨A6, c6, rfl, l6, g6⟩⟩⟩⟩⟩⟩⟩ := h
 exact ⟨A3, c3, A6, c6, rfl, l3, g3, l6, g6⟩
theorem k38_openM {w : World} {base : Nat} {ok : Nat → Prop} {x : S38} {cs : List Value} (h : k38.M w base ok x cs) : ∃ v3 v6, cs = [.int .i64 x.f0, .int .i64 x.f1, .string x.f2, v3, .string x.f4, .int .i64 x.f5, v6] ∧ k69.R 69 w base ok v3 x.f3 ∧ (Kd.int .i64).R 3 w base ok v6 x.f6 := by
 obtain ⟨_, _, rfl, rfl, ⟨_, _, rfl, rfl, ⟨_, _, rfl, rfl, ⟨_, _, rfl, ⟨v3, rfl, g3⟩, ⟨_, _, rfl, rfl, ⟨_, _, rfl, rfl, ⟨v6, rfl, g6⟩⟩⟩⟩⟩⟩⟩ := h
 exact ⟨v3, v6, rfl, g3, g6⟩
theorem k38_mkM (w : World) (base : Nat) (ok : Nat → Prop) (x : S38) {v3 : Value} (g3 : k69.R 69 w base ok v3 x.f3) {v6 : Value} (g6 : (Kd.int .i64).R 3 w base ok v6 x.f6) : k38.M w base ok x [.int .i64 x.f0, .int .i64 x.f1, .string x.f2, v3, .string x.f4, .int .i64 x.f5, v6] := ⟨[.int .i64 x.f0], [.int .i64 x.f1, .string x.f2, v3, .string x.f4, .int .i64 x.f5, v6], rfl, rfl, ⟨[.int .i64 x.f1], [.string x.f2, v3, .string x.f4, .int .i64 x.f5, v6], rfl, rfl, ⟨[.string x.f2], [v3, .string x.f4, .int .i64 x.f5, v6], rfl, rfl, ⟨[v3], [.string x.f4, .int .i64 x.f5, v6], rfl, ⟨v3, rfl, g3⟩, ⟨[.string x.f4], [.int .i64 x.f5, v6], rfl, rfl, ⟨[.int .i64 x.f5], [v6], rfl, rfl, ⟨v6, rfl, g6⟩⟩⟩⟩⟩⟩⟩
def rd_T38 (xs : List S38) (i : Int) : S38 := xs.getD i.toNat z38
theorem at_T38 {w : World} {A : Option Addr} {n : Nat} {xs : List S38} (h : Kd.C k38 w A n xs) (i : Int) (h0 : 0 ≤ i) (h1 : i < n) : ∃ ad A3 c3 A6 c6, A = some ad ∧ w.cell? (ad.add (i.toNat * 7)) = some (.int .i64 (rd_T38 xs i).f0) ∧ w.cell? ⟨(ad.add (i.toNat * 7)).block, (ad.add (i.toNat * 7)).off + 1, none⟩ = some (.int .i64 (rd_T38 xs i).f1) ∧ w.cell? ⟨(ad.add (i.toNat * 7)).block, (ad.add (i.toNat * 7)).off + 2, none⟩ = some (.string (rd_T38 xs i).f2) ∧ w.cell? ⟨(ad.add (i.toNat * 7)).block, (ad.add (i.toNat * 7)).off + 3, none⟩ = some (.slice A3 (rd_T38 xs i).f3.length c3) ∧ w.cell? ⟨(ad.add (i.toNat * 7)).block, (ad.add (i.toNat * 7)).off + 4, none⟩ = some (.string (rd_T38 xs i).f4) ∧ w.cell? ⟨(ad.add (i.toNat * 7)).block, (ad.add (i.toNat * 7)).off + 5, none⟩ = some (.int .i64 (rd_T38 xs i).f5) ∧ w.cell? ⟨(ad.add (i.toNat * 7)).block, (ad.add (i.toNat * 7)).off + 6, none⟩ = some (.slice A6 (rd_T38 xs i).f6.length c6) ∧ (rd_T38 xs i).f3.length ≤ c3 ∧ k69.C w A3 (rd_T38 xs i).f3.length (rd_T38 xs i).f3 ∧ (rd_T38 xs i).f6.length ≤ c6 ∧ (Kd.int .i64).C w A6 (rd_T38 xs i).f6.length (rd_T38 xs i).f6 := by
 obtain ⟨ad, c, e, _, hK, hc0⟩ := Kd.C_get h z38 i h0 h1
 have hc : ∀ j u, c[j]? = some u → w.cell? (ad.add (i.toNat * 7 + j)) = some u := hc0
 obtain ⟨A3, c3, A6, c6, rfl, l3, g3, l6, g6⟩ := k38_open hK
 exact ⟨ad, A3, c3, A6, c6, e, hc 0 _ rfl, by rw [← add_field _ _ 1 (by omega)]; exact hc 1 _ rfl, by rw [← add_field _ _ 2 (by omega)]; exact hc 2 _ rfl, by rw [← add_field _ _ 3 (by omega)]; exact hc 3 _ rfl, by rw [← add_field _ _ 4 (by omega)]; exact hc 4 _ rfl, by rw [← add_field _ _ 5 (by omega)]; exact hc 5 _ rfl, by rw [← add_field _ _ 6 (by omega)]; exact hc 6 _ rfl, l3, g3, l6, g6⟩
def G63 (b n : Nat) (x : S63) : Prop := (x.f0.size ≤ b) ∧ (x.f1.size ≤ b)
theorem G63_mono {b n m : Nat} {x : S63} (hle : n ≤ m) (hx : G63 b n x) : G63 b m x := by
 obtain ⟨h0, h1⟩ := hx
 exact ⟨id h0, id h1⟩
def G28 (b n : Nat) (x : S28) : Prop := ((Lit.int .i64 x.f0).wf = true) ∧ ((Lit.int .i64 x.f1).wf = true) ∧ (x.f2.size ≤ b) ∧ (x.f3.length ≤ b ∧ (∀ y_ ∈ x.f3, G63 b n y_)) ∧ (x.f4.size ≤ b) ∧ ((Lit.int .i64 x.f5).wf = true) ∧ (x.f6.length ≤ b ∧ (∀ y_ ∈ x.f6, (Lit.int .i64 y_).wf = true))
theorem G28_mono {b n m : Nat} {x : S28} (hle : n ≤ m) (hx : G28 b n x) : G28 b m x := by
 obtain ⟨h0, h1, h2, h3, h4, h5, h6⟩ := hx
 exact ⟨id h0, id h1, id h2, (fun h_ => ⟨h_.1, fun y_ hy_ => (G63_mono hle) (h_.2 y_ hy_)⟩) h3, id h4, id h5, (fun h_ => ⟨h_.1, fun y_ hy_ => id (h_.2 y_ hy_)⟩) h6⟩
def G69 (b n : Nat) (x : S69) : Prop := (x.f0.size ≤ b) ∧ (x.f1.size ≤ b)
def G38 (b n : Nat) (x : S38) : Prop := ((Lit.int .i64 x.f0).wf = true) ∧ ((Lit.int .i64 x.f1).wf = true) ∧ (x.f2.size ≤ b) ∧ (x.f3.length ≤ b ∧ (∀ y_ ∈ x.f3, G69 b n y_)) ∧ (x.f4.size ≤ b) ∧ ((Lit.int .i64 x.f5).wf = true) ∧ (x.f6.length ≤ b ∧ (∀ y_ ∈ x.f6, (Lit.int .i64 y_).wf = true))
def slices_Clone_int_int.f (l0 : List Int) : Option (List Int) := (some (([] : List Int) : List Int)).bind fun y324 => (if y324.length + l0.length < 17592186044416 then (some (y324 ++ l0)) else (none))
theorem slices_Clone_int_int.calls (A0 : Option Addr) (c0 : Nat) (l0 : List Int) (r : List Int) (w : World) (hr0 : Kd.C (Kd.int .i64) w A0 l0.length l0) (hc0 : l0.length ≤ c0) (h : slices_Clone_int_int.f l0 = some r) :
  Calls Try.prog 45 #[.slice A0 l0.length c0] w fun e w' => ∃ v0_ : Value, e = .returned (v0_) ∧ Kd.R (Kd.int .i64) 3 w' w.heap.size (fun _ => True) v0_ r ∧ Below w.heap.size w w' := by
 have HR0 := am hr0
 have HC0 := am hc0
 clear hr0 hc0
 have HB := am (Below.refl w.heap.size w)
 have H : ((some (([] : List Int) : List Int)).bind fun y324 => (if y324.length + l0.length < 17592186044416 then (some (y324 ++ l0)) else (none))) = some r := h
 clear h
 obtain ⟨y324, hy324⟩ : ∃ y_ : List Int, y_ = (([] : List Int)) := ⟨_, rfl⟩
 replace H : (if y324.length + l0.length < 17592186044416 then (some (y324 ++ l0)) else (none)) = some r := by first | (rw [hy324]; with_reducible exact H) | (have H2_ := (Option.bind_some _ _).symm.trans H; rw [hy324]; with_reducible exact H2_) | (have H2_ := (Option.bind_some _ _).symm.trans H; with_reducible exact H2_) | with_reducible exact H | (rw [hy324]; exact H) | exact H
 have Ny324 := am hy324
 clear hy324
 by_cases c2 : y324.length + l0.length < 17592186044416
 case neg => rw [if_neg c2] at H; exact absurd H (by simp)
 rw [if_pos c2] at H
 have LMc2 := am c2
 clear c2
 obtain ⟨y327, hy327⟩ : ∃ y_ : List Int, y_ = (y324 ++ l0) := ⟨_, rfl⟩
 replace H : (some y327) = some r := by first | (rw [hy327]; with_reducible exact H) | (have H2_ := (Option.bind_some _ _).symm.trans H; rw [hy327]; with_reducible exact H2_) | (have H2_ := (Option.bind_some _ _).symm.trans H; with_reducible exact H2_) | with_reducible exact H | (rw [hy327]; exact H) | exact H
 have Ny327 := am hy327
 clear hy327
 obtain rfl := Option.some.inj H
 rcases A0 with _ | ad0
 ·have hl0 : l0 = [] := by
   have h1 := HR0.out.2.2
   cases l0 with
   | nil => rfl
   | cons x xs => obtain ⟨ad, he, _⟩ := h1 (Nat.succ_pos _); cases he
  subst hl0
  have e1_ := Ny324.out; subst e1_
  have e2_ := Ny327.out; subst e2_
  have hnil : ∀ W, (binOp .eql 23 (.slice none 0 c0) (.slice none 0 0)).run Try.prog W = .ok (.bool true) W := fun W => Lib.run_eql_slice_nil (h := Try.underlying23) ..
  go_enter Try.func45, Try.ntmps45
  go_wp2
  go_ret
  exact ⟨_, rfl, Kd.R_nil _ _ _ _ _, ab1⟩
 have hnil : ∀ W, (binOp .eql 23 (.slice (some ad0) l0.length c0) (.slice none 0 0)).run Try.prog W = .ok (.bool false) W := fun W => Lib.run_eql_slice_nil (h := Try.underlying23) ..
 go_enter Try.func45, Try.ntmps45
 go_wp2_with (first | ((with_reducible refine gate_dst (N := 5) rfl ?_); refine Kd.R_lit (Kd.int .i64) _ 3 ?hg (N := 5) ?hd (xs := ([] : List Int)) (inner := []) (ok := fun _ => True) (okp := fun _ => True) ?hr ?hp (fun _ hk => hk) trivial (Below.refl _ _) (Nat.le_refl _) (by simp) ?_; (case hd => rfl); (case hg => rfl); (case hr => first | (go_simp; done) | (go_simp; rfl)); (case hp => exact (Reps.none _ _)); intro v325 w3 ho4 hb hg_ hnew_; clear hg_ hnew_; (first | rw [← Ny324.out] at ho4 | (simp only [Int.reduceToNat] at ho4; rw [← Ny324.out] at ho4)); have HO326 := am (Kd.R_lower ho4 (below_size ab1)); replace HB := am (below_step ab1 hb); clear hb ho4) | ((with_reducible refine gate_builtin (b := .append) (xs := #[.tmp 5, .tmp 6]) rfl ?_); at_builtin; refine Kd.R_append_rows (Kd.int .i64) (w0 := w) w.heap.size rfl (.tmp 5) (.tmp 6) 23 3 (.int .i64 0) 8 rfl Try.underlying23 info3 rfl (by decide) (by omega) v325 y324 l0 _ _ _ (fun _ => True) (fun _ => False) rfl rfl ?aO ?aR (fun _ _ h => h) (fun _ h => h.elim) ?aF ?aB ?aS ?aL ?_; (case aR => repeat (first | exact (Kd.C_below HR0.out HB.out) | (with_reducible refine Kd.C_alloc ?_ _) | (with_reducible refine Kd.C_drewN ?_ _) | (with_reducible refine Kd.C_drew ?_))); (case aB => exact ab1); (case aF => exact (fun _ _ => trivial)); (case aO => exact (ab8 HO326)); (case aS => exact (below_size ab1)); (case aL => have := LMc2.out; omega); intro v328 w5 ho hb hg hat; rw [← Ny327.out] at ho; replace HB := am hb; have HO329 := am ho; clear HO326; clear ho hb hg hat))
 go_ret
 exact ⟨_, ab7, ab8 HO329, ab1⟩
section
open Go.Proofs.YtekkalnafngfeaaW.PrintMore
/-- An item as it lies in an elder world. -/
def kSh (w0 : World) : Kd S38 where
 sz := 7
 E := k38.E
 K := fun _ x cs => k38.K w0 x cs
 M := fun _ _ _ x cs => k38.K w0 x cs
 K_len := fun h => k38.K_len h
 K_one := fun h => k38.K_one h
 K_below := fun _ h => h
 K_of_M := fun h => h
 M_mono := fun _ h => h
 M_bound := fun h => h
 M_move := fun _ h => h
 M_lower := fun _ h => h
theorem sh_C {w0 W : World} {A : Option Addr} {n : Nat} {xs : List S38} (h : Kd.C k38 w0 A n xs) (hb : Below w0.heap.size w0 W) : Kd.C (kSh w0) W A n xs := ReadsRow.imp_ h hb (fun _ _ hp => hp)
/-- An item that lies in an elder world (false), or has rows of its own (true). -/
def kF (w0 : World) : Kd (S38 × Bool) where
 sz := 7
 E := k38.E
 K := fun w x cs => match x.2 with | true => k38.K w x.1 cs | false => k38.K w0 x.1 cs
 M := fun w base ok x cs => match x.2 with | true => k38.M w base ok x.1 cs | false => k38.K w0 x.1 cs
 K_len := fun {w x cs} h => by rcases x with ⟨y, _ | _⟩ <;> exact k38.K_len h
 K_one := fun {w x cs} h => by rcases x with ⟨y, _ | _⟩ <;> exact k38.K_one h
 K_below := fun {w w1 x cs} hb h => by
  rcases x with ⟨y, _ | _⟩
  ·exact h
  ·exact k38.K_below hb h
 K_of_M := fun {w base ok x cs} h => by
  rcases x with ⟨y, _ | _⟩
  ·exact h
  ·exact k38.K_of_M h
 M_mono := fun {w base ok ok' x cs} hok h => by
  rcases x with ⟨y, _ | _⟩
  ·exact h
  ·exact k38.M_mono hok h
 M_bound := fun {w base ok x cs} h => by
  rcases x with ⟨y, _ | _⟩
  ·exact h
  ·exact k38.M_bound h
 M_move := fun {w w1 base ok x cs} hm h => by
  rcases x with ⟨y, _ | _⟩
  ·exact h
  ·exact k38.M_move hm h
 M_lower := fun {w base base' ok x cs} hb h => by
  rcases x with ⟨y, _ | _⟩
  ·exact h
  ·exact k38.M_lower hb h
/-- The items, the first i of which have rows of their own. -/
def Zc (l : List S38) (i : Nat) : List (S38 × Bool) := l.zipIdx.map fun p => (p.1, decide (p.2 < i))
theorem Zc_length (l : List S38) (i : Nat) : (Zc l i).length = l.length := by simp [Zc]
theorem Zc_at (l : List S38) (i j : Nat) (h : j < l.length) : (Zc l i)[j]? = some (l[j], decide (j < i)) := by
 unfold Zc
 rw [List.getElem?_map, List.getElem?_zipIdx, List.getElem?_eq_getElem h]
 simp
theorem Zc_set (l : List S38) (i : Nat) (h : i < l.length) : (Zc l i).set i (l[i], true) = Zc l (i + 1) := by
 apply List.ext_getElem?
 intro j
 by_cases hj : j < l.length
 ·rw [Zc_at l (i + 1) j hj]
  by_cases e : i = j
  ·subst e
   rw [List.getElem?_set_self (by rw [Zc_length]; exact h), decide_eq_true (by omega)]
  ·rw [List.getElem?_set_ne e, Zc_at l i j hj]
   congr 2
   exact decide_eq_decide.2 (by omega)
 ·rw [List.getElem?_eq_none (by rw [List.length_set, Zc_length]; omega), List.getElem?_eq_none (by rw [Zc_length]; omega)]
section
variable {w W W1 W2 : World} {base n cap g : Nat} {ok : Nat → Prop} {v : Value} {l : List S38}
theorem Zc_of_sh (h : Kd.R (kSh w) 38 W base ok v l) : Kd.S (kF w) 38 W base ok v (Zc l 0) := by
 obtain ⟨h0, inner, ho, hr⟩ := h
 refine ⟨fun _ => 0, h0, inner, by rw [List.length_zipIdx, Zc_length]; exact ho, by have := hr.1; rw [List.length_zipIdx, Zc_length]; exact this, fun j p hj => ?_⟩
 rw [List.getElem?_zipIdx] at hj
 obtain ⟨q, hq, rfl⟩ := Option.map_eq_some_iff.1 hj
 have hjl : j < l.length := by have := (List.getElem?_eq_some_iff.1 hq).1; rwa [Zc_length] at this
 rw [Zc_at l 0 j hjl] at hq
 injection hq with hq
 subst hq
 exact hr.2 j _ (List.getElem?_eq_getElem hjl)
theorem Zc_full (h : Kd.S (kF w) 38 W base ok v (Zc l l.length)) : Kd.S k38 38 W base ok v l := by
 obtain ⟨f, h0, inner, ho, hr⟩ := h
 refine ⟨f, h0, inner, by rw [List.length_zipIdx]; rw [List.length_zipIdx, Zc_length] at ho; exact ho, by have := hr.1; rw [List.length_zipIdx, Zc_length] at this; rw [List.length_zipIdx]; exact this, fun j p hj => ?_⟩
 rw [List.getElem?_zipIdx] at hj
 obtain ⟨q, hq, rfl⟩ := Option.map_eq_some_iff.1 hj
 obtain ⟨hjl, hqe⟩ := List.getElem?_eq_some_iff.1 hq
 have hz := hr.2 j ((l[j], true), 0 + j) (by rw [List.getElem?_zipIdx, Zc_at l l.length j hjl, decide_eq_true hjl]; rfl)
 rw [← hqe]
 exact hz
theorem rd_get (l : List S38) (x : Int) (h : x.toNat < l.length) : rd_T38 l x = l[x.toNat] := by
 unfold rd_T38
 rw [List.getD_eq_getElem?_getD, List.getElem?_eq_getElem h]
 rfl
/-- The item ahead: its cells, what its rows say in the elder world, the row without it. -/
theorem cp_open {x : Int} (HO : Kd.S (kF w) 38 W base ok (.slice (some ⟨g, 0, none⟩) n cap) (Zc l x.toNat)) (h0 : 0 ≤ x) (h1 : x < (l.length : Int)) (hn : n = l.length) :
  ∃ (oki : Nat → Prop) (A3 A6 : Option Addr) (c3 c6 : Nat), (∀ k, oki k → ok k ∧ k ≠ g) ∧
   Kd.H (kF w) 38 W base ok (.slice (some ⟨g, 0, none⟩) n cap) (Zc l x.toNat) x oki [.int .i64 (rd_T38 l x).f0, .int .i64 (rd_T38 l x).f1, .string (rd_T38 l x).f2, .slice A3 (rd_T38 l x).f3.length c3, .string (rd_T38 l x).f4, .int .i64 (rd_T38 l x).f5, .slice A6 (rd_T38 l x).f6.length c6] ∧
   W.cell? ⟨g, x.toNat * 7 + 3, none⟩ = some (.slice A3 (rd_T38 l x).f3.length c3) ∧ W.frozen? ⟨g, x.toNat * 7 + 3, none⟩ = false ∧ W.cell? ⟨g, x.toNat * 7 + 6, none⟩ = some (.slice A6 (rd_T38 l x).f6.length c6) ∧ W.frozen? ⟨g, x.toNat * 7 + 6, none⟩ = false ∧
   (rd_T38 l x).f3.length ≤ c3 ∧ Kd.C k69 w A3 (rd_T38 l x).f3.length (rd_T38 l x).f3 ∧ (rd_T38 l x).f6.length ≤ c6 ∧ Kd.C (Kd.int .i64) w A6 (rd_T38 l x).f6.length (rd_T38 l x).f6 := by
 obtain ⟨oki, c, hcl, hM, hcc, hfr, hoki, hH⟩ := Kd.S_elem HO (z38, false) x h0 (by omega)
 have hil : x.toNat < l.length := by omega
 have e : (Zc l x.toNat).getD x.toNat (z38, false) = (rd_T38 l x, false) := by
  rw [List.getD_eq_getElem?_getD, Zc_at l x.toNat x.toNat hil, decide_eq_false (Nat.lt_irrefl _), rd_get l x hil]
  rfl
 rw [e] at hM
 obtain ⟨A3, c3, A6, c6, rfl, l3, g3, l6, g6⟩ := k38_open (show k38.K w (rd_T38 l x) c from hM)
 exact ⟨oki, A3, A6, c3, c6, hoki, hH, hcc 3 _ rfl, hfr 3, hcc 6 _ rfl, hfr 6, l3, g3, l6, g6⟩
/-- Behind the first store: the attributes are the item's own. -/
theorem cp_store1 {x : Int} {oki : Nat → Prop} {A3 A6 : Option Addr} {c3 c6 : Nat} {v3 : Value} {r3 : List S69} (hoki : ∀ k, oki k → ok k ∧ k ≠ g)
  (hH : Kd.H (kF w) 38 W base ok (.slice (some ⟨g, 0, none⟩) n cap) (Zc l x.toNat) x oki [.int .i64 (rd_T38 l x).f0, .int .i64 (rd_T38 l x).f1, .string (rd_T38 l x).f2, .slice A3 (rd_T38 l x).f3.length c3, .string (rd_T38 l x).f4, .int .i64 (rd_T38 l x).f5, .slice A6 (rd_T38 l x).f6.length c6]) (h0 : 0 ≤ x) (h1 : x < n) (hb : Below W.heap.size W W2) (hg : g < W.heap.size) (hok : ∀ k, W.heap.size ≤ k → ok k) (hbase : base ≤ W.heap.size)
  (hv : Kd.R k69 69 W2 W.heap.size (fun _ => True) v3 r3) :
  ∃ ok1 : Nat → Prop, (∀ k, ok1 k → ok k ∧ k ≠ g) ∧ Kd.H (kF w) 38 (W2.setCell ⟨g, x.toNat * 7 + 3, none⟩ v3) base ok (.slice (some ⟨g, 0, none⟩) n cap) (Zc l x.toNat) x ok1 [.int .i64 (rd_T38 l x).f0, .int .i64 (rd_T38 l x).f1, .string (rd_T38 l x).f2, v3, .string (rd_T38 l x).f4, .int .i64 (rd_T38 l x).f5, .slice A6 (rd_T38 l x).f6.length c6] ∧
   Kd.R k69 69 (W2.setCell ⟨g, x.toNat * 7 + 3, none⟩ v3) base ok1 v3 r3 ∧ W2.grownBy (W2.setCell ⟨g, x.toNat * 7 + 3, none⟩ v3) (some g) := by
 have h2 := Kd.H_below (Kd.H_widen hH) hb
 have hv' := Kd.R_lower (Kd.R_mono (Kd.R_bound hv) (fun k hk => (⟨hk.2.1, hk.2.2.1⟩ : W.heap.size ≤ k ∧ k < W2.heap.size))) hbase
 obtain ⟨_, hone⟩ := Kd.R_val hv
 obtain ⟨h3, h4⟩ := Kd.H_seg h2 h0 h1 (seg := [v3]) (j := 3) (by show 3 + 1 ≤ 7; omega) (fun q hq => by rw [List.mem_singleton] at hq; subst hq; exact hone)
 refine ⟨_, fun k hk => ?_, h3, Kd.R_mono (Kd.R_far hv' (fun k hk => by show k ≠ g; omega) v3) (fun k hk => Or.inr ⟨hok k hk.1, hk.1⟩), h4⟩
 rcases hk with hk | hk
 ·exact hoki k hk
 ·exact ⟨hk.1, by omega⟩
/-- Behind the second store: the item is the row's own. -/
theorem cp_store2 {x : Int} {ok1 : Nat → Prop} {A6 : Option Addr} {c6 : Nat} {v3 v6 : Value} (hok1 : ∀ k, ok1 k → ok k ∧ k ≠ g)
  (hH : Kd.H (kF w) 38 W base ok (.slice (some ⟨g, 0, none⟩) n cap) (Zc l x.toNat) x ok1 [.int .i64 (rd_T38 l x).f0, .int .i64 (rd_T38 l x).f1, .string (rd_T38 l x).f2, v3, .string (rd_T38 l x).f4, .int .i64 (rd_T38 l x).f5, .slice A6 (rd_T38 l x).f6.length c6]) (h0 : 0 ≤ x) (h1 : x < n) (hn : n = l.length) (hb : Below W.heap.size W W2) (hg : g < W.heap.size) (hok : ∀ k, W.heap.size ≤ k → ok k) (hbase : base ≤ W.heap.size)
  (hr : Kd.R k69 69 W base ok1 v3 (rd_T38 l x).f3) (hv : Kd.R (Kd.int .i64) 3 W2 W.heap.size (fun _ => True) v6 (rd_T38 l x).f6) :
  Kd.S (kF w) 38 (W2.setCell ⟨g, x.toNat * 7 + 6, none⟩ v6) base ok (.slice (some ⟨g, 0, none⟩) n cap) (Zc l (x.toNat + 1)) ∧ W2.grownBy (W2.setCell ⟨g, x.toNat * 7 + 6, none⟩ v6) (some g) := by
 have h2 := Kd.H_below (Kd.H_widen hH) hb
 have hv' := Kd.R_lower (Kd.R_mono (Kd.R_bound hv) (fun k hk => (⟨hk.2.1, hk.2.2.1⟩ : W.heap.size ≤ k ∧ k < W2.heap.size))) hbase
 obtain ⟨_, hone⟩ := Kd.R_val hv
 obtain ⟨h3, h4⟩ := Kd.H_seg h2 h0 h1 (seg := [v6]) (j := 6) (by show 6 + 1 ≤ 7; omega) (fun q hq => by rw [List.mem_singleton] at hq; subst hq; exact hone)
 have g6 := Kd.R_far hv' (p := ⟨g, x.toNat * 7 + 6, none⟩) (fun k hk => by show k ≠ g; omega) v6
 have g3 := Kd.R_far (Kd.R_below hr hb) (p := ⟨g, x.toNat * 7 + 6, none⟩) (fun k hk => (hok1 k hk).2) v6
 have hM := k38_mkM (W2.setCell ⟨g, x.toNat * 7 + 6, none⟩ v6) base (fun k => ok1 k ∨ ok k ∧ W.heap.size ≤ k) (rd_T38 l x) (Kd.R_mono g3 (fun k hk => Or.inl hk)) (Kd.R_mono g6 (fun k hk => Or.inr ⟨hok k hk.1, hk.1⟩))
 have hil : x.toNat < l.length := by omega
 refine ⟨?_, h4⟩
 rw [← Zc_set l x.toNat hil, ← rd_get l x hil]
 exact Kd.H_back h3 (x' := (rd_T38 l x, true)) hM (fun k hk => hk)
end
end
def impl_Item.f (l0 : List (S38)) : Option ((List (S38))) := (some (([] : List (S38)) : List (S38))).bind fun y336 => (if y336.length + l0.length < 1353245080339 then (some (y336 ++ l0)) else (none))
theorem impl_Item.calls (A0 : Option Addr) (c0 : Nat) (l0 : List (S38)) (r : List (S38)) (w : World) (hr0 : Kd.C k38 w A0 l0.length l0) (hc0 : l0.length ≤ c0) (h : impl_Item.f l0 = some r) :
  Calls Try.prog 64 #[.slice A0 l0.length c0] w fun e w' => ∃ v0_ : Value, e = .returned (v0_) ∧ Kd.R (kSh w) 38 w' w.heap.size (fun _ => True) v0_ r ∧ Below w.heap.size w w' := by
 have HR0 := am hr0
 have HC0 := am hc0
 clear hr0 hc0
 have HB := am (Below.refl w.heap.size w)
 have H : ((some (([] : List (S38)) : List (S38))).bind fun y336 => (if y336.length + l0.length < 1353245080339 then (some (y336 ++ l0)) else (none))) = some r := h
 clear h
 obtain ⟨y336, hy336⟩ : ∃ y_ : List (S38), y_ = (([] : List (S38))) := ⟨_, rfl⟩
 replace H : (if y336.length + l0.length < 1353245080339 then (some (y336 ++ l0)) else (none)) = some r := by first | (rw [hy336]; with_reducible exact H) | (have H2_ := (Option.bind_some _ _).symm.trans H; rw [hy336]; with_reducible exact H2_) | (have H2_ := (Option.bind_some _ _).symm.trans H; with_reducible exact H2_) | with_reducible exact H | (rw [hy336]; exact H) | exact H
 have Ny336 := am hy336
 clear hy336
 by_cases c2 : y336.length + l0.length < 1353245080339
 case neg => rw [if_neg c2] at H; exact absurd H (by simp)
 rw [if_pos c2] at H
 have LMc2 := am c2
 clear c2
 obtain ⟨y339, hy339⟩ : ∃ y_ : List (S38), y_ = (y336 ++ l0) := ⟨_, rfl⟩
 replace H : (some y339) = some r := by first | (rw [hy339]; with_reducible exact H) | (have H2_ := (Option.bind_some _ _).symm.trans H; rw [hy339]; with_reducible exact H2_) | (have H2_ := (Option.bind_some _ _).symm.trans H; with_reducible exact H2_) | with_reducible exact H | (rw [hy339]; exact H) | exact H
 have Ny339 := am hy339
 clear hy339
 obtain rfl := Option.some.inj H
 rcases A0 with _ | ad0
 ·have hl0 : l0 = [] := by
   have h1 := HR0.out.2.2
   cases l0 with
   | nil => rfl
   | cons x xs => obtain ⟨ad, he, _⟩ := h1 (Nat.succ_pos _); cases he
  subst hl0
  have e1_ := Ny336.out; subst e1_
  have e2_ := Ny339.out; subst e2_
  have hnil : ∀ W, (binOp .eql 31 (.slice none 0 c0) (.slice none 0 0)).run Try.prog W = .ok (.bool true) W := fun W => Lib.run_eql_slice_nil (h := Try.underlying31) ..
  go_enter Try.func64, Try.ntmps64
  go_wp2
  go_ret
  exact ⟨_, rfl, Kd.R_nil _ _ _ _ _, ab1⟩
 have hnil : ∀ W, (binOp .eql 31 (.slice (some ad0) l0.length c0) (.slice none 0 0)).run Try.prog W = .ok (.bool false) W := fun W => Lib.run_eql_slice_nil (h := Try.underlying31) ..
 go_enter Try.func64, Try.ntmps64
 go_wp2_with (first | ((with_reducible refine gate_dst (N := 5) rfl ?_); refine Kd.R_lit (kSh w) _ 38 ?hg (N := 5) ?hd (xs := ([] : List (S38))) (inner := []) (ok := fun _ => True) (okp := fun _ => True) ?hr ?hp (fun _ hk => hk) trivial (Below.refl _ _) (Nat.le_refl _) (by simp) ?_; (case hd => rfl); (case hg => rfl); (case hr => first | (go_simp; done) | (go_simp; rfl)); (case hp => exact (Reps.none _ _)); intro v337 w3 ho4 hb hg_ hnew_; clear hg_ hnew_; (first | rw [← Ny336.out] at ho4 | (simp only [Int.reduceToNat] at ho4; rw [← Ny336.out] at ho4)); have HO338 := am (Kd.R_lower ho4 (below_size ab1)); replace HB := am (below_step ab1 hb); clear hb ho4) | ((with_reducible refine gate_builtin (b := .append) (xs := #[.tmp 5, .tmp 6]) rfl ?_); at_builtin; refine Kd.R_append_rows (kSh w) (w0 := w) w.heap.size rfl (.tmp 5) (.tmp 6) 31 38 (.agg #[(.int .i64 0), (.int .i64 0), (.string ⟨#[]⟩), (.slice none 0 0), (.string ⟨#[]⟩), (.int .i64 0), (.slice none 0 0)]) 104 rfl Try.underlying31 info38 rfl (Nat.succ_pos 6) (by omega) v337 y336 l0 _ _ _ (fun _ => True) (fun _ => False) rfl rfl ?aO ?aR (fun _ _ h => h) (fun _ h => h.elim) ?aF ?aB ?aS ?aL ?_; (case aR => exact sh_C HR0.out ab1); (case aB => exact ab1); (case aF => exact (fun _ _ => trivial)); (case aO => exact (ab8 HO338)); (case aS => exact (below_size ab1)); (case aL => have := LMc2.out; omega); intro v340 w5 ho hb hg hat; rw [← Ny339.out] at ho; replace HB := am hb; have HO341 := am ho; clear HO338; clear ho hb hg hat))
 go_ret
 exact ⟨_, ab7, ab8 HO341, ab1⟩
def impl_Attr_75.f (l0 : List (S69)) : Option ((List (S69))) := (some (([] : List (S69)) : List (S69))).bind fun y336 => (if y336.length + l0.length < 4398046511104 then (some (y336 ++ l0)) else (none))
theorem impl_Attr_75.calls (A0 : Option Addr) (c0 : Nat) (l0 : List (S69)) (r : List (S69)) (w : World) (hr0 : Kd.C k69 w A0 l0.length l0) (hc0 : l0.length ≤ c0) (h : impl_Attr_75.f l0 = some r) :
  Calls Try.prog 75 #[.slice A0 l0.length c0] w fun e w' => ∃ v0_ : Value, e = .returned (v0_) ∧ Kd.R k69 69 w' w.heap.size (fun _ => True) v0_ r ∧ Below w.heap.size w w' := by
 have HR0 := am hr0
 have HC0 := am hc0
 clear hr0 hc0
 have HB := am (Below.refl w.heap.size w)
 have H : ((some (([] : List (S69)) : List (S69))).bind fun y336 => (if y336.length + l0.length < 4398046511104 then (some (y336 ++ l0)) else (none))) = some r := h
 clear h
 obtain ⟨y336, hy336⟩ : ∃ y_ : List (S69), y_ = (([] : List (S69))) := ⟨_, rfl⟩
 replace H : (if y336.length + l0.length < 4398046511104 then (some (y336 ++ l0)) else (none)) = some r := by first | (rw [hy336]; with_reducible exact H) | (have H2_ := (Option.bind_some _ _).symm.trans H; rw [hy336]; with_reducible exact H2_) | (have H2_ := (Option.bind_some _ _).symm.trans H; with_reducible exact H2_) | with_reducible exact H | (rw [hy336]; exact H) | exact H
 have Ny336 := am hy336
 clear hy336
 by_cases c2 : y336.length + l0.length < 4398046511104
 case neg => rw [if_neg c2] at H; exact absurd H (by simp)
 rw [if_pos c2] at H
 have LMc2 := am c2
 clear c2
 obtain ⟨y339, hy339⟩ : ∃ y_ : List (S69), y_ = (y336 ++ l0) := ⟨_, rfl⟩
 replace H : (some y339) = some r := by first | (rw [hy339]; with_reducible exact H) | (have H2_ := (Option.bind_some _ _).symm.trans H; rw [hy339]; with_reducible exact H2_) | (have H2_ := (Option.bind_some _ _).symm.trans H; with_reducible exact H2_) | with_reducible exact H | (rw [hy339]; exact H) | exact H
 have Ny339 := am hy339
 clear hy339
 obtain rfl := Option.some.inj H
 rcases A0 with _ | ad0
 ·have hl0 : l0 = [] := by
   have h1 := HR0.out.2.2
   cases l0 with
   | nil => rfl
   | cons x xs => obtain ⟨ad, he, _⟩ := h1 (Nat.succ_pos _); cases he
  subst hl0
  have e1_ := Ny336.out; subst e1_
  have e2_ := Ny339.out; subst e2_
  have hnil : ∀ W, (binOp .eql 36 (.slice none 0 c0) (.slice none 0 0)).run Try.prog W = .ok (.bool true) W := fun W => Lib.run_eql_slice_nil (h := Try.underlying36) ..
  go_enter Try.func75, Try.ntmps75
  go_wp2
  go_ret
  exact ⟨_, rfl, Kd.R_nil _ _ _ _ _, ab1⟩
 have hnil : ∀ W, (binOp .eql 36 (.slice (some ad0) l0.length c0) (.slice none 0 0)).run Try.prog W = .ok (.bool false) W := fun W => Lib.run_eql_slice_nil (h := Try.underlying36) ..
 go_enter Try.func75, Try.ntmps75
 go_wp2_with (first | ((with_reducible refine gate_dst (N := 5) rfl ?_); refine Kd.R_lit k69 _ 69 ?hg (N := 5) ?hd (xs := ([] : List (S69))) (inner := []) (ok := fun _ => True) (okp := fun _ => True) ?hr ?hp (fun _ hk => hk) trivial (Below.refl _ _) (Nat.le_refl _) (by simp) ?_; (case hd => rfl); (case hg => rfl); (case hr => first | (go_simp; done) | (go_simp; rfl)); (case hp => exact (Reps.none _ _)); intro v337 w3 ho4 hb hg_ hnew_; clear hg_ hnew_; (first | rw [← Ny336.out] at ho4 | (simp only [Int.reduceToNat] at ho4; rw [← Ny336.out] at ho4)); have HO338 := am (Kd.R_lower ho4 (below_size ab1)); replace HB := am (below_step ab1 hb); clear hb ho4) | ((with_reducible refine gate_builtin (b := .append) (xs := #[.tmp 5, .tmp 6]) rfl ?_); at_builtin; refine Kd.R_append_rows k69 (w0 := w) w.heap.size rfl (.tmp 5) (.tmp 6) 36 69 (.agg #[(.string ⟨#[]⟩), (.string ⟨#[]⟩)]) 32 rfl Try.underlying36 info69 rfl (by decide) (by omega) v337 y336 l0 _ _ _ (fun _ => True) (fun _ => False) rfl rfl ?aO ?aR (fun _ _ h => h) (fun _ h => h.elim) ?aF ?aB ?aS ?aL ?_; (case aR => repeat (first | exact (Kd.C_below HR0.out HB.out) | (with_reducible refine Kd.C_alloc ?_ _) | (with_reducible refine Kd.C_drewN ?_ _) | (with_reducible refine Kd.C_drew ?_))); (case aB => exact ab1); (case aF => exact (fun _ _ => trivial)); (case aO => exact (ab8 HO338)); (case aS => exact (below_size ab1)); (case aL => have := LMc2.out; omega); intro v340 w5 ho hb hg hat; rw [← Ny339.out] at ho; replace HB := am hb; have HO341 := am ho; clear HO338; clear ho hb hg hat))
 go_ret
 exact ⟨_, ab7, ab8 HO341, ab1⟩
def impl_copyAttrs.f (l0 : List (S69)) : Option ((List (S69))) := (impl_Attr_75.f l0).bind fun t324 => (some t324)
theorem impl_copyAttrs.calls (A0 : Option Addr) (c0 : Nat) (l0 : List (S69)) (r : List (S69)) (w : World) (hr0 : Kd.C k69 w A0 l0.length l0) (hc0 : l0.length ≤ c0) (h : impl_copyAttrs.f l0 = some r) :
  Calls Try.prog 65 #[.slice A0 l0.length c0] w fun e w' => ∃ v0_ : Value, e = .returned (v0_) ∧ Kd.R k69 69 w' w.heap.size (fun _ => True) v0_ r ∧ Below w.heap.size w w' := by
 have HR0 := am hr0
 have HC0 := am hc0
 clear hr0 hc0
 have HB := am (Below.refl w.heap.size w)
 have H : ((impl_Attr_75.f l0).bind fun t324 => (some t324)) = some r := h
 clear h
 replace H := bi_ H; obtain ⟨t324, A2, H⟩ := H
 obtain rfl := Option.some.inj H
 go_enter Try.func65, Try.ntmps65
 go_wp2_with (first | ((with_reducible refine gf_ 75 ?_); refine gx_ Try.func75 (impl_Attr_75.calls _ _ l0 t324 _ ?side1 HC0.out A2.out) ?_; (case side1 => exact (by repeat (first | exact HR0.out | (with_reducible refine Kd.C_alloc ?_ _) | (with_reducible refine Kd.C_drewN ?_ _) | (with_reducible refine Kd.C_drew ?_)))); rintro v325 w3 ⟨ho0, hb⟩; have HO326 := am (Kd.R_lower ho0 (below_size ab1)); replace HB := am (below_step ab1 hb); (try clear hb); (try clear hb2); (try clear hk); (try clear hi); (try clear ho0)))
 go_ret
 exact ⟨_, ab7, ab8 HO326, ab1⟩
def impl_copyItems.f (l0 : List (S38)) : Option (List (S38)) := if l0.length < 1353245080339 then (if (l0.all fun x => decide (x.f3.length < 4398046511104) && decide (x.f6.length < 17592186044416)) = true then some l0 else none) else none
theorem impl_copyItems.calls (A0 : Option Addr) (c0 : Nat) (l0 : List (S38)) (r : List (S38)) (w : World) (hr0 : Kd.C k38 w A0 l0.length l0) (hc0 : l0.length ≤ c0) (h : impl_copyItems.f l0 = some r) :
  Calls Try.prog 44 #[.slice A0 l0.length c0] w fun e w' => ∃ v0_ : Value, e = .returned (v0_) ∧ Kd.S k38 38 w' w.heap.size (fun _ => True) v0_ r ∧ Below w.heap.size w w' := by
 have HR0 := am hr0
 have HC0 := am hc0
 clear hr0 hc0
 have HB := am (Below.refl w.heap.size w)
 unfold impl_copyItems.f at h
 by_cases cA : l0.length < 1353245080339
 case neg => rw [if_neg cA] at h; exact absurd h (by simp)
 rw [if_pos cA] at h
 by_cases cB : (l0.all fun x => decide (x.f3.length < 4398046511104) && decide (x.f6.length < 17592186044416)) = true
 case neg => rw [if_neg cB] at h; exact absurd h (by simp)
 rw [if_pos cB] at h
 obtain rfl := Option.some.inj h
 clear h
 have A1 := am (show impl_Item.f l0 = some l0 from by unfold impl_Item.f; simp only [Option.bind_some, List.length_nil, Nat.zero_add, List.nil_append]; rw [if_pos cA])
 have LA := am (fun x hx => (by have := List.all_eq_true.mp cB x hx; rw [Bool.and_eq_true, decide_eq_true_eq, decide_eq_true_eq] at this; exact this : x.f3.length < 4398046511104 ∧ x.f6.length < 17592186044416) : ∀ x ∈ l0, _)
 clear cA cB
 go_enter Try.func44, Try.ntmps44
 go_wp2_with (first | ((with_reducible refine gf_ 64 ?_); refine gx_ Try.func64 (impl_Item.calls _ _ l0 l0 _ HR0.out HC0.out A1.out) ?_; rintro v346 w3 ⟨ho0, hb⟩; have HO := am (Kd.S_mono (Kd.S_bound (Zc_of_sh ho0)) (fun k hk => hk.2.1) : Kd.S (kF w) 38 w3 w.heap.size (fun k => w.heap.size ≤ k) v346 (Zc l0 0)); clear HB; have HB := am hb; clear hb ho0; obtain ⟨Ao4, co4, eo4⟩ := Kd.S_slice HO.out; rw [Zc_length] at eo4; subst eo4))
 go_loopg [9] (l0.length + 1) (fun kq v9 w' => ∃ (x9_1 : Int), v9 = .int .i64 x9_1 ∧ Aside0 (0 ≤ x9_1 ∧ x9_1.toNat + kq = l0.length + 1 ∧ x9_1.toNat ≤ l0.length) ∧ Aside0 (Kd.S (kF w) 38 w' w.heap.size (fun k => w.heap.size ≤ k) (.slice Ao4 l0.length co4) (Zc l0 x9_1.toNat)) ∧ Aside0 (Below w.heap.size w w'))
 case atStart => exact ⟨0, ab6, ⟨by omega, by show 0 + _ = _; omega, by show 0 ≤ _; omega⟩, HO, ⟨ab1⟩⟩
 case round =>
  clear HO
  obtain ⟨x9_1, rfl, HI, HO, HB⟩ := hrel
  by_cases c5 : x9_1 < (l0.length : Int)
  ·have c5b0 : decide (x9_1 < (l0.length : Int)) = true := decide_eq_true c5
   have c6 : 0 ≤ x9_1 := HI.out.1
   have C5 := am c5
   have C6 := am c6
   obtain ⟨g, cap, eg, gb, gl, cl, HG⟩ := Kd.S_form HO.out (by rw [Zc_length]; omega)
   rw [Zc_length] at eg
   injection eg with ea_ en_ ec_
   subst ea_
   subst ec_
   clear en_
   have GB := am gb
   have GL := am gl
   clear gb gl HG
   obtain ⟨oki, A3, A6, c3, c6_, hoki, hH, hx3, hf3, hx6, hf6, l3, g3, l6, g6⟩ := cp_open HO.out c6 c5 rfl
   have HOK := am hoki
   have HH := am hH
   have G3 := am g3
   have L3 := am l3
   have G6 := am g6
   have L6 := am l6
   clear hoki hH g3 l3 g6 l6 HO
   have HL := am (LA.out (rd_T38 l0 x9_1) (by rw [rd_get l0 x9_1 (by omega)]; exact List.getElem_mem _))
   have B3 := am (show impl_copyAttrs.f (rd_T38 l0 x9_1).f3 = some (rd_T38 l0 x9_1).f3 from by unfold impl_copyAttrs.f; simp only [impl_Attr_75.f, Option.bind_some, List.length_nil, Nat.zero_add, List.nil_append]; rw [if_pos HL.out.1]; rfl)
   have B6 := am (show slices_Clone_int_int.f (rd_T38 l0 x9_1).f6 = some (rd_T38 l0 x9_1).f6 from by unfold slices_Clone_int_int.f; simp only [Option.bind_some, List.length_nil, Nat.zero_add, List.nil_append]; rw [if_pos HL.out.2])
   clear HL
   have HW := am (rfl : wr = wr)
   replace c6 := eq_true c6
   replace c5 := eq_true c5
   go_wp2_with (first | ((with_reducible refine gf_ 65 ?_); refine gx_ Try.func65 (impl_copyAttrs.calls _ _ (rd_T38 l0 x9_1).f3 (rd_T38 l0 x9_1).f3 _ (Kd.C_below G3.out HB.out) (L3.out) B3.out) ?_; rintro v350 w12 ⟨ho0, hb⟩; obtain ⟨Ao5, co5, eo5⟩ := Kd.R_slice ho0; subst eo5; have HN := am (cp_store1 HOK.out HH.out C6.out C5.out hb GL.out (fun k hk => Nat.le_trans (below_size HB.out) hk) (below_size HB.out) ho0); replace hx3 := (hb.cell (World.block_lt_of_cell? _ _ hx3)).trans hx3; replace hx6 := (hb.cell (World.block_lt_of_cell? _ _ hx6)).trans hx6; replace hf3 := (hb.frozen GL.out).trans hf3; replace hf6 := (hb.frozen GL.out).trans hf6; replace HB := am (below_step HB.out hb); clear HH HOK; have GL2 := am (Nat.lt_of_lt_of_le GL.out hb.size); clear hb ho0) | ((with_reducible refine gate_callee (f := 45) rfl ?_); (generalize hw_ : w12.setCell ⟨g, x9_1.toNat * 7 + 3, none⟩ (.slice Ao5 (rd_T38 l0 x9_1).f3.length co5) = w13); have hw := hw_.symm; clear hw_; obtain ⟨ok1, q1, q2, q3, q4⟩ := HN.out; rw [← hw] at q2 q3 q4; have HOK := am q1; have HH := am q2; have HV3 := am q3; clear q1 q2 q3 HN; have hx6' : w13.cell? ⟨g, x9_1.toNat * 7 + 6, none⟩ = some (.slice A6 (rd_T38 l0 x9_1).f6.length c6_) := (by rw [hw]; exact (World.cell?_setCell_other _ _ _ _ (by intro e_; injection e_; omega)).trans hx6); have hf6' : w13.frozen? ⟨g, x9_1.toNat * 7 + 6, none⟩ = false := (by rw [hw, World.frozen?_setCell]; exact hf6); have GL3 := am (show g < w13.heap.size from by rw [hw, World.size_setCell]; exact GL2.out); replace HB := am ((by rw [hw]; exact below_set HB.out GB.out : Below w.heap.size w w13)); clear hx3 hf3 hx6 hf6 q4 hw; have hx6 := hx6'; have hf6 := hf6'; clear hx6' hf6'; refine goesL_ (some 29) rfl rfl Try.func45 (by kernel_rfl) rfl #[.slice A6 (rd_T38 l0 x9_1).f6.length c6_] rfl ab5 ?_; (with_reducible refine (slices_Clone_int_int.calls _ _ (rd_T38 l0 x9_1).f6 (rd_T38 l0 x9_1).f6 _ (Kd.C_below G6.out HB.out) (L6.out) B6.out).mono ?_); rintro e w14 ⟨v354, rfl, ho0, hb⟩; refine ⟨_, rfl, ?_⟩; obtain ⟨Ao6, co6, eo6⟩ := Kd.R_slice ho0; subst eo6; have HN := am (cp_store2 HOK.out HH.out C6.out C5.out rfl hb GL3.out (fun k hk => Nat.le_trans (below_size HB.out) hk) (below_size HB.out) HV3.out ho0); replace hx6 := (hb.cell (World.block_lt_of_cell? _ _ hx6)).trans hx6; replace hf6 := (hb.frozen GL3.out).trans hf6; have n0_ := am (below_step HB.out hb); clear HB HH HOK HV3; have HB := n0_; clear n0_ hb ho0))
   go_roundg (l0.length - x9_1.toNat)
   case measure => have := HI.out; omega
   case rel => exact ⟨wrap64 (x9_1 + 1), ab6, by have := HI.out; have e1_ : wrap64 (x9_1 + 1) = x9_1 + 1 := (by have h1_ := C6.out; have h2_ := C5.out; have h3_ := HR0.out.2.1; unfold wrap64; omega); rw [e1_]; exact ⟨⟨by have := C6.out; omega, by have := C5.out; have := C6.out; omega, by have := C5.out; have := C6.out; omega⟩⟩, by have e1_ : (wrap64 (x9_1 + 1)).toNat = x9_1.toNat + 1 := (by have h1_ := C6.out; have e2_ : wrap64 (x9_1 + 1) = x9_1 + 1 := (by have h1_ := C6.out; have h2_ := C5.out; have h3_ := HR0.out.2.1; unfold wrap64; omega); rw [e2_]; omega); rw [e1_]; exact ⟨HN.out.1⟩, ⟨below_set HB.out GB.out⟩⟩
  ·have c5b0 : decide (x9_1 < (l0.length : Int)) = false := decide_eq_false c5
   have e_ : x9_1.toNat = l0.length := by have := HI.out; omega
   clear c5
   rw [e_] at HO
   go_wp2
   go_ret
   exact ⟨_, rfl, Kd.S_mono (Zc_full HO.out) (fun _ _ => trivial), ab1⟩
def impl_copyPage.f (l0_0 : List (S38)) (l0_1 : List Int) (l0_2 : List Int) (a0_3 : Int) (a0_4 : Int) : Option ((List (S38)) × List Int × List Int × Int × Int) := (impl_copyItems.f l0_0).bind fun t329 => ((slices_Clone_int_int.f l0_1).bind fun t332 => ((slices_Clone_int_int.f l0_2).bind fun t335 => (some (t329, t332, t335, a0_3, a0_4))))
theorem impl_copyPage.calls (A0_0 : Option Addr) (c0_0 : Nat) (l0_0 : List (S38)) (A0_1 : Option Addr) (c0_1 : Nat) (l0_1 : List Int) (A0_2 : Option Addr) (c0_2 : Nat) (l0_2 : List Int) (a0_3 : Int) (a0_4 : Int) (r1 : List (S38)) (r2 : List Int) (r3 : List Int) (r4 : Int) (r5 : Int) (w : World) (hr0_0 : Kd.C k38 w A0_0 l0_0.length l0_0) (hc0_0 : l0_0.length ≤ c0_0) (hr0_1 : Kd.C (Kd.int .i64) w A0_1 l0_1.length l0_1) (hc0_1 : l0_1.length ≤ c0_1) (hr0_2 : Kd.C (Kd.int .i64) w A0_2 l0_2.length l0_2) (hc0_2 : l0_2.length ≤ c0_2) (h : impl_copyPage.f l0_0 l0_1 l0_2 a0_3 a0_4 = some (r1, r2, r3, r4, r5)) :
  Calls Try.prog 25 #[.agg #[.slice A0_0 l0_0.length c0_0, .slice A0_1 l0_1.length c0_1, .slice A0_2 l0_2.length c0_2, .int .i64 a0_3, .int .i64 a0_4]] w fun e w' => ∃ v0_ v1_ v2_ : Value, e = .returned (.agg #[v0_, v1_, v2_, .int .i64 r4, .int .i64 r5]) ∧ Kd.S k38 38 w' w.heap.size (fun k_ => some k_ ≠ (v1_ : Value).ownBlock ∧ some k_ ≠ (v2_ : Value).ownBlock) v0_ r1 ∧ Kd.R (Kd.int .i64) 3 w' w.heap.size (fun k_ => some k_ ≠ (v2_ : Value).ownBlock) v1_ r2 ∧ Kd.R (Kd.int .i64) 3 w' w.heap.size (fun k_ => some k_ ≠ (v1_ : Value).ownBlock) v2_ r3 ∧ Below w.heap.size w w' := by
 have hu33 := Try.underlying33
 have HR0_0 := am hr0_0
 have HC0_0 := am hc0_0
 clear hr0_0 hc0_0
 have HR0_1 := am hr0_1
 have HC0_1 := am hc0_1
 clear hr0_1 hc0_1
 have HR0_2 := am hr0_2
 have HC0_2 := am hc0_2
 clear hr0_2 hc0_2
 have HB := am (Below.refl w.heap.size w)
 have H : ((impl_copyItems.f l0_0).bind fun t329 => ((slices_Clone_int_int.f l0_1).bind fun t332 => ((slices_Clone_int_int.f l0_2).bind fun t335 => (some (t329, t332, t335, a0_3, a0_4))))) = some (r1, r2, r3, r4, r5) := h
 clear h
 replace H := bi_ H; obtain ⟨t329, A2, H⟩ := H
 replace H := bi_ H; obtain ⟨t332, A3, H⟩ := H
 replace H := bi_ H; obtain ⟨t335, A4, H⟩ := H
 simp only [Option.some.injEq, Prod.mk.injEq] at H
 obtain ⟨rfl, rfl, rfl, rfl, rfl⟩ := H
 go_enter Try.func25, Try.ntmps25
 go_wp2_with (first | ((with_reducible refine gd_ 1 ?_); refine bx_ 1 (cs := #[.slice A0_0 l0_0.length c0_0, .slice A0_1 l0_1.length c0_1, .slice A0_2 l0_2.length c0_2, .int .i64 a0_3, .int .i64 a0_4]) 33 ?_; intro gb327 hg w5 hbox hb; have BK327 := am hbox; have GW327 := ge_ (w := w) hg; have GE327 := ge_ (w := w) hg; replace HB := am (below_step ab1 hb); clear hb hbox hg) | ((with_reducible refine gd_ 2 ?_); refine bx_ 2 (cs := #[.slice none 0 0, .slice none 0 0, .slice none 0 0, .int .i64 0, .int .i64 0]) 33 ?_; intro gb328 hg w6 hbox hb; have BK328 := am hbox; have GW328 := gE_ (w := w) GE327 hg; have GE328 := gE_ (w := w) GE327 hg; replace HB := am (below_step (ab2 GE327) hb); have NB327_328 := nl_ BK327 hg; have NB328_327 := ng_ BK327 hg; replace BK327 := bl_ BK327 hb; clear hb hbox hg; have hnb7 := NB327_328.out; have hnc7 := NB328_327.out; obtain ⟨⟨_, _, _, _, _⟩, _, _, _, _, _⟩ := Op.cells5 BK327.out) | ((with_reducible refine gf_ 44 ?_); refine gx_ Try.func44 (impl_copyItems.calls _ _ l0_0 t329 _ (sc_ HR0_0) HC0_0.out A2.out) ?_; rintro v330 w9 ⟨ho0, hb⟩; have HO331 := am (Kd.S_lower ho0 (below_size ba_)); replace BK327 := bl_ BK327 hb; replace BK328 := bl_ BK328 hb; replace HB := am (below_step ba_ hb); (try clear hb); (try clear hb2); (try clear hk); (try clear hi); (try clear ho0); obtain ⟨Ao10, co10, eo10⟩ := Kd.S_slice HO331.out; subst eo10; obtain ⟨⟨_, _, _, _, _⟩, _, _, _, _, _⟩ := Op.cells5 BK327.out) | ((with_reducible refine gf_ 45 ?_); refine gx_ Try.func45 (slices_Clone_int_int.calls _ _ l0_1 t332 _ ?side1 HC0_1.out A3.out) ?_; (case side1 => exact Kd.C_below HR0_1.out ba_); rintro v333 w12 ⟨ho0, hb⟩; replace HO331 := am (Kd.S_elder' (by (with_reducible repeat (first | apply Kd.S_alloc | apply Kd.S_drewN | apply Kd.S_drew)); exact (Kd.S_mono (Kd.S_far (p := ⟨gb327, 0, none⟩) (Kd.S_types HO331.out BK327.out (by decide)) (fun _ hk => hk.2) (.slice Ao10 t329.length co10)) (fun _ h_ => h_.1))) (Kd.R_base ho0) hb); have HO334 := am (Kd.R_lower ho0 (below_size ba_)); replace BK327 := bp_ BK327 hb; replace BK328 := bp_ BK328 hb; replace HB := am (below_step ba_ hb); (try clear hb); (try clear hb2); (try clear hk); (try clear hi); (try clear ho0); obtain ⟨Ao13, co13, eo13⟩ := Kd.R_slice HO334.out; subst eo13; obtain ⟨⟨_, _, _, _, _⟩, _, _, _, _, _⟩ := Op.cells5 BK327.out) | ((with_reducible refine gf_ 45 ?_); refine gx_ Try.func45 (slices_Clone_int_int.calls _ _ l0_2 t335 _ ?side1 HC0_2.out A4.out) ?_; (case side1 => exact Kd.C_below HR0_2.out ba_); rintro v336 w15 ⟨ho0, hb⟩; replace HO331 := am (Kd.S_elder' (by (with_reducible repeat (first | apply Kd.S_alloc | apply Kd.S_drewN | apply Kd.S_drew)); exact (Kd.S_mono (Kd.S_far (p := ⟨gb327, 1, none⟩) (Kd.S_types HO331.out BK327.out (by decide)) (fun _ hk => hk.2) (.slice Ao13 t332.length co13)) (fun _ h_ => h_.1))) (Kd.R_base ho0) hb); have HO337 := am (Kd.R_lower (Kd.R_new' ho0 (Kd.R_lt (by (with_reducible repeat (first | apply Kd.R_alloc | apply Kd.R_drewN | apply Kd.R_drew)); exact (Kd.R_mono (Kd.R_far (p := ⟨gb327, 1, none⟩) (Kd.R_types HO334.out BK327.out (by decide)) (fun _ hk => hk.2) (.slice Ao13 t332.length co13)) (fun _ h_ => h_.1))))) (below_size ba_)); replace HO334 := am (Kd.R_elder' (by (with_reducible repeat (first | apply Kd.R_alloc | apply Kd.R_drewN | apply Kd.R_drew)); exact (Kd.R_mono (Kd.R_far (p := ⟨gb327, 1, none⟩) (Kd.R_types HO334.out BK327.out (by decide)) (fun _ hk => hk.2) (.slice Ao13 t332.length co13)) (fun _ h_ => h_.1))) (Kd.R_base ho0) hb); replace BK327 := bp_ BK327 hb; replace BK328 := bp_ BK328 hb; replace HB := am (below_step ba_ hb); (try clear hb); (try clear hb2); (try clear hk); (try clear hi); (try clear ho0); obtain ⟨Ao16, co16, eo16⟩ := Kd.R_slice HO337.out; subst eo16; obtain ⟨⟨_, _, _, _, _⟩, _, _, _, _, _⟩ := Op.cells5 BK327.out; obtain ⟨⟨_, _, _, _, _⟩, _, _, _, _, _⟩ := Op.cells5 BK328.out))
 refine bodyPost_ret (results_cell_row rfl _ _ gb328 33 #[.slice Ao10 t329.length co10, .slice Ao13 t332.length co13, .slice Ao16 t335.length co16, .int .i64 a0_3, .int .i64 a0_4] (0, 0) _ rfl (bq_ BK328) Try.underlying33 rfl (by kernel_rfl)) rfl ?_
 exact ⟨_, _, _, ab7, by (with_reducible repeat (first | apply Kd.S_alloc | apply Kd.S_drewN | apply Kd.S_drew)); exact Kd.S_mono (Kd.S_far (p := ⟨gb328, 4, none⟩) (Kd.S_far (p := ⟨gb328, 3, none⟩) (Kd.S_far (p := ⟨gb328, 2, none⟩) (Kd.S_far (p := ⟨gb328, 1, none⟩) (Kd.S_far (p := ⟨gb328, 0, none⟩) (Kd.S_far (p := ⟨gb327, 2, none⟩) (Kd.S_types (Kd.S_types HO331.out BK327.out (by decide)) BK328.out (by decide)) (fun _ hk => hk.1.2) (.slice Ao16 t335.length co16)) (fun _ hk => hk.2) (.slice Ao10 t329.length co10)) (fun _ hk => hk.2) (.slice Ao13 t332.length co13)) (fun _ hk => hk.2) (.slice Ao16 t335.length co16)) (fun _ hk => hk.2) (.int .i64 a0_3)) (fun _ hk => hk.2) (.int .i64 a0_4)) (fun _ hk => ⟨hk.1.1.1.2, hk.1.1.2⟩), by (with_reducible repeat (first | apply Kd.R_alloc | apply Kd.R_drewN | apply Kd.R_drew)); exact Kd.R_mono (Kd.R_far (p := ⟨gb328, 4, none⟩) (Kd.R_far (p := ⟨gb328, 3, none⟩) (Kd.R_far (p := ⟨gb328, 2, none⟩) (Kd.R_far (p := ⟨gb328, 1, none⟩) (Kd.R_far (p := ⟨gb328, 0, none⟩) (Kd.R_far (p := ⟨gb327, 2, none⟩) (Kd.R_types (Kd.R_types HO334.out BK327.out (by decide)) BK328.out (by decide)) (fun _ hk => hk.1.2) (.slice Ao16 t335.length co16)) (fun _ hk => hk.2) (.slice Ao10 t329.length co10)) (fun _ hk => hk.2) (.slice Ao13 t332.length co13)) (fun _ hk => hk.2) (.slice Ao16 t335.length co16)) (fun _ hk => hk.2) (.int .i64 a0_3)) (fun _ hk => hk.2) (.int .i64 a0_4)) (fun _ hk => hk.1.1.2), by (with_reducible repeat (first | apply Kd.R_alloc | apply Kd.R_drewN | apply Kd.R_drew)); exact Kd.R_mono (Kd.R_far (p := ⟨gb328, 4, none⟩) (Kd.R_far (p := ⟨gb328, 3, none⟩) (Kd.R_far (p := ⟨gb328, 2, none⟩) (Kd.R_far (p := ⟨gb328, 1, none⟩) (Kd.R_far (p := ⟨gb328, 0, none⟩) (Kd.R_far (p := ⟨gb327, 2, none⟩) (Kd.R_types (Kd.R_types HO337.out BK327.out (by decide)) BK328.out (by decide)) (fun _ hk => hk.1.2) (.slice Ao16 t335.length co16)) (fun _ hk => hk.2) (.slice Ao10 t329.length co10)) (fun _ hk => hk.2) (.slice Ao13 t332.length co13)) (fun _ hk => hk.2) (.slice Ao16 t335.length co16)) (fun _ hk => hk.2) (.int .i64 a0_3)) (fun _ hk => hk.2) (.int .i64 a0_4)) (fun _ hk => hk.1.1.2), ba_⟩
def impl_inRange.f (a0 : Int) (a1 : Int) (a2 : Int) : Option (Bool) := if a0 ≥ a1 then (some (decide (a0 ≤ a2))) else (some false)
theorem impl_inRange.calls (a0 : Int) (a1 : Int) (a2 : Int) (r : Bool) (w : World) (h : impl_inRange.f a0 a1 a2 = some r) :
  Calls Try.prog 66 #[.int .i64 a0, .int .i64 a1, .int .i64 a2] w fun e w' => e = .returned (.bool r) ∧ Drawn0 w w' := by
 have H : (if a0 ≥ a1 then (some (decide (a0 ≤ a2))) else (some false)) = some r := h
 clear h
 by_cases c4 : a0 ≥ a1
 ·rw [if_pos c4] at H
  have c4b0 : decide (a1 ≤ a0) = true := decide_eq_true c4
  clear c4
  obtain rfl := Option.some.inj H
  go_enter Try.func66, Try.ntmps66
  go_wp2
  go_ret
  exact ⟨ab6, by repeat (first | exact Drawn0.refl _ | apply Drawn0.step)⟩
 ·rw [if_neg c4] at H
  have c4b0 : decide (a1 ≤ a0) = false := decide_eq_false c4
  clear c4
  obtain rfl := Option.some.inj H
  go_enter Try.func66, Try.ntmps66
  go_wp2
  go_ret
  exact ⟨ab6, by repeat (first | exact Drawn0.refl _ | apply Drawn0.step)⟩
/-- A state of type 33 at block g of W; what its slices lead to came in by w0. -/
def IsS33 (w0 W : World) (g : Nat) (f0 : List (S38)) (f1 : List Int) (f2 : List Int) (f3 : Int) (f4 : Int) : Prop := ∃ A0 c0, ∃ A1 c1, ∃ A2 c2, W.heap[g]? = some (.cells #[.slice A0 f0.length c0, .slice A1 f1.length c1, .slice A2 f2.length c2, .int .i64 f3, .int .i64 f4] 33 (0, 0)) ∧ (True ∧ f0.length ≤ c0 ∧ f1.length ≤ c1 ∧ f2.length ≤ c2) ∧ Kd.C k38 w0 A0 f0.length f0 ∧ Kd.C (Kd.int .i64) w0 A1 f1.length f1 ∧ Kd.C (Kd.int .i64) w0 A2 f2.length f2
theorem IsS33.grown {w0 W : World} {g : Nat} {f0 : List (S38)} {f1 : List Int} {f2 : List Int} {f3 : Int} {f4 : Int} {W1 : World} {row : Option Nat} (h : IsS33 w0 W g f0 f1 f2 f3 f4) (hw : W.grownBy W1 row) (hne : some g ≠ row) : IsS33 w0 W1 g f0 f1 f2 f3 f4 := by
 obtain ⟨A0, c0, A1, c1, A2, c2, hb, hg, hr0, hr1, hr2⟩ := h
 exact ⟨A0, c0, A1, c1, A2, c2, blk_grown hb hw hne, hg, hr0, hr1, hr2⟩
theorem IsS33.below {w0 W : World} {g : Nat} {f0 : List (S38)} {f1 : List Int} {f2 : List Int} {f3 : Int} {f4 : Int} {W1 : World} (h : IsS33 w0 W g f0 f1 f2 f3 f4) (hw : Below W.heap.size W W1) : IsS33 w0 W1 g f0 f1 f2 f3 f4 := h.grown (grown_of_below hw none) (by simp)
theorem IsS33.drewN {w0 W : World} {g : Nat} {f0 : List (S38)} {f1 : List Int} {f2 : List Int} {f3 : Int} {f4 : Int} (h : IsS33 w0 W g f0 f1 f2 f3 f4) (m : Nat) : IsS33 w0 (W.drewN m) g f0 f1 f2 f3 f4 := h
def impl_Page_isTag.f (s0_0 : List (S38)) (s0_1 : List Int) (s0_2 : List Int) (s0_3 : Int) (s0_4 : Int) (a1 : Int) : Option (Bool × Int × Int) := (impl_inRange.f a1 0 (wrap64 ((s0_0.length : Int) - 1))).bind fun t338 => (if t338 = true then (if 0 ≤ a1 then (if a1 < (s0_0.length : Int) then (some ((((rd_T38 s0_0 a1).f0) == 2), s0_3, s0_4)) else (none)) else (none)) else (some (false, s0_3, s0_4)))
theorem impl_Page_isTag.calls (g : Nat) (s0_0 : List (S38)) (s0_1 : List Int) (s0_2 : List Int) (s0_3 : Int) (s0_4 : Int) (a1 : Int) (r1 : Bool) (r2 : Int) (r3 : Int) (w0 w : World) (hI : IsS33 w0 w g s0_0 s0_1 s0_2 s0_3 s0_4) (hB : Below w0.heap.size w0 w) (h : impl_Page_isTag.f s0_0 s0_1 s0_2 s0_3 s0_4 a1 = some (r1, r2, r3)) :
  Calls Try.prog 46 #[.pointer (some ⟨g, 0, none⟩), .int .i64 a1] w fun e w' => e = .returned (.bool r1) ∧ IsS33 w0 w' g s0_0 s0_1 s0_2 r2 r3 ∧ Below w0.heap.size w0 w' ∧ KeepBut w w' g none := by
 have HI0 := am hI
 have HK := am (KeepBut.refl w g none)
 have HL := am hB.size
 clear hI
 have HW0 := am hB.size
 have HB := am hB
 clear hB
 have H : ((impl_inRange.f a1 0 (wrap64 ((s0_0.length : Int) - 1))).bind fun t338 => (if t338 = true then (if 0 ≤ a1 then (if a1 < (s0_0.length : Int) then (some ((((rd_T38 s0_0 a1).f0) == 2), s0_3, s0_4)) else (none)) else (none)) else (some (false, s0_3, s0_4)))) = some (r1, r2, r3) := h
 clear h
 replace H := bi_ H; obtain ⟨t338, A3, H⟩ := H
 replace H := ib_ H; rcases H with ⟨rfl, H⟩ | ⟨rfl, H⟩
 ·replace H := iq_ H; obtain ⟨c5b0, H⟩ := H
  replace H := iq_ H; obtain ⟨c6b0, H⟩ := H
  simp only [Option.some.injEq, Prod.mk.injEq] at H
  obtain ⟨rfl, rfl, rfl⟩ := H
  obtain ⟨ASz7_0, cSz7_0, ASz7_1, cSz7_1, ASz7_2, cSz7_2, HGz7, hgz7, HSz7_0, HSz7_1, HSz7_2⟩ := HI0.out
  obtain ⟨⟨_, _, _, _, _⟩, _, _, _, _, _⟩ := Op.cells5 HGz7
  clear HGz7 hgz7
  go_enter Try.func46, Try.ntmps46
  go_wp2_with (first | ((with_reducible refine gf_ 66 ?_); refine gc_ Try.func66 (impl_inRange.calls a1 0 (wrap64 ((s0_0.length : Int) - 1)) true _ A3.out) ?_; rintro w' ⟨nd, rfl⟩; have p339 : 0 ≤ (a1 : Int) := of_decide_eq_true ab4; have q339 : a1 < (s0_0.length : Int) := of_decide_eq_true ab4; obtain ⟨ad339, A339_3, c339_3, A339_6, c339_6, e339, hx339_0, hx339_1, hx339_2, hx339_3, hx339_4, hx339_5, hx339_6, hl339_3, hi339_3, hl339_6, hi339_6⟩ := at_T38 HSz7_0 a1 p339 q339; cases e339; replace hx339_0 := pc_ HB hx339_0; replace hx339_1 := pc_ HB hx339_1; replace hx339_2 := pc_ HB hx339_2; replace hx339_3 := pc_ HB hx339_3; replace hx339_4 := pc_ HB hx339_4; replace hx339_5 := pc_ HB hx339_5; replace hx339_6 := pc_ HB hx339_6; have HR339_3 := am hi339_3; have HC339_3 := am hl339_3; clear hi339_3 hl339_3; have HR339_6 := am hi339_6; have HC339_6 := am hl339_6; clear hi339_6 hl339_6; replace p339 := eq_true p339; replace q339 := eq_true q339))
  go_ret
  exact ⟨ab7, by repeat (first | (with_reducible first | exact HI0.out | apply IsS33.alloc | apply IsS33.drewN | apply IsS33.drew | apply IsS33.set_3 | apply IsS33.set_4) | exact HI0.out), ab1, by repeat (first | (with_reducible first | exact HK.out | apply KeepBut.set_ | apply keep_drewN | apply keep_drew | apply keep_alloc) | exact HK.out)⟩
 ·simp only [Option.some.injEq, Prod.mk.injEq] at H
  obtain ⟨rfl, rfl, rfl⟩ := H
  obtain ⟨ASz8_0, cSz8_0, ASz8_1, cSz8_1, ASz8_2, cSz8_2, HGz8, hgz8, HSz8_0, HSz8_1, HSz8_2⟩ := HI0.out
  obtain ⟨⟨_, _, _, _, _⟩, _, _, _, _, _⟩ := Op.cells5 HGz8
  clear HGz8 hgz8
  go_enter Try.func46, Try.ntmps46
  go_wp2_with (first | ((with_reducible refine gf_ 66 ?_); refine gc_ Try.func66 (impl_inRange.calls a1 0 (wrap64 ((s0_0.length : Int) - 1)) false _ A3.out) ?_; rintro w' ⟨nd, rfl⟩))
  go_ret
  exact ⟨ab7, by repeat (first | (with_reducible first | exact HI0.out | apply IsS33.alloc | apply IsS33.drewN | apply IsS33.drew | apply IsS33.set_3 | apply IsS33.set_4) | exact HI0.out), ab1, by repeat (first | (with_reducible first | exact HK.out | apply KeepBut.set_ | apply keep_drewN | apply keep_drew | apply keep_alloc) | exact HK.out)⟩
def slices_Index_int_int.l0 : Nat → List Int → Int → Int → Int → Option (Int)
 | 0, _, _, _, _ => none
 | k + 1, x0, x1, x7, x8 => if x8 < x7 then (if 0 ≤ x8 then (if x8 < (x0.length : Int) then (if x1 = (rd x0 x8) then (some x8) else (slices_Index_int_int.l0 k x0 x1 x7 (wrap64 (x8 + 1)))) else (none)) else (none)) else (some (-1))
def slices_Index_int_int.f (k : Nat) (l0 : List Int) (a1 : Int) : Option (Int) := slices_Index_int_int.l0 k l0 a1 (l0.length : Int) 0
theorem slices_Index_int_int.calls (k : Nat) (A0 : Option Addr) (c0 : Nat) (l0 : List Int) (a1 : Int) (r : Int) (w : World) (hr0 : Kd.C (Kd.int .i64) w A0 l0.length l0) (hc0 : l0.length ≤ c0) (h : slices_Index_int_int.f k l0 a1 = some r) :
  Calls Try.prog 47 #[.slice A0 l0.length c0, .int .i64 a1] w fun e w' => e = .returned (.int .i64 r) ∧ Drawn0 w w' := by
 have HR0 := am hr0
 have HC0 := am hc0
 clear hr0 hc0
 have H : (slices_Index_int_int.l0 k l0 a1 (l0.length : Int) 0) = some r := h
 clear h
 have H' := am H
 clear H
 go_enter Try.func47, Try.ntmps47
 go_wp2
 go_loopg [8] k (fun kq v8 w' => ∃ (x8_1 : Int), v8 = .int .i64 x8_1 ∧ Aside0 (slices_Index_int_int.l0 kq l0 a1 (l0.length : Int) x8_1 = some r) ∧ Aside0 (kq ≤ k) ∧ Drawn0 w w')
 case atStart => exact ⟨(0), ab6, H', ⟨Nat.le_refl _⟩, by repeat (first | exact Drawn0.refl _ | apply Drawn0.step)⟩
 case round =>
  clear H'
  try clear p2
  obtain ⟨x8_1, rfl, HA, HK1, ⟨m1, rfl⟩⟩ := hrel
  cases gk with
  | zero => exact absurd HA.out (by simp [slices_Index_int_int.l0])
  | succ k1 =>
   have H := HA.out
   clear HA
   simp only [slices_Index_int_int.l0] at H
   replace H := ir_ H; rcases H with ⟨c3b0, H⟩ | ⟨c3b0, H⟩
   ·replace H := iq_ H; obtain ⟨c4b0, H⟩ := H
    replace H := iq_ H; obtain ⟨c5b0, H⟩ := H
    replace H := ie_ H; rcases H with ⟨c6b0, c6b1, H⟩ | ⟨c6, c6b0, c6b1, H⟩
    ·obtain rfl := Option.some.inj H
     have p340 : 0 ≤ (x8_1 : Int) := of_decide_eq_true ab4
     have q340 : x8_1 < (l0.length : Int) := of_decide_eq_true ab4
     obtain ⟨ad340, e340, hx340_0⟩ := Kd.at_int HR0.out x8_1 p340 q340
     cases e340
     replace p340 := eq_true p340
     replace q340 := eq_true q340
     go_wp2
     go_ret
     exact ⟨ab6, by repeat (first | exact Drawn0.refl _ | apply Drawn0.step)⟩
    ·have H' := am H
     clear H
     have p340 : 0 ≤ (x8_1 : Int) := of_decide_eq_true ab4
     have q340 : x8_1 < (l0.length : Int) := of_decide_eq_true ab4
     obtain ⟨ad340, e340, hx340_0⟩ := Kd.at_int HR0.out x8_1 p340 q340
     cases e340
     replace p340 := eq_true p340
     replace q340 := eq_true q340
     go_wp2
     go_roundg k1
     case measure => have := HK1.out; omega
     case rel => exact ⟨(wrap64 (x8_1 + 1)), ab6, H', ⟨by have := HK1.out; omega⟩, by repeat (first | exact Drawn0.refl _ | apply Drawn0.step)⟩
   ·obtain rfl := Option.some.inj H
    go_wp2
    go_ret
    exact ⟨ab6, by repeat (first | exact Drawn0.refl _ | apply Drawn0.step)⟩
theorem z23_0 {q0 p : Prop} (g0 : Aside0 q0) (h : Aside0 q0 → p := by intro g0_; repeat (first | (with_reducible first | exact g0_.out | apply IsS33.alloc | apply IsS33.drewN | apply IsS33.drew | apply IsS33.set_3 | apply IsS33.set_4) | exact g0_.out)) : p := h g0
theorem z23_1 {p : Prop} (h : p := by repeat (first | (with_reducible first | exact HK.out | apply KeepBut.set_ | apply keep_drewN | apply keep_drew | apply keep_alloc) | exact HK.out)) : p := h
def impl_Page_hasRoom.f (s0_0 : List (S38)) (s0_1 : List Int) (s0_2 : List Int) (s0_3 : Int) (s0_4 : Int) : Option (Bool × Int × Int) := some (decide ((s0_0.length : Int) < 3000), s0_3, s0_4)
theorem impl_Page_hasRoom.calls (g : Nat) (s0_0 : List (S38)) (s0_1 : List Int) (s0_2 : List Int) (s0_3 : Int) (s0_4 : Int) (r1 : Bool) (r2 : Int) (r3 : Int) (w0 w : World) (hI : IsS33 w0 w g s0_0 s0_1 s0_2 s0_3 s0_4) (hB : Below w0.heap.size w0 w) (h : impl_Page_hasRoom.f s0_0 s0_1 s0_2 s0_3 s0_4 = some (r1, r2, r3)) :
  Calls Try.prog 51 #[.pointer (some ⟨g, 0, none⟩)] w fun e w' => e = .returned (.bool r1) ∧ IsS33 w0 w' g s0_0 s0_1 s0_2 r2 r3 ∧ Below w0.heap.size w0 w' ∧ KeepBut w w' g none := by
 have HI0 := am hI
 have HK := am (KeepBut.refl w g none)
 have HL := am hB.size
 clear hI
 have HW0 := am hB.size
 have HB := am hB
 clear hB
 have H : (some (decide ((s0_0.length : Int) < 3000), s0_3, s0_4)) = some (r1, r2, r3) := h
 clear h
 simp only [Option.some.injEq, Prod.mk.injEq] at H
 obtain ⟨rfl, rfl, rfl⟩ := H
 obtain ⟨ASz2_0, cSz2_0, ASz2_1, cSz2_1, ASz2_2, cSz2_2, HGz2, hgz2, HSz2_0, HSz2_1, HSz2_2⟩ := HI0.out
 obtain ⟨⟨_, _, _, _, _⟩, _, _, _, _, _⟩ := Op.cells5 HGz2
 clear HGz2 hgz2
 go_enter Try.func51, Try.ntmps51
 go_wp2
 go_ret
 exact ⟨ab7, (z23_0 HI0), ab1, z23_1⟩
def impl_Page_last.f (s0_0 : List (S38)) (s0_1 : List Int) (s0_2 : List Int) (s0_3 : Int) (s0_4 : Int) : Option (Int × Int × Int) := if (s0_1.length : Int) = 0 then (some (0, s0_3, s0_4)) else (if 0 ≤ (wrap64 ((s0_1.length : Int) - 1)) then (if (wrap64 ((s0_1.length : Int) - 1)) < (s0_1.length : Int) then (some (rd s0_1 (wrap64 ((s0_1.length : Int) - 1)), s0_3, s0_4)) else (none)) else (none))
theorem impl_Page_last.calls (g : Nat) (s0_0 : List (S38)) (s0_1 : List Int) (s0_2 : List Int) (s0_3 : Int) (s0_4 : Int) (r1 : Int) (r2 : Int) (r3 : Int) (w0 w : World) (hI : IsS33 w0 w g s0_0 s0_1 s0_2 s0_3 s0_4) (hB : Below w0.heap.size w0 w) (h : impl_Page_last.f s0_0 s0_1 s0_2 s0_3 s0_4 = some (r1, r2, r3)) :
  Calls Try.prog 54 #[.pointer (some ⟨g, 0, none⟩)] w fun e w' => e = .returned (.int .i64 r1) ∧ IsS33 w0 w' g s0_0 s0_1 s0_2 r2 r3 ∧ Below w0.heap.size w0 w' ∧ KeepBut w w' g none := by
 have HI0 := am hI
 have HK := am (KeepBut.refl w g none)
 have HL := am hB.size
 clear hI
 have HW0 := am hB.size
 have HB := am hB
 clear hB
 have H : (if (s0_1.length : Int) = 0 then (some (0, s0_3, s0_4)) else (if 0 ≤ (wrap64 ((s0_1.length : Int) - 1)) then (if (wrap64 ((s0_1.length : Int) - 1)) < (s0_1.length : Int) then (some (rd s0_1 (wrap64 ((s0_1.length : Int) - 1)), s0_3, s0_4)) else (none)) else (none))) = some (r1, r2, r3) := h
 clear h
 replace H := ie_ H; rcases H with ⟨c2b0, c2b1, H⟩ | ⟨c2, c2b0, c2b1, H⟩
 ·simp only [Option.some.injEq, Prod.mk.injEq] at H
  obtain ⟨rfl, rfl, rfl⟩ := H
  obtain ⟨ASz3_0, cSz3_0, ASz3_1, cSz3_1, ASz3_2, cSz3_2, HGz3, hgz3, HSz3_0, HSz3_1, HSz3_2⟩ := HI0.out
  obtain ⟨⟨_, _, _, _, _⟩, _, _, _, _, _⟩ := Op.cells5 HGz3
  clear HGz3 hgz3
  go_enter Try.func54, Try.ntmps54
  go_wp2
  repeat (go_quiet (fail); try go_wp2)
  go_ret
  exact ⟨ab7, (z23_0 HI0), ab1, z23_1⟩
 ·have c2b2 : ¬ (s0_1 = []) := fun h_ => c2 (by rw [h_]; rfl)
  obtain ⟨ji4, hji4⟩ : ∃ j_ : Int, (wrap64 ((s0_1.length : Int) - 1)) = j_ := ⟨_, rfl⟩
  replace H : (if 0 ≤ (ji4) then (if (ji4) < (s0_1.length : Int) then (some (rd s0_1 (ji4), s0_3, s0_4)) else (none)) else (none)) = some (r1, r2, r3) := by first | (rw [hji4] at H; exact H) | (simp only [hji4] at H ⊢; exact H)
  have hji4w : (IntKind.i64.wrap ((s0_1.length : Int) - 1)) = ji4 := (i64_w _).trans hji4
  replace H := iq_ H; obtain ⟨c5b0, H⟩ := H
  replace H := iq_ H; obtain ⟨c6b0, H⟩ := H
  simp only [Option.some.injEq, Prod.mk.injEq] at H
  obtain ⟨rfl, rfl, rfl⟩ := H
  obtain ⟨ASz7_0, cSz7_0, ASz7_1, cSz7_1, ASz7_2, cSz7_2, HGz7, hgz7, HSz7_0, HSz7_1, HSz7_2⟩ := HI0.out
  obtain ⟨⟨_, _, _, _, _⟩, _, _, _, _, _⟩ := Op.cells5 HGz7
  clear HGz7 hgz7
  have p427 : 0 ≤ ((ji4) : Int) := of_decide_eq_true ab4
  have q427 : (ji4) < (s0_1.length : Int) := of_decide_eq_true ab4
  obtain ⟨ad427, e427, hx427_0⟩ := Kd.at_int HSz7_1 (ji4) p427 q427
  cases e427
  replace hx427_0 := pc_ HB hx427_0
  replace p427 := eq_true p427
  replace q427 := eq_true q427
  go_enter Try.func54, Try.ntmps54
  go_wp2
  repeat (go_quiet (fail); try go_wp2)
  go_ret
  exact ⟨by first | rfl | (simp <;> rfl) | (simp only [← hji4]; first | rfl | (simp <;> rfl)) | (simp [*] <;> rfl), (z23_0 HI0), ab1, z23_1⟩
def laws_eqIntS.l0 : Nat → List Int → List Int → Int → Option (Bool)
 | 0, _, _, _ => none
 | k + 1, x0, x1, x5 => if x5 < (x0.length : Int) then (if 0 ≤ x5 then (if x5 < (x1.length : Int) then (if (rd x0 x5) = (rd x1 x5) then (laws_eqIntS.l0 k x0 x1 (wrap64 (x5 + 1))) else (some false)) else (none)) else (none)) else (some true)
def laws_eqIntS.f (k : Nat) (l0 : List Int) (l1 : List Int) : Option (Bool) := if (l0.length : Int) = (l1.length : Int) then (laws_eqIntS.l0 k l0 l1 0) else (some false)
theorem laws_eqIntS.calls (k : Nat) (A0 : Option Addr) (c0 : Nat) (l0 : List Int) (A1 : Option Addr) (c1 : Nat) (l1 : List Int) (r : Bool) (w : World) (hr0 : Kd.C (Kd.int .i64) w A0 l0.length l0) (hc0 : l0.length ≤ c0) (hr1 : Kd.C (Kd.int .i64) w A1 l1.length l1) (hc1 : l1.length ≤ c1) (h : laws_eqIntS.f k l0 l1 = some r) :
  Calls Try.prog 29 #[.slice A0 l0.length c0, .slice A1 l1.length c1] w fun e w' => e = .returned (.bool r) ∧ Drawn0 w w' := by
 have HR0 := am hr0
 have HC0 := am hc0
 clear hr0 hc0
 have HR1 := am hr1
 have HC1 := am hc1
 clear hr1 hc1
 have H : (if (l0.length : Int) = (l1.length : Int) then (laws_eqIntS.l0 k l0 l1 0) else (some false)) = some r := h
 clear h
 by_cases c3 : (l0.length : Int) = (l1.length : Int)
 ·rw [if_pos c3] at H
  have c3b0 : ((l0.length : Int) == (l1.length : Int)) = true := beq_iff_eq.mpr c3
  have c3b1 : ((l0.length : Int) != (l1.length : Int)) = false := bne_eq_false_iff_eq.mpr c3
  have c3b2 : (l0.length == l1.length) = true := by first | simpa using c3 | (simp at c3 ⊢; omega)
  clear c3
  have H' := am H
  clear H
  go_enter Try.func29, Try.ntmps29
  go_wp2
  repeat (go_quiet (fail); try go_wp2)
  go_loopg [5] k (fun kq v5 w' => ∃ (x5_1 : Int), v5 = .int .i64 x5_1 ∧ Aside0 (laws_eqIntS.l0 kq l0 l1 x5_1 = some r) ∧ Aside0 (kq ≤ k) ∧ Drawn0 w w')
  case atStart => exact ⟨(0), ab6, H', ⟨Nat.le_refl _⟩, by repeat (first | exact Drawn0.refl _ | apply Drawn0.step)⟩
  case round =>
   clear H'
   (try clear c1); (try clear c2); (try clear p2); (try clear c3); (try clear c3b0); (try clear c3b1); (try clear c3b2)
   obtain ⟨x5_1, rfl, HA, HK1, ⟨m1, rfl⟩⟩ := hrel
   cases gk with
   | zero => exact absurd HA.out (by simp [laws_eqIntS.l0])
   | succ k1 =>
    have H := HA.out
    clear HA
    simp only [laws_eqIntS.l0] at H
    replace H := ir_ H; rcases H with ⟨c4b0, H⟩ | ⟨c4b0, H⟩
    ·replace H := iq_ H; obtain ⟨c5b0, H⟩ := H
     replace H := iq_ H; obtain ⟨c6b0, H⟩ := H
     replace H := ie_ H; rcases H with ⟨c7b0, c7b1, H⟩ | ⟨c7, c7b0, c7b1, H⟩
     ·have H' := am H
      clear H
      have p452 : 0 ≤ (x5_1 : Int) := of_decide_eq_true ab4
      have q452 : x5_1 < (l0.length : Int) := of_decide_eq_true ab4
      obtain ⟨ad452, e452, hx452_0⟩ := Kd.at_int HR0.out x5_1 p452 q452
      cases e452
      replace p452 := eq_true p452
      replace q452 := eq_true q452
      have p453 : 0 ≤ (x5_1 : Int) := of_decide_eq_true ab4
      have q453 : x5_1 < (l1.length : Int) := of_decide_eq_true ab4
      obtain ⟨ad453, e453, hx453_0⟩ := Kd.at_int HR1.out x5_1 p453 q453
      cases e453
      replace p453 := eq_true p453
      replace q453 := eq_true q453
      go_wp2
      repeat (go_quiet (fail); try go_wp2)
      go_roundg k1
      case measure => have := HK1.out; omega
      case rel => exact ⟨(wrap64 (x5_1 + 1)), ab6, H', ⟨by have := HK1.out; omega⟩, by repeat (first | exact Drawn0.refl _ | apply Drawn0.step)⟩
     ·obtain rfl := Option.some.inj H
      have p452 : 0 ≤ (x5_1 : Int) := of_decide_eq_true ab4
      have q452 : x5_1 < (l0.length : Int) := of_decide_eq_true ab4
      obtain ⟨ad452, e452, hx452_0⟩ := Kd.at_int HR0.out x5_1 p452 q452
      cases e452
      replace p452 := eq_true p452
      replace q452 := eq_true q452
      have p453 : 0 ≤ (x5_1 : Int) := of_decide_eq_true ab4
      have q453 : x5_1 < (l1.length : Int) := of_decide_eq_true ab4
      obtain ⟨ad453, e453, hx453_0⟩ := Kd.at_int HR1.out x5_1 p453 q453
      cases e453
      replace p453 := eq_true p453
      replace q453 := eq_true q453
      go_wp2
      repeat (go_quiet (fail); try go_wp2)
      go_ret
      exact ⟨ab6, by repeat (first | exact Drawn0.refl _ | apply Drawn0.step)⟩
    ·obtain rfl := Option.some.inj H
     go_wp2
     repeat (go_quiet (fail); try go_wp2)
     go_ret
     exact ⟨ab6, by repeat (first | exact Drawn0.refl _ | apply Drawn0.step)⟩
 ·rw [if_neg c3] at H
  have c3b0 : ((l0.length : Int) == (l1.length : Int)) = false := beq_eq_false_iff_ne.mpr c3
  have c3b1 : ((l0.length : Int) != (l1.length : Int)) = true := bne_iff_ne.mpr c3
  have c3b2 : (l0.length == l1.length) = false := by first | simpa using c3 | (simp at c3 ⊢; omega)
  obtain rfl := Option.some.inj H
  go_enter Try.func29, Try.ntmps29
  go_wp2
  repeat (go_quiet (fail); try go_wp2)
  go_ret
  exact ⟨ab6, by repeat (first | exact Drawn0.refl _ | apply Drawn0.step)⟩
def laws_eqAttr.f (a0_0 : ByteArray) (a0_1 : ByteArray) (a1_0 : ByteArray) (a1_1 : ByteArray) : Option (Bool) := if a0_0.toList = a1_0.toList then (if a0_1.toList = a1_1.toList then (some true) else (some false)) else (some false)
theorem laws_eqAttr.calls (a0_0 : ByteArray) (a0_1 : ByteArray) (a1_0 : ByteArray) (a1_1 : ByteArray) (r : Bool) (w : World) (h : laws_eqAttr.f a0_0 a0_1 a1_0 a1_1 = some r) :
  Calls Try.prog 55 #[.agg #[.string a0_0, .string a0_1], .agg #[.string a1_0, .string a1_1]] w fun e w' => e = .returned (.bool r) ∧ Below w.heap.size w w' := by
 have hu69 := Try.underlying69
 have HB := am (Below.refl w.heap.size w)
 have H : (if a0_0.toList = a1_0.toList then (if a0_1.toList = a1_1.toList then (some true) else (some false)) else (some false)) = some r := h
 clear h
 replace H := ie_ H; rcases H with ⟨c3b0, c3b1, H⟩ | ⟨c3, c3b0, c3b1, H⟩
 ·replace H := ie_ H; rcases H with ⟨c4b0, c4b1, H⟩ | ⟨c4, c4b0, c4b1, H⟩
  ·obtain rfl := Option.some.inj H
   go_enter Try.func55, Try.ntmps55
   go_wp2_with (first | ((with_reducible refine gd_ 2 ?_); refine bx_ 2 (cs := #[.string a0_0, .string a0_1]) 69 ?_; intro gb454 hg w5 hbox hb; have BK454 := am hbox; have GW454 := ge_ (w := w) hg; have GE454 := ge_ (w := w) hg; replace HB := am (below_step ab1 hb); clear hb hbox hg) | ((with_reducible refine gd_ 3 ?_); refine bx_ 3 (cs := #[.string a1_0, .string a1_1]) 69 ?_; intro gb455 hg w6 hbox hb; have BK455 := am hbox; have GW455 := gE_ (w := w) GE454 hg; have GE455 := gE_ (w := w) GE454 hg; replace HB := am (below_step (ab2 GE454) hb); have NB454_455 := nl_ BK454 hg; have NB455_454 := ng_ BK454 hg; replace BK454 := bl_ BK454 hb; clear hb hbox hg; have hnb7 := NB454_455.out; have hnc7 := NB455_454.out; obtain ⟨⟨_, _⟩, _, _⟩ := Op.cells2 BK454.out; obtain ⟨⟨_, _⟩, _, _⟩ := Op.cells2 BK455.out))
   go_ret
   exact ⟨ab7, ba_⟩
  ·obtain rfl := Option.some.inj H
   go_enter Try.func55, Try.ntmps55
   go_wp2_with (first | ((with_reducible refine gd_ 2 ?_); refine bx_ 2 (cs := #[.string a0_0, .string a0_1]) 69 ?_; intro gb454 hg w10 hbox hb; have BK454 := am hbox; have GW454 := ge_ (w := w) hg; have GE454 := ge_ (w := w) hg; replace HB := am (below_step ab1 hb); clear hb hbox hg) | ((with_reducible refine gd_ 3 ?_); refine bx_ 3 (cs := #[.string a1_0, .string a1_1]) 69 ?_; intro gb455 hg w11 hbox hb; have BK455 := am hbox; have GW455 := gE_ (w := w) GE454 hg; have GE455 := gE_ (w := w) GE454 hg; replace HB := am (below_step (ab2 GE454) hb); have NB454_455 := nl_ BK454 hg; have NB455_454 := ng_ BK454 hg; replace BK454 := bl_ BK454 hb; clear hb hbox hg; have hnb12 := NB454_455.out; have hnc12 := NB455_454.out; obtain ⟨⟨_, _⟩, _, _⟩ := Op.cells2 BK454.out; obtain ⟨⟨_, _⟩, _, _⟩ := Op.cells2 BK455.out))
   go_ret
   exact ⟨ab7, ba_⟩
 ·obtain rfl := Option.some.inj H
  go_enter Try.func55, Try.ntmps55
  go_wp2_with (first | ((with_reducible refine gd_ 2 ?_); refine bx_ 2 (cs := #[.string a0_0, .string a0_1]) 69 ?_; intro gb454 hg w15 hbox hb; have BK454 := am hbox; have GW454 := ge_ (w := w) hg; have GE454 := ge_ (w := w) hg; replace HB := am (below_step ab1 hb); clear hb hbox hg) | ((with_reducible refine gd_ 3 ?_); refine bx_ 3 (cs := #[.string a1_0, .string a1_1]) 69 ?_; intro gb455 hg w16 hbox hb; have BK455 := am hbox; have GW455 := gE_ (w := w) GE454 hg; have GE455 := gE_ (w := w) GE454 hg; replace HB := am (below_step (ab2 GE454) hb); have NB454_455 := nl_ BK454 hg; have NB455_454 := ng_ BK454 hg; replace BK454 := bl_ BK454 hb; clear hb hbox hg; have hnb17 := NB454_455.out; have hnc17 := NB455_454.out; obtain ⟨⟨_, _⟩, _, _⟩ := Op.cells2 BK454.out; obtain ⟨⟨_, _⟩, _, _⟩ := Op.cells2 BK455.out))
  go_ret
  exact ⟨ab7, ba_⟩
def laws_eqAttrS.l0 : Nat → List (S69) → List (S69) → Int → Option (Bool)
 | 0, _, _, _ => none
 | k + 1, x0, x1, x5 => if x5 < (x0.length : Int) then (if 0 ≤ x5 then (if x5 < (x1.length : Int) then ((laws_eqAttr.f ((rd_T69 x0 x5).f0) ((rd_T69 x0 x5).f1) ((rd_T69 x1 x5).f0) ((rd_T69 x1 x5).f1)).bind fun t458 => (if t458 = true then (laws_eqAttrS.l0 k x0 x1 (wrap64 (x5 + 1))) else (some false))) else (none)) else (none)) else (some true)
def laws_eqAttrS.f (k : Nat) (l0 : List (S69)) (l1 : List (S69)) : Option (Bool) := if (l0.length : Int) = (l1.length : Int) then (laws_eqAttrS.l0 k l0 l1 0) else (some false)
def laws_eqAttrS.T6 : Bool × List (List Nat × List Nat) := (true, [([], []), ([], []), ([0, 1], [0, 1]), ([2], [2]), ([], []), ([], []), ([4, 5], [4, 5]), ([6], [6]), ([3, 7], [3, 7]), ([8], [8])])
def laws_eqAttrS.B6 : List Nat := [0, 0, 3, 7, 0, 0, 48, 112, 255, 511]
theorem laws_eqAttrS.tab6 : rtab .any (opsOf Try.f30 6) = laws_eqAttrS.T6 := by kernel_rfl
theorem laws_eqAttrS.bits6 : waitsOk laws_eqAttrS.T6.2 laws_eqAttrS.B6 = true := by kernel_rfl
theorem laws_eqAttrS.calls (k : Nat) (A0 : Option Addr) (c0 : Nat) (l0 : List (S69)) (A1 : Option Addr) (c1 : Nat) (l1 : List (S69)) (r : Bool) (w : World) (hr0 : Kd.C k69 w A0 l0.length l0) (hc0 : l0.length ≤ c0) (hr1 : Kd.C k69 w A1 l1.length l1) (hc1 : l1.length ≤ c1) (h : laws_eqAttrS.f k l0 l1 = some r) :
  Calls Try.prog 30 #[.slice A0 l0.length c0, .slice A1 l1.length c1] w fun e w' => e = .returned (.bool r) ∧ Below w.heap.size w w' := by
 have hu69 := Try.underlying69
 have HR0 := am hr0
 have HC0 := am hc0
 clear hr0 hc0
 have HR1 := am hr1
 have HC1 := am hc1
 clear hr1 hc1
 have HB := am (Below.refl w.heap.size w)
 have H : (if (l0.length : Int) = (l1.length : Int) then (laws_eqAttrS.l0 k l0 l1 0) else (some false)) = some r := h
 clear h
 by_cases c3 : (l0.length : Int) = (l1.length : Int)
 ·rw [if_pos c3] at H
  have c3b0 : ((l0.length : Int) == (l1.length : Int)) = true := beq_iff_eq.mpr c3
  have c3b1 : ((l0.length : Int) != (l1.length : Int)) = false := bne_eq_false_iff_eq.mpr c3
  have c3b2 : (l0.length == l1.length) = true := by first | simpa using c3 | (simp at c3 ⊢; omega)
  clear c3
  have H' := am H
  clear H
  go_enter Try.func30, Try.ntmps30
  go_wp2
  go_loopg [5] k (fun kq v5 w' => ∃ (x5_1 : Int), v5 = .int .i64 x5_1 ∧ Aside0 (laws_eqAttrS.l0 kq l0 l1 x5_1 = some r) ∧ Aside0 (kq ≤ k) ∧ Aside0 (Below w.heap.size w w'))
  case atStart => exact ⟨(0), ab6, H', ⟨Nat.le_refl _⟩, ⟨ab1⟩⟩
  case round =>
   clear H'
   (try clear c1); (try clear p2); (try clear c3); (try clear c3b0); (try clear c3b1); (try clear c3b2)
   obtain ⟨x5_1, rfl, HA, HK1, HB⟩ := hrel
   cases gk with
   | zero => exact absurd HA.out (by simp [laws_eqAttrS.l0])
   | succ k1 =>
    have H := HA.out
    clear HA
    simp only [laws_eqAttrS.l0] at H
    replace H := ir_ H; rcases H with ⟨c4b0, H⟩ | ⟨c4b0, H⟩
    ·replace H := iq_ H; obtain ⟨c5b0, H⟩ := H
     replace H := iq_ H; obtain ⟨c6b0, H⟩ := H
     replace H := bi_ H; obtain ⟨t458, A7, H⟩ := H
     replace H := ib_ H; rcases H with ⟨rfl, H⟩ | ⟨rfl, H⟩
     ·have H' := am H
      clear H
      try go_wp2
      replace HB := am (below_drew1 HB.out)
      have p456 : 0 ≤ (x5_1 : Int) := of_decide_eq_true ab4
      have q456 : x5_1 < (l0.length : Int) := of_decide_eq_true ab4
      obtain ⟨ad456, e456, hx456_0, hx456_1⟩ := at_T69 HR0.out x5_1 p456 q456
      have hw456_1 := hx456_1
      have hw456_0 := hx456_0
      cases e456
      replace hx456_0 := pc_ HB hx456_0
      replace hx456_1 := pc_ HB hx456_1
      replace p456 := eq_true p456
      replace q456 := eq_true q456
      have p457 : 0 ≤ (x5_1 : Int) := of_decide_eq_true ab4
      have q457 : x5_1 < (l1.length : Int) := of_decide_eq_true ab4
      obtain ⟨ad457, e457, hx457_0, hx457_1⟩ := at_T69 HR1.out x5_1 p457 q457
      have hw457_1 := hx457_1
      have hw457_0 := hx457_0
      cases e457
      replace hx457_0 := pc_ HB hx457_0
      replace hx457_1 := pc_ HB hx457_1
      replace p457 := eq_true p457
      replace q457 := eq_true q457
      refine start_ (n := 10) (S := fun w' => w'.cell? (ad456.add ((x5_1).toNat * 2)) = some (.string ((rd_T69 l0 x5_1).f0)) ∧ w'.cell? ⟨(ad456.add ((x5_1).toNat * 2)).block, (ad456.add ((x5_1).toNat * 2)).off + 1, none⟩ = some (.string ((rd_T69 l0 x5_1).f1)) ∧ w'.cell? (ad457.add ((x5_1).toNat * 2)) = some (.string ((rd_T69 l1 x5_1).f0)) ∧ w'.cell? ⟨(ad457.add ((x5_1).toNat * 2)).block, (ad457.add ((x5_1).toNat * 2)).off + 1, none⟩ = some (.string ((rd_T69 l1 x5_1).f1))) (ds := []) #[false, false, false, false, false, false, false, false, false, false] (by kernel_rfl) rfl rfl ⟨(pc_ HB hw456_0 :), (pc_ HB hw456_1 :), (pc_ HB hw457_0 :), (pc_ HB hw457_1 :)⟩ (fun hHeld => ?_); refine with_tabW laws_eqAttrS.tab6 laws_eqAttrS.bits6 (fun HT_ HW_ => ?_)
      generalize wr.drew = w9 at HB hx456_0 hx456_1 hx457_0 hx457_1 hHeld ⊢
      refine pa_ 0 17 HT_ ?_
      refine pa_ 1 18 HT_ ?_
      refine pa_ 2 19 HT_ ?_
      refine pa_ 4 21 HT_ ?_
      refine pa_ 5 22 HT_ ?_
      refine pa_ 6 23 HT_ ?_
      refine tk_ 3 20 HT_ HW_ hHeld ?_
      refine tk_ 7 24 HT_ HW_ hHeld ?_
      refine on_ 8 25 HT_ fun K hK => ?_
      refine goes_ Try.func55 (by kernel_rfl) rfl #[.agg #[.string ((rd_T69 l0 x5_1).f0), .string ((rd_T69 l0 x5_1).f1)], .agg #[.string ((rd_T69 l1 x5_1).f0), .string ((rd_T69 l1 x5_1).f1)]] (by rfl) rfl rfl ab5 ?_
      with_reducible refine (laws_eqAttr.calls ((rd_T69 l0 x5_1).f0) ((rd_T69 l0 x5_1).f1) ((rd_T69 l1 x5_1).f0) ((rd_T69 l1 x5_1).f1) true _ A7.out).mono ?_
      rintro e w10 ⟨rfl, hb⟩
      refine ⟨_, rfl, ?_⟩
      replace HB := am (below_step ab1 hb)
      (try clear hb)
      (try clear hb2)
      (try clear hk)
      (try clear hi)
      refine hK.out _ _ ⟨(pc_ HB hw456_0 :), (pc_ HB hw456_1 :), (pc_ HB hw457_0 :), (pc_ HB hw457_1 :)⟩ (fun hHeld => ?_)
      clear hK K
      refine nm_ ?_
      refine pa_ 9 26 HT_ ?_
      refine dn_ HT_ ?_
      try go_wp2
      go_roundg k1
      case measure => have := HK1.out; omega
      case rel => exact ⟨(wrap64 (x5_1 + 1)), ab6, H', ⟨by have := HK1.out; omega⟩, ⟨ab1⟩⟩
     ·obtain rfl := Option.some.inj H
      try go_wp2
      replace HB := am (below_drew1 HB.out)
      have p456 : 0 ≤ (x5_1 : Int) := of_decide_eq_true ab4
      have q456 : x5_1 < (l0.length : Int) := of_decide_eq_true ab4
      obtain ⟨ad456, e456, hx456_0, hx456_1⟩ := at_T69 HR0.out x5_1 p456 q456
      have hw456_1 := hx456_1
      have hw456_0 := hx456_0
      cases e456
      replace hx456_0 := pc_ HB hx456_0
      replace hx456_1 := pc_ HB hx456_1
      replace p456 := eq_true p456
      replace q456 := eq_true q456
      have p457 : 0 ≤ (x5_1 : Int) := of_decide_eq_true ab4
      have q457 : x5_1 < (l1.length : Int) := of_decide_eq_true ab4
      obtain ⟨ad457, e457, hx457_0, hx457_1⟩ := at_T69 HR1.out x5_1 p457 q457
      have hw457_1 := hx457_1
      have hw457_0 := hx457_0
      cases e457
      replace hx457_0 := pc_ HB hx457_0
      replace hx457_1 := pc_ HB hx457_1
      replace p457 := eq_true p457
      replace q457 := eq_true q457
      refine start_ (n := 10) (S := fun w' => w'.cell? (ad456.add ((x5_1).toNat * 2)) = some (.string ((rd_T69 l0 x5_1).f0)) ∧ w'.cell? ⟨(ad456.add ((x5_1).toNat * 2)).block, (ad456.add ((x5_1).toNat * 2)).off + 1, none⟩ = some (.string ((rd_T69 l0 x5_1).f1)) ∧ w'.cell? (ad457.add ((x5_1).toNat * 2)) = some (.string ((rd_T69 l1 x5_1).f0)) ∧ w'.cell? ⟨(ad457.add ((x5_1).toNat * 2)).block, (ad457.add ((x5_1).toNat * 2)).off + 1, none⟩ = some (.string ((rd_T69 l1 x5_1).f1))) (ds := []) #[false, false, false, false, false, false, false, false, false, false] (by kernel_rfl) rfl rfl ⟨(pc_ HB hw456_0 :), (pc_ HB hw456_1 :), (pc_ HB hw457_0 :), (pc_ HB hw457_1 :)⟩ (fun hHeld => ?_); refine with_tabW laws_eqAttrS.tab6 laws_eqAttrS.bits6 (fun HT_ HW_ => ?_)
      generalize wr.drew = w11 at HB hx456_0 hx456_1 hx457_0 hx457_1 hHeld ⊢
      refine pa_ 0 17 HT_ ?_
      refine pa_ 1 18 HT_ ?_
      refine pa_ 2 19 HT_ ?_
      refine pa_ 4 21 HT_ ?_
      refine pa_ 5 22 HT_ ?_
      refine pa_ 6 23 HT_ ?_
      refine tk_ 3 20 HT_ HW_ hHeld ?_
      refine tk_ 7 24 HT_ HW_ hHeld ?_
      refine on_ 8 25 HT_ fun K hK => ?_
      refine goes_ Try.func55 (by kernel_rfl) rfl #[.agg #[.string ((rd_T69 l0 x5_1).f0), .string ((rd_T69 l0 x5_1).f1)], .agg #[.string ((rd_T69 l1 x5_1).f0), .string ((rd_T69 l1 x5_1).f1)]] (by rfl) rfl rfl ab5 ?_
      with_reducible refine (laws_eqAttr.calls ((rd_T69 l0 x5_1).f0) ((rd_T69 l0 x5_1).f1) ((rd_T69 l1 x5_1).f0) ((rd_T69 l1 x5_1).f1) false _ A7.out).mono ?_
      rintro e w12 ⟨rfl, hb⟩
      refine ⟨_, rfl, ?_⟩
      replace HB := am (below_step ab1 hb)
      (try clear hb)
      (try clear hb2)
      (try clear hk)
      (try clear hi)
      refine hK.out _ _ ⟨(pc_ HB hw456_0 :), (pc_ HB hw456_1 :), (pc_ HB hw457_0 :), (pc_ HB hw457_1 :)⟩ (fun hHeld => ?_)
      clear hK K
      refine nm_ ?_
      refine pa_ 9 26 HT_ ?_
      refine dn_ HT_ ?_
      try go_wp2
      go_ret
      exact ⟨ab7, ab1⟩
    ·obtain rfl := Option.some.inj H
     go_wp2
     go_ret
     exact ⟨ab7, ab1⟩
 ·rw [if_neg c3] at H
  have c3b0 : ((l0.length : Int) == (l1.length : Int)) = false := beq_eq_false_iff_ne.mpr c3
  have c3b1 : ((l0.length : Int) != (l1.length : Int)) = true := bne_iff_ne.mpr c3
  have c3b2 : (l0.length == l1.length) = false := by first | simpa using c3 | (simp at c3 ⊢; omega)
  obtain rfl := Option.some.inj H
  go_enter Try.func30, Try.ntmps30
  go_wp2
  go_ret
  exact ⟨ab7, ab1⟩
def laws_eqItem.f (k : Nat) (a0_0 : Int) (a0_1 : Int) (a0_2 : ByteArray) (l0_3 : List (S69)) (a0_4 : ByteArray) (a0_5 : Int) (l0_6 : List Int) (a1_0 : Int) (a1_1 : Int) (a1_2 : ByteArray) (l1_3 : List (S69)) (a1_4 : ByteArray) (a1_5 : Int) (l1_6 : List Int) : Option (Bool) := if a0_0 = a1_0 then (if a0_1 = a1_1 then (if a0_2.toList = a1_2.toList then ((laws_eqAttrS.f k l0_3 l1_3).bind fun t461 => (if t461 = true then (if a0_4.toList = a1_4.toList then (if a0_5 = a1_5 then ((laws_eqIntS.f k l0_6 l1_6).bind fun t462 => (if t462 = true then (some true) else (some false))) else (some false)) else (some false)) else (some false))) else (some false)) else (some false)) else (some false)
theorem laws_eqItem.calls (k : Nat) (a0_0 : Int) (a0_1 : Int) (a0_2 : ByteArray) (A0_3 : Option Addr) (c0_3 : Nat) (l0_3 : List (S69)) (a0_4 : ByteArray) (a0_5 : Int) (A0_6 : Option Addr) (c0_6 : Nat) (l0_6 : List Int) (a1_0 : Int) (a1_1 : Int) (a1_2 : ByteArray) (A1_3 : Option Addr) (c1_3 : Nat) (l1_3 : List (S69)) (a1_4 : ByteArray) (a1_5 : Int) (A1_6 : Option Addr) (c1_6 : Nat) (l1_6 : List Int) (r : Bool) (w : World) (hr0_3 : Kd.C k69 w A0_3 l0_3.length l0_3) (hc0_3 : l0_3.length ≤ c0_3) (hr0_6 : Kd.C (Kd.int .i64) w A0_6 l0_6.length l0_6) (hc0_6 : l0_6.length ≤ c0_6) (hr1_3 : Kd.C k69 w A1_3 l1_3.length l1_3) (hc1_3 : l1_3.length ≤ c1_3) (hr1_6 : Kd.C (Kd.int .i64) w A1_6 l1_6.length l1_6) (hc1_6 : l1_6.length ≤ c1_6) (h : laws_eqItem.f k a0_0 a0_1 a0_2 l0_3 a0_4 a0_5 l0_6 a1_0 a1_1 a1_2 l1_3 a1_4 a1_5 l1_6 = some r) :
  Calls Try.prog 11 #[.agg #[.int .i64 a0_0, .int .i64 a0_1, .string a0_2, .slice A0_3 l0_3.length c0_3, .string a0_4, .int .i64 a0_5, .slice A0_6 l0_6.length c0_6], .agg #[.int .i64 a1_0, .int .i64 a1_1, .string a1_2, .slice A1_3 l1_3.length c1_3, .string a1_4, .int .i64 a1_5, .slice A1_6 l1_6.length c1_6]] w fun e w' => e = .returned (.bool r) ∧ Below w.heap.size w w' := by
 have hu38 := Try.underlying38
 have HR0_3 := am hr0_3
 have HC0_3 := am hc0_3
 clear hr0_3 hc0_3
 have HR0_6 := am hr0_6
 have HC0_6 := am hc0_6
 clear hr0_6 hc0_6
 have HR1_3 := am hr1_3
 have HC1_3 := am hc1_3
 clear hr1_3 hc1_3
 have HR1_6 := am hr1_6
 have HC1_6 := am hc1_6
 clear hr1_6 hc1_6
 have HB := am (Below.refl w.heap.size w)
 have H : (if a0_0 = a1_0 then (if a0_1 = a1_1 then (if a0_2.toList = a1_2.toList then ((laws_eqAttrS.f k l0_3 l1_3).bind fun t461 => (if t461 = true then (if a0_4.toList = a1_4.toList then (if a0_5 = a1_5 then ((laws_eqIntS.f k l0_6 l1_6).bind fun t462 => (if t462 = true then (some true) else (some false))) else (some false)) else (some false)) else (some false))) else (some false)) else (some false)) else (some false)) = some r := h
 clear h
 replace H := ie_ H; rcases H with ⟨c3b0, c3b1, H⟩ | ⟨c3, c3b0, c3b1, H⟩
 ·replace H := ie_ H; rcases H with ⟨c4b0, c4b1, H⟩ | ⟨c4, c4b0, c4b1, H⟩
  ·replace H := ie_ H; rcases H with ⟨c5b0, c5b1, H⟩ | ⟨c5, c5b0, c5b1, H⟩
   ·replace H := bi_ H; obtain ⟨t461, A6, H⟩ := H
    replace H := ib_ H; rcases H with ⟨rfl, H⟩ | ⟨rfl, H⟩
    ·replace H := ie_ H; rcases H with ⟨c8b0, c8b1, H⟩ | ⟨c8, c8b0, c8b1, H⟩
     ·replace H := ie_ H; rcases H with ⟨c9b0, c9b1, H⟩ | ⟨c9, c9b0, c9b1, H⟩
      ·replace H := bi_ H; obtain ⟨t462, A10, H⟩ := H
       replace H := ib_ H; rcases H with ⟨rfl, H⟩ | ⟨rfl, H⟩
       ·obtain rfl := Option.some.inj H
        go_enter Try.func11, Try.ntmps11
        go_wp2_with (first | ((with_reducible refine gd_ 2 ?_); refine bx_ 2 (cs := #[.int .i64 a0_0, .int .i64 a0_1, .string a0_2, .slice A0_3 l0_3.length c0_3, .string a0_4, .int .i64 a0_5, .slice A0_6 l0_6.length c0_6]) 38 ?_; intro gb459 hg w12 hbox hb; have BK459 := am hbox; have GW459 := ge_ (w := w) hg; have GE459 := ge_ (w := w) hg; replace HB := am (below_step ab1 hb); clear hb hbox hg) | ((with_reducible refine gd_ 3 ?_); refine bx_ 3 (cs := #[.int .i64 a1_0, .int .i64 a1_1, .string a1_2, .slice A1_3 l1_3.length c1_3, .string a1_4, .int .i64 a1_5, .slice A1_6 l1_6.length c1_6]) 38 ?_; intro gb460 hg w13 hbox hb; have BK460 := am hbox; have GW460 := gE_ (w := w) GE459 hg; have GE460 := gE_ (w := w) GE459 hg; replace HB := am (below_step (ab2 GE459) hb); have NB459_460 := nl_ BK459 hg; have NB460_459 := ng_ BK459 hg; replace BK459 := bl_ BK459 hb; clear hb hbox hg; have hnb14 := NB459_460.out; have hnc14 := NB460_459.out; obtain ⟨⟨_, _, _, _, _, _, _⟩, _, _, _, _, _, _, _⟩ := Op.cells7 BK459.out; obtain ⟨⟨_, _, _, _, _, _, _⟩, _, _, _, _, _, _, _⟩ := Op.cells7 BK460.out) | ((with_reducible refine gf_ 30 ?_); refine gc_ Try.func30 (laws_eqAttrS.calls k _ _ l0_3 _ _ l1_3 true _ (sc_ HR0_3) HC0_3.out (sc_ HR1_3) HC1_3.out A6.out) ?_; rintro w17 hb; replace BK459 := bl_ BK459 hb; replace BK460 := bl_ BK460 hb; replace HB := am (below_step ba_ hb); (try clear hb); (try clear hb2); (try clear hk); (try clear hi); obtain ⟨⟨_, _, _, _, _, _, _⟩, _, _, _, _, _, _, _⟩ := Op.cells7 BK459.out; obtain ⟨⟨_, _, _, _, _, _, _⟩, _, _, _, _, _, _, _⟩ := Op.cells7 BK460.out) | ((with_reducible refine gf_ 29 ?_); refine gc_ Try.func29 (laws_eqIntS.calls k _ _ l0_6 _ _ l1_6 true _ (sc_ HR0_6) HC0_6.out (sc_ HR1_6) HC1_6.out A10.out) ?_; rintro w' ⟨nd, rfl⟩))
        go_ret
        exact ⟨ab7, ba_⟩
       ·obtain rfl := Option.some.inj H
        go_enter Try.func11, Try.ntmps11
        go_wp2_with (first | ((with_reducible refine gd_ 2 ?_); refine bx_ 2 (cs := #[.int .i64 a0_0, .int .i64 a0_1, .string a0_2, .slice A0_3 l0_3.length c0_3, .string a0_4, .int .i64 a0_5, .slice A0_6 l0_6.length c0_6]) 38 ?_; intro gb459 hg w20 hbox hb; have BK459 := am hbox; have GW459 := ge_ (w := w) hg; have GE459 := ge_ (w := w) hg; replace HB := am (below_step ab1 hb); clear hb hbox hg) | ((with_reducible refine gd_ 3 ?_); refine bx_ 3 (cs := #[.int .i64 a1_0, .int .i64 a1_1, .string a1_2, .slice A1_3 l1_3.length c1_3, .string a1_4, .int .i64 a1_5, .slice A1_6 l1_6.length c1_6]) 38 ?_; intro gb460 hg w21 hbox hb; have BK460 := am hbox; have GW460 := gE_ (w := w) GE459 hg; have GE460 := gE_ (w := w) GE459 hg; replace HB := am (below_step (ab2 GE459) hb); have NB459_460 := nl_ BK459 hg; have NB460_459 := ng_ BK459 hg; replace BK459 := bl_ BK459 hb; clear hb hbox hg; have hnb22 := NB459_460.out; have hnc22 := NB460_459.out; obtain ⟨⟨_, _, _, _, _, _, _⟩, _, _, _, _, _, _, _⟩ := Op.cells7 BK459.out; obtain ⟨⟨_, _, _, _, _, _, _⟩, _, _, _, _, _, _, _⟩ := Op.cells7 BK460.out) | ((with_reducible refine gf_ 30 ?_); refine gc_ Try.func30 (laws_eqAttrS.calls k _ _ l0_3 _ _ l1_3 true _ (sc_ HR0_3) HC0_3.out (sc_ HR1_3) HC1_3.out A6.out) ?_; rintro w25 hb; replace BK459 := bl_ BK459 hb; replace BK460 := bl_ BK460 hb; replace HB := am (below_step ba_ hb); (try clear hb); (try clear hb2); (try clear hk); (try clear hi); obtain ⟨⟨_, _, _, _, _, _, _⟩, _, _, _, _, _, _, _⟩ := Op.cells7 BK459.out; obtain ⟨⟨_, _, _, _, _, _, _⟩, _, _, _, _, _, _, _⟩ := Op.cells7 BK460.out) | ((with_reducible refine gf_ 29 ?_); refine gc_ Try.func29 (laws_eqIntS.calls k _ _ l0_6 _ _ l1_6 false _ (sc_ HR0_6) HC0_6.out (sc_ HR1_6) HC1_6.out A10.out) ?_; rintro w' ⟨nd, rfl⟩))
        go_ret
        exact ⟨ab7, ba_⟩
      ·obtain rfl := Option.some.inj H
       go_enter Try.func11, Try.ntmps11
       go_wp2_with (first | ((with_reducible refine gd_ 2 ?_); refine bx_ 2 (cs := #[.int .i64 a0_0, .int .i64 a0_1, .string a0_2, .slice A0_3 l0_3.length c0_3, .string a0_4, .int .i64 a0_5, .slice A0_6 l0_6.length c0_6]) 38 ?_; intro gb459 hg w28 hbox hb; have BK459 := am hbox; have GW459 := ge_ (w := w) hg; have GE459 := ge_ (w := w) hg; replace HB := am (below_step ab1 hb); clear hb hbox hg) | ((with_reducible refine gd_ 3 ?_); refine bx_ 3 (cs := #[.int .i64 a1_0, .int .i64 a1_1, .string a1_2, .slice A1_3 l1_3.length c1_3, .string a1_4, .int .i64 a1_5, .slice A1_6 l1_6.length c1_6]) 38 ?_; intro gb460 hg w29 hbox hb; have BK460 := am hbox; have GW460 := gE_ (w := w) GE459 hg; have GE460 := gE_ (w := w) GE459 hg; replace HB := am (below_step (ab2 GE459) hb); have NB459_460 := nl_ BK459 hg; have NB460_459 := ng_ BK459 hg; replace BK459 := bl_ BK459 hb; clear hb hbox hg; have hnb30 := NB459_460.out; have hnc30 := NB460_459.out; obtain ⟨⟨_, _, _, _, _, _, _⟩, _, _, _, _, _, _, _⟩ := Op.cells7 BK459.out; obtain ⟨⟨_, _, _, _, _, _, _⟩, _, _, _, _, _, _, _⟩ := Op.cells7 BK460.out) | ((with_reducible refine gf_ 30 ?_); refine gc_ Try.func30 (laws_eqAttrS.calls k _ _ l0_3 _ _ l1_3 true _ (sc_ HR0_3) HC0_3.out (sc_ HR1_3) HC1_3.out A6.out) ?_; rintro w33 hb; replace BK459 := bl_ BK459 hb; replace BK460 := bl_ BK460 hb; replace HB := am (below_step ba_ hb); (try clear hb); (try clear hb2); (try clear hk); (try clear hi); obtain ⟨⟨_, _, _, _, _, _, _⟩, _, _, _, _, _, _, _⟩ := Op.cells7 BK459.out; obtain ⟨⟨_, _, _, _, _, _, _⟩, _, _, _, _, _, _, _⟩ := Op.cells7 BK460.out))
       go_ret
       exact ⟨ab7, ba_⟩
     ·obtain rfl := Option.some.inj H
      go_enter Try.func11, Try.ntmps11
      go_wp2_with (first | ((with_reducible refine gd_ 2 ?_); refine bx_ 2 (cs := #[.int .i64 a0_0, .int .i64 a0_1, .string a0_2, .slice A0_3 l0_3.length c0_3, .string a0_4, .int .i64 a0_5, .slice A0_6 l0_6.length c0_6]) 38 ?_; intro gb459 hg w36 hbox hb; have BK459 := am hbox; have GW459 := ge_ (w := w) hg; have GE459 := ge_ (w := w) hg; replace HB := am (below_step ab1 hb); clear hb hbox hg) | ((with_reducible refine gd_ 3 ?_); refine bx_ 3 (cs := #[.int .i64 a1_0, .int .i64 a1_1, .string a1_2, .slice A1_3 l1_3.length c1_3, .string a1_4, .int .i64 a1_5, .slice A1_6 l1_6.length c1_6]) 38 ?_; intro gb460 hg w37 hbox hb; have BK460 := am hbox; have GW460 := gE_ (w := w) GE459 hg; have GE460 := gE_ (w := w) GE459 hg; replace HB := am (below_step (ab2 GE459) hb); have NB459_460 := nl_ BK459 hg; have NB460_459 := ng_ BK459 hg; replace BK459 := bl_ BK459 hb; clear hb hbox hg; have hnb38 := NB459_460.out; have hnc38 := NB460_459.out; obtain ⟨⟨_, _, _, _, _, _, _⟩, _, _, _, _, _, _, _⟩ := Op.cells7 BK459.out; obtain ⟨⟨_, _, _, _, _, _, _⟩, _, _, _, _, _, _, _⟩ := Op.cells7 BK460.out) | ((with_reducible refine gf_ 30 ?_); refine gc_ Try.func30 (laws_eqAttrS.calls k _ _ l0_3 _ _ l1_3 true _ (sc_ HR0_3) HC0_3.out (sc_ HR1_3) HC1_3.out A6.out) ?_; rintro w41 hb; replace BK459 := bl_ BK459 hb; replace BK460 := bl_ BK460 hb; replace HB := am (below_step ba_ hb); (try clear hb); (try clear hb2); (try clear hk); (try clear hi); obtain ⟨⟨_, _, _, _, _, _, _⟩, _, _, _, _, _, _, _⟩ := Op.cells7 BK459.out; obtain ⟨⟨_, _, _, _, _, _, _⟩, _, _, _, _, _, _, _⟩ := Op.cells7 BK460.out))
      go_ret
      exact ⟨ab7, ba_⟩
    ·obtain rfl := Option.some.inj H
     go_enter Try.func11, Try.ntmps11
     go_wp2_with (first | ((with_reducible refine gd_ 2 ?_); refine bx_ 2 (cs := #[.int .i64 a0_0, .int .i64 a0_1, .string a0_2, .slice A0_3 l0_3.length c0_3, .string a0_4, .int .i64 a0_5, .slice A0_6 l0_6.length c0_6]) 38 ?_; intro gb459 hg w44 hbox hb; have BK459 := am hbox; have GW459 := ge_ (w := w) hg; have GE459 := ge_ (w := w) hg; replace HB := am (below_step ab1 hb); clear hb hbox hg) | ((with_reducible refine gd_ 3 ?_); refine bx_ 3 (cs := #[.int .i64 a1_0, .int .i64 a1_1, .string a1_2, .slice A1_3 l1_3.length c1_3, .string a1_4, .int .i64 a1_5, .slice A1_6 l1_6.length c1_6]) 38 ?_; intro gb460 hg w45 hbox hb; have BK460 := am hbox; have GW460 := gE_ (w := w) GE459 hg; have GE460 := gE_ (w := w) GE459 hg; replace HB := am (below_step (ab2 GE459) hb); have NB459_460 := nl_ BK459 hg; have NB460_459 := ng_ BK459 hg; replace BK459 := bl_ BK459 hb; clear hb hbox hg; have hnb46 := NB459_460.out; have hnc46 := NB460_459.out; obtain ⟨⟨_, _, _, _, _, _, _⟩, _, _, _, _, _, _, _⟩ := Op.cells7 BK459.out; obtain ⟨⟨_, _, _, _, _, _, _⟩, _, _, _, _, _, _, _⟩ := Op.cells7 BK460.out) | ((with_reducible refine gf_ 30 ?_); refine gc_ Try.func30 (laws_eqAttrS.calls k _ _ l0_3 _ _ l1_3 false _ (sc_ HR0_3) HC0_3.out (sc_ HR1_3) HC1_3.out A6.out) ?_; rintro w49 hb; replace BK459 := bl_ BK459 hb; replace BK460 := bl_ BK460 hb; replace HB := am (below_step ba_ hb); (try clear hb); (try clear hb2); (try clear hk); (try clear hi)))
     go_ret
     exact ⟨ab7, ba_⟩
   ·obtain rfl := Option.some.inj H
    go_enter Try.func11, Try.ntmps11
    go_wp2_with (first | ((with_reducible refine gd_ 2 ?_); refine bx_ 2 (cs := #[.int .i64 a0_0, .int .i64 a0_1, .string a0_2, .slice A0_3 l0_3.length c0_3, .string a0_4, .int .i64 a0_5, .slice A0_6 l0_6.length c0_6]) 38 ?_; intro gb459 hg w50 hbox hb; have BK459 := am hbox; have GW459 := ge_ (w := w) hg; have GE459 := ge_ (w := w) hg; replace HB := am (below_step ab1 hb); clear hb hbox hg) | ((with_reducible refine gd_ 3 ?_); refine bx_ 3 (cs := #[.int .i64 a1_0, .int .i64 a1_1, .string a1_2, .slice A1_3 l1_3.length c1_3, .string a1_4, .int .i64 a1_5, .slice A1_6 l1_6.length c1_6]) 38 ?_; intro gb460 hg w51 hbox hb; have BK460 := am hbox; have GW460 := gE_ (w := w) GE459 hg; have GE460 := gE_ (w := w) GE459 hg; replace HB := am (below_step (ab2 GE459) hb); have NB459_460 := nl_ BK459 hg; have NB460_459 := ng_ BK459 hg; replace BK459 := bl_ BK459 hb; clear hb hbox hg; have hnb52 := NB459_460.out; have hnc52 := NB460_459.out; obtain ⟨⟨_, _, _, _, _, _, _⟩, _, _, _, _, _, _, _⟩ := Op.cells7 BK459.out; obtain ⟨⟨_, _, _, _, _, _, _⟩, _, _, _, _, _, _, _⟩ := Op.cells7 BK460.out))
    go_ret
    exact ⟨ab7, ba_⟩
  ·obtain rfl := Option.some.inj H
   go_enter Try.func11, Try.ntmps11
   go_wp2_with (first | ((with_reducible refine gd_ 2 ?_); refine bx_ 2 (cs := #[.int .i64 a0_0, .int .i64 a0_1, .string a0_2, .slice A0_3 l0_3.length c0_3, .string a0_4, .int .i64 a0_5, .slice A0_6 l0_6.length c0_6]) 38 ?_; intro gb459 hg w55 hbox hb; have BK459 := am hbox; have GW459 := ge_ (w := w) hg; have GE459 := ge_ (w := w) hg; replace HB := am (below_step ab1 hb); clear hb hbox hg) | ((with_reducible refine gd_ 3 ?_); refine bx_ 3 (cs := #[.int .i64 a1_0, .int .i64 a1_1, .string a1_2, .slice A1_3 l1_3.length c1_3, .string a1_4, .int .i64 a1_5, .slice A1_6 l1_6.length c1_6]) 38 ?_; intro gb460 hg w56 hbox hb; have BK460 := am hbox; have GW460 := gE_ (w := w) GE459 hg; have GE460 := gE_ (w := w) GE459 hg; replace HB := am (below_step (ab2 GE459) hb); have NB459_460 := nl_ BK459 hg; have NB460_459 := ng_ BK459 hg; replace BK459 := bl_ BK459 hb; clear hb hbox hg; have hnb57 := NB459_460.out; have hnc57 := NB460_459.out; obtain ⟨⟨_, _, _, _, _, _, _⟩, _, _, _, _, _, _, _⟩ := Op.cells7 BK459.out; obtain ⟨⟨_, _, _, _, _, _, _⟩, _, _, _, _, _, _, _⟩ := Op.cells7 BK460.out))
   go_ret
   exact ⟨ab7, ba_⟩
 ·obtain rfl := Option.some.inj H
  go_enter Try.func11, Try.ntmps11
  go_wp2_with (first | ((with_reducible refine gd_ 2 ?_); refine bx_ 2 (cs := #[.int .i64 a0_0, .int .i64 a0_1, .string a0_2, .slice A0_3 l0_3.length c0_3, .string a0_4, .int .i64 a0_5, .slice A0_6 l0_6.length c0_6]) 38 ?_; intro gb459 hg w60 hbox hb; have BK459 := am hbox; have GW459 := ge_ (w := w) hg; have GE459 := ge_ (w := w) hg; replace HB := am (below_step ab1 hb); clear hb hbox hg) | ((with_reducible refine gd_ 3 ?_); refine bx_ 3 (cs := #[.int .i64 a1_0, .int .i64 a1_1, .string a1_2, .slice A1_3 l1_3.length c1_3, .string a1_4, .int .i64 a1_5, .slice A1_6 l1_6.length c1_6]) 38 ?_; intro gb460 hg w61 hbox hb; have BK460 := am hbox; have GW460 := gE_ (w := w) GE459 hg; have GE460 := gE_ (w := w) GE459 hg; replace HB := am (below_step (ab2 GE459) hb); have NB459_460 := nl_ BK459 hg; have NB460_459 := ng_ BK459 hg; replace BK459 := bl_ BK459 hb; clear hb hbox hg; have hnb62 := NB459_460.out; have hnc62 := NB460_459.out; obtain ⟨⟨_, _, _, _, _, _, _⟩, _, _, _, _, _, _, _⟩ := Op.cells7 BK459.out; obtain ⟨⟨_, _, _, _, _, _, _⟩, _, _, _, _, _, _, _⟩ := Op.cells7 BK460.out))
  go_ret
  exact ⟨ab7, ba_⟩
end Go.Proofs.Ytekkalnafngfeaa.P
