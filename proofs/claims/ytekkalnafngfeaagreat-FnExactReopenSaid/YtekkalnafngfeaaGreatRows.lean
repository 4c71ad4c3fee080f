/-
  No cell of these rows narrows 'for every input' (looked for: loops, veiled, ifaces, maps, wideKeys, modest, calm, conditions, laid).
  DERIVED. THE GIVEN ROWS OF THIS SEAT. 3 by the template 'for every input the law returns true; each argument reads behind the call as it read before'; 0 by the template 'total and deterministic' (their statements: YtekkalnafngfeaaGreatTotals.lean).
  GIVEN WITH THE SEED: the statements are not yours to turn. If you find one false, say at which input.
  Laid BY PROGRAM, IN A SANDBOX (cutbox-rows.mjs): the forced cells as the released guide's own fill.sh prints them over the translation bf5e82a08a758874… (all of the seat's roots in one cut). By AI agents, Wed Nov 11 2026. No macro, syntax, notation, axiom, sorry.
-/
import Derived.Test.YtekkalnafngfeaaGreatChecked
import GoSem.Claim
import GoSem.ClaimJoined
import GoSem.ClaimMapViews
import Derived.JoinedTies
import Derived.KernelRfl
namespace Go.Proofs.YtekkalnafngfeaaGreat
/- THE CELL 'sum', in the pinned program and in every row, IS THE sha256 OF THE DUMP (.gsa) THAT YtekkalnafngfeaaGreatProg.lean LOADS. Nothing in Lean hashes anything: it is a label: what it is worth is what the hold of that sum in a sandbox is worth. -/
noncomputable def Tryz.pinned : Pinned := { name := "ytekkalnafngfeaagreat", sum := "bf5e82a08a7588743ab58395807ffa16dbc5775834f3aba50ddb70a612211e92", checked := Tryz.checked }
namespace Rows
def none {H : Type} : Left H := { results := [], args := [] }

/-- 'laws.FnExactPutTag': WHATEVER THE INPUT: true; the input reads as it did. -/
def fnExactPutTagSpec : ChangeSpec := { name := "fnExactPutTag", fn := fun _ => fun
  | [d1, d2, d3, d4, d5] => { results := [.lit (.bool true)], args := [d1, d2, d3, d4, d5] }
  | _ => none }
def fnExactPutTagRow : OpenClaim := { program := "ytekkalnafngfeaagreat", sum := "bf5e82a08a7588743ab58395807ffa16dbc5775834f3aba50ddb70a612211e92", func := "loop.example/g00325/laws.FnExactPutTag", spec := "fnExactPutTag", inPlace := ["internal/bytealg.IndexByteString", "internal/bytealg.IndexString", "slices.overlaps[int]"], unfollowed := true, recurses := true, named := ["internal/bytealg.MaxLen"], apart := false }
def FnExactPutTagSaid : Prop := fnExactPutTagRow.holds Tryz.pinned (OpenSpec.ofChange fnExactPutTagSpec)

/-- ITS FALSE NEIGHBOUR: 'it returns false'. Refute it at one input. -/
def fnExactPutTagWrong : ChangeSpec := { name := "fnExactPutTag", fn := fun _ => fun
  | [d1, d2, d3, d4, d5] => { results := [.lit (.bool false)], args := [d1, d2, d3, d4, d5] }
  | _ => none }
def FnExactPutTagWrongFalsely : Prop := fnExactPutTagRow.holds Tryz.pinned (OpenSpec.ofChange fnExactPutTagWrong)

/-- 'laws.FnExactReopen': WHATEVER THE INPUT: true; the input reads as it did. -/
def fnExactReopenSpec : ChangeSpec := { name := "fnExactReopen", fn := fun _ => fun
  | [d] => { results := [.lit (.bool true)], args := [d] }
  | _ => none }
def fnExactReopenRow : OpenClaim := { program := "ytekkalnafngfeaagreat", sum := "bf5e82a08a7588743ab58395807ffa16dbc5775834f3aba50ddb70a612211e92", func := "loop.example/g00325/laws.FnExactReopen", spec := "fnExactReopen", inPlace := ["internal/bytealg.IndexByteString", "internal/bytealg.IndexString", "slices.overlaps[int]"], unfollowed := true, recurses := true, named := ["internal/bytealg.MaxLen"], apart := false }
def FnExactReopenSaid : Prop := fnExactReopenRow.holds Tryz.pinned (OpenSpec.ofChange fnExactReopenSpec)

/-- ITS FALSE NEIGHBOUR: 'it returns false'. Refute it at one input. -/
def fnExactReopenWrong : ChangeSpec := { name := "fnExactReopen", fn := fun _ => fun
  | [d] => { results := [.lit (.bool false)], args := [d] }
  | _ => none }
def FnExactReopenWrongFalsely : Prop := fnExactReopenRow.holds Tryz.pinned (OpenSpec.ofChange fnExactReopenWrong)

/-- 'laws.FnExactFinish': WHATEVER THE INPUT: true; the input reads as it did. -/
def fnExactFinishSpec : ChangeSpec := { name := "fnExactFinish", fn := fun _ => fun
  | [d] => { results := [.lit (.bool true)], args := [d] }
  | _ => none }
def fnExactFinishRow : OpenClaim := { program := "ytekkalnafngfeaagreat", sum := "bf5e82a08a7588743ab58395807ffa16dbc5775834f3aba50ddb70a612211e92", func := "loop.example/g00325/laws.FnExactFinish", spec := "fnExactFinish", inPlace := ["internal/bytealg.IndexByteString", "internal/bytealg.IndexString", "slices.overlaps[int]"], unfollowed := true, recurses := true, named := ["internal/bytealg.MaxLen"], apart := false }
def FnExactFinishSaid : Prop := fnExactFinishRow.holds Tryz.pinned (OpenSpec.ofChange fnExactFinishSpec)

/-- ITS FALSE NEIGHBOUR: 'it returns false'. Refute it at one input. -/
def fnExactFinishWrong : ChangeSpec := { name := "fnExactFinish", fn := fun _ => fun
  | [d] => { results := [.lit (.bool false)], args := [d] }
  | _ => none }
def FnExactFinishWrongFalsely : Prop := fnExactFinishRow.holds Tryz.pinned (OpenSpec.ofChange fnExactFinishWrong)

/- THE SECOND FORM. 'bulk': how many values and letters a reading holds, each counted each time it is reached (what is shared counts as often as it is met; a slice's spare places count too). A statement '..UptoSaid' is the law's where the arguments, and the package variables that the reading takes, are together of bulk at most 1048576: NARROWER than '..Said'. Prove '..Said' where nothing that the law and all that it calls make is longer than what came in: it says more and counts as full. Else prove '..UptoSaid'. A law counts once. -/
mutual
def uptoBulk {H : Type} : DataW H → Nat
  | .lit (.string bytes) => bytes.length + 1
  | .lit _ => 1
  | .nil => 1
  | .ptr d => uptoBulk d + 1
  | .slice elems spare => uptoBulkAll elems + uptoBulkAll spare + 1
  | .agg parts => uptoBulkAll parts + 1
  | .iface _ d => uptoBulk d + 1
  | .map entries => uptoBulkEntries entries + 1
  | .held _ => 1
def uptoBulkAll {H : Type} : List (DataW H) → Nat
  | [] => 0
  | d :: r => uptoBulk d + uptoBulkAll r
def uptoBulkEntries {H : Type} : List (Lit × DataW H) → Nat
  | [] => 0
  | x :: r => uptoBulkEntry x + uptoBulkEntries r
def uptoBulkEntry {H : Type} : Lit × DataW H → Nat
  | (.string bytes, d) => bytes.length + uptoBulk d + 1
  | (_, d) => uptoBulk d + 1
 end
def uptoSmall : (H : Type) → List (DataW H) → Bool := fun _ ds => decide (uptoBulkAll ds ≤ 1048576)
def OpenSpec.upto (s : _root_.Go.ChangeSpec) : _root_.Go.OpenSpec := { _root_.Go.OpenSpec.ofChange s with cond := some uptoSmall }

/-- 'laws.FnExactPutTag', WHERE WHAT IT READS IS OF BULK AT MOST 1048576: true; the input reads as it did. -/
def fnExactPutTagUptoRow : OpenClaim := { program := "ytekkalnafngfeaagreat", sum := "bf5e82a08a7588743ab58395807ffa16dbc5775834f3aba50ddb70a612211e92", func := "loop.example/g00325/laws.FnExactPutTag", spec := "fnExactPutTag", inPlace := ["internal/bytealg.IndexByteString", "internal/bytealg.IndexString", "slices.overlaps[int]"], unfollowed := true, recurses := true, named := ["internal/bytealg.MaxLen"], apart := false, narrowed := true }
def FnExactPutTagUptoSaid : Prop := fnExactPutTagUptoRow.holds Tryz.pinned (OpenSpec.upto fnExactPutTagSpec)

/-- 'laws.FnExactReopen', WHERE WHAT IT READS IS OF BULK AT MOST 1048576: true; the input reads as it did. -/
def fnExactReopenUptoRow : OpenClaim := { program := "ytekkalnafngfeaagreat", sum := "bf5e82a08a7588743ab58395807ffa16dbc5775834f3aba50ddb70a612211e92", func := "loop.example/g00325/laws.FnExactReopen", spec := "fnExactReopen", inPlace := ["internal/bytealg.IndexByteString", "internal/bytealg.IndexString", "slices.overlaps[int]"], unfollowed := true, recurses := true, named := ["internal/bytealg.MaxLen"], apart := false, narrowed := true }
def FnExactReopenUptoSaid : Prop := fnExactReopenUptoRow.holds Tryz.pinned (OpenSpec.upto fnExactReopenSpec)

/-- 'laws.FnExactFinish', WHERE WHAT IT READS IS OF BULK AT MOST 1048576: true; the input reads as it did. -/
def fnExactFinishUptoRow : OpenClaim := { program := "ytekkalnafngfeaagreat", sum := "bf5e82a08a7588743ab58395807ffa16dbc5775834f3aba50ddb70a612211e92", func := "loop.example/g00325/laws.FnExactFinish", spec := "fnExactFinish", inPlace := ["internal/bytealg.IndexByteString", "internal/bytealg.IndexString", "slices.overlaps[int]"], unfollowed := true, recurses := true, named := ["internal/bytealg.MaxLen"], apart := false, narrowed := true }
def FnExactFinishUptoSaid : Prop := fnExactFinishUptoRow.holds Tryz.pinned (OpenSpec.upto fnExactFinishSpec)

end Rows
end Go.Proofs.YtekkalnafngfeaaGreat
