/-
  NARROWER THAN 'FOR EVERY INPUT', by the rows' own cells (each row's printed sentence says how): FnExactElOk: loops · FnExactDocOk: loops.
  DERIVED. THE GIVEN ROWS OF THIS SEAT. 5 by the template 'for every input the law returns true; each argument reads behind the call as it read before'; 0 by the template 'total and deterministic' (their statements: YtaomfbbbdddlmaaTotals.lean).
  GIVEN WITH THE SEED: the statements are not yours to turn. If you find one false, say at which input.
  Laid BY PROGRAM, IN A SANDBOX (cutbox-rows.mjs): the forced cells as the released guide's own fill.sh prints them over the translation ce11f7fa889ef846… (all of the seat's roots in one cut). By AI agents, Wed Nov 11 2026. No macro, syntax, notation, axiom, sorry.
-/
import Derived.Test.YtaomfbbbdddlmaaChecked
import GoSem.Claim
import GoSem.ClaimJoined
import GoSem.ClaimMapViews
import Derived.JoinedTies
import Derived.KernelRfl
namespace Go.Proofs.Ytaomfbbbdddlmaa
/- THE CELL 'sum', in the pinned program and in every row, IS THE sha256 OF THE DUMP (.gsa) THAT YtaomfbbbdddlmaaProg.lean LOADS. Nothing in Lean hashes anything: it is a label: what it is worth is what the hold of that sum in a sandbox is worth. -/
noncomputable def Try.pinned : Pinned := { name := "ytaomfbbbdddlmaa", sum := "ce11f7fa889ef84609f5f1df49d44c901f7d0ce0e9e4ffe4d4dc338b742c10c7", checked := Try.checked }
namespace Rows
def none {H : Type} : Left H := { results := [], args := [] }

/-- 'laws.FnExactAttrsOf': WHATEVER THE INPUT: true; the input reads as it did. -/
def fnExactAttrsOfSpec : ChangeSpec := { name := "fnExactAttrsOf", fn := fun _ => fun
  | [d] => { results := [.lit (.bool true)], args := [d] }
  | _ => none }
def fnExactAttrsOfRow : OpenClaim := { program := "ytaomfbbbdddlmaa", sum := "ce11f7fa889ef84609f5f1df49d44c901f7d0ce0e9e4ffe4d4dc338b742c10c7", func := "loop.example/g00325/laws.FnExactAttrsOf", spec := "fnExactAttrsOf", inPlace := ["internal/abi.NoEscape"], unfollowed := true, recurses := true, apart := false }
def FnExactAttrsOfSaid : Prop := fnExactAttrsOfRow.holds Try.pinned (OpenSpec.ofChange fnExactAttrsOfSpec)

/-- ITS FALSE NEIGHBOUR: 'it returns false'. Refute it at one input. -/
def fnExactAttrsOfWrong : ChangeSpec := { name := "fnExactAttrsOf", fn := fun _ => fun
  | [d] => { results := [.lit (.bool false)], args := [d] }
  | _ => none }
def FnExactAttrsOfWrongFalsely : Prop := fnExactAttrsOfRow.holds Try.pinned (OpenSpec.ofChange fnExactAttrsOfWrong)

/-- 'laws.FnExactBare': WHATEVER THE INPUT: true; the input reads as it did. -/
def fnExactBareSpec : ChangeSpec := { name := "fnExactBare", fn := fun _ => fun
  | [d] => { results := [.lit (.bool true)], args := [d] }
  | _ => none }
def fnExactBareRow : OpenClaim := { program := "ytaomfbbbdddlmaa", sum := "ce11f7fa889ef84609f5f1df49d44c901f7d0ce0e9e4ffe4d4dc338b742c10c7", func := "loop.example/g00325/laws.FnExactBare", spec := "fnExactBare", recurses := true, apart := false }
def FnExactBareSaid : Prop := fnExactBareRow.holds Try.pinned (OpenSpec.ofChange fnExactBareSpec)

/-- ITS FALSE NEIGHBOUR: 'it returns false'. Refute it at one input. -/
def fnExactBareWrong : ChangeSpec := { name := "fnExactBare", fn := fun _ => fun
  | [d] => { results := [.lit (.bool false)], args := [d] }
  | _ => none }
def FnExactBareWrongFalsely : Prop := fnExactBareRow.holds Try.pinned (OpenSpec.ofChange fnExactBareWrong)

/-- 'laws.FnExactElOk': WHATEVER THE INPUT: true; the input reads as it did. -/
def fnExactElOkSpec : ChangeSpec := { name := "fnExactElOk", fn := fun _ => fun
  | [d] => { results := [.lit (.bool true)], args := [d] }
  | _ => none }
def fnExactElOkRow : OpenClaim := { program := "ytaomfbbbdddlmaa", sum := "ce11f7fa889ef84609f5f1df49d44c901f7d0ce0e9e4ffe4d4dc338b742c10c7", func := "loop.example/g00325/laws.FnExactElOk", spec := "fnExactElOk", inPlace := ["internal/abi.NoEscape", "internal/bytealg.IndexByteString", "internal/bytealg.IndexString"], unfollowed := true, recurses := true, named := ["internal/bytealg.MaxLen"], loops := true, apart := false }
def FnExactElOkSaid : Prop := fnExactElOkRow.holds Try.pinned (OpenSpec.ofChange fnExactElOkSpec)

/-- ITS FALSE NEIGHBOUR: 'it returns false'. Refute it at one input. -/
def fnExactElOkWrong : ChangeSpec := { name := "fnExactElOk", fn := fun _ => fun
  | [d] => { results := [.lit (.bool false)], args := [d] }
  | _ => none }
def FnExactElOkWrongFalsely : Prop := fnExactElOkRow.holds Try.pinned (OpenSpec.ofChange fnExactElOkWrong)

/-- 'laws.FnExactDocOk': WHATEVER THE INPUT: true; the input reads as it did. -/
def fnExactDocOkSpec : ChangeSpec := { name := "fnExactDocOk", fn := fun _ => fun
  | [d] => { results := [.lit (.bool true)], args := [d] }
  | _ => none }
def fnExactDocOkRow : OpenClaim := { program := "ytaomfbbbdddlmaa", sum := "ce11f7fa889ef84609f5f1df49d44c901f7d0ce0e9e4ffe4d4dc338b742c10c7", func := "loop.example/g00325/laws.FnExactDocOk", spec := "fnExactDocOk", inPlace := ["internal/abi.NoEscape", "internal/bytealg.IndexByteString", "internal/bytealg.IndexString"], unfollowed := true, recurses := true, named := ["internal/bytealg.MaxLen"], loops := true, apart := false }
def FnExactDocOkSaid : Prop := fnExactDocOkRow.holds Try.pinned (OpenSpec.ofChange fnExactDocOkSpec)

/-- ITS FALSE NEIGHBOUR: 'it returns false'. Refute it at one input. -/
def fnExactDocOkWrong : ChangeSpec := { name := "fnExactDocOk", fn := fun _ => fun
  | [d] => { results := [.lit (.bool false)], args := [d] }
  | _ => none }
def FnExactDocOkWrongFalsely : Prop := fnExactDocOkRow.holds Try.pinned (OpenSpec.ofChange fnExactDocOkWrong)

/-- 'laws.FnExactSayable': WHATEVER THE INPUT: true; the input reads as it did. -/
def fnExactSayableSpec : ChangeSpec := { name := "fnExactSayable", fn := fun _ => fun
  | [d] => { results := [.lit (.bool true)], args := [d] }
  | _ => none }
def fnExactSayableRow : OpenClaim := { program := "ytaomfbbbdddlmaa", sum := "ce11f7fa889ef84609f5f1df49d44c901f7d0ce0e9e4ffe4d4dc338b742c10c7", func := "loop.example/g00325/laws.FnExactSayable", spec := "fnExactSayable", inPlace := ["internal/bytealg.IndexByteString", "internal/bytealg.IndexString", "internal/abi.NoEscape"], unfollowed := true, recurses := true, named := ["internal/bytealg.MaxLen"], apart := false }
def FnExactSayableSaid : Prop := fnExactSayableRow.holds Try.pinned (OpenSpec.ofChange fnExactSayableSpec)

/-- ITS FALSE NEIGHBOUR: 'it returns false'. Refute it at one input. -/
def fnExactSayableWrong : ChangeSpec := { name := "fnExactSayable", fn := fun _ => fun
  | [d] => { results := [.lit (.bool false)], args := [d] }
  | _ => none }
def FnExactSayableWrongFalsely : Prop := fnExactSayableRow.holds Try.pinned (OpenSpec.ofChange fnExactSayableWrong)

/- THE SECOND FORM. 'bulk': how many values and letters a reading holds, each counted each time it is reached (what is shared counts as often as it is met; a slice's spare places count too). A statement '..UptoSaid' is the law's where the arguments, and the package variables that the reading takes, are together of bulk at most 1048576: NARROWER than '..Said'. Prove '..Said' where nothing that the law and all that it calls make is longer than what came in: it says more and counts as full. Else prove '..UptoSaid'. A law counts once. -/
mutual
def uptoBulk {H : Type} : DataW H → Nat
  | .lit (.string bytes) => bytes.length + 1
  | .lit _ => 1
  | .nil => 1
  | .ptr d => uptoBulk d + 1
  | .slice elems spare => uptoBulkAll elems + uptoBulkAll spare + 1
  | .agg parts => uptoBulkAll parts + 1
  | .iface _ d => uptoBulk d + 1
  | .map entries => uptoBulkEntries entries + 1
  | .held _ => 1
def uptoBulkAll {H : Type} : List (DataW H) → Nat
  | [] => 0
  | d :: r => uptoBulk d + uptoBulkAll r
def uptoBulkEntries {H : Type} : List (Lit × DataW H) → Nat
  | [] => 0
  | x :: r => uptoBulkEntry x + uptoBulkEntries r
def uptoBulkEntry {H : Type} : Lit × DataW H → Nat
  | (.string bytes, d) => bytes.length + uptoBulk d + 1
  | (_, d) => uptoBulk d + 1
 end
def uptoSmall : (H : Type) → List (DataW H) → Bool := fun _ ds => decide (uptoBulkAll ds ≤ 1048576)
def OpenSpec.upto (s : _root_.Go.ChangeSpec) : _root_.Go.OpenSpec := { _root_.Go.OpenSpec.ofChange s with cond := some uptoSmall }

/-- 'laws.FnExactAttrsOf', WHERE WHAT IT READS IS OF BULK AT MOST 1048576: true; the input reads as it did. -/
def fnExactAttrsOfUptoRow : OpenClaim := { program := "ytaomfbbbdddlmaa", sum := "ce11f7fa889ef84609f5f1df49d44c901f7d0ce0e9e4ffe4d4dc338b742c10c7", func := "loop.example/g00325/laws.FnExactAttrsOf", spec := "fnExactAttrsOf", inPlace := ["internal/abi.NoEscape"], unfollowed := true, recurses := true, apart := false, narrowed := true }
def FnExactAttrsOfUptoSaid : Prop := fnExactAttrsOfUptoRow.holds Try.pinned (OpenSpec.upto fnExactAttrsOfSpec)

/-- 'laws.FnExactBare', WHERE WHAT IT READS IS OF BULK AT MOST 1048576: true; the input reads as it did. -/
def fnExactBareUptoRow : OpenClaim := { program := "ytaomfbbbdddlmaa", sum := "ce11f7fa889ef84609f5f1df49d44c901f7d0ce0e9e4ffe4d4dc338b742c10c7", func := "loop.example/g00325/laws.FnExactBare", spec := "fnExactBare", recurses := true, apart := false, narrowed := true }
def FnExactBareUptoSaid : Prop := fnExactBareUptoRow.holds Try.pinned (OpenSpec.upto fnExactBareSpec)

/-- 'laws.FnExactElOk', WHERE WHAT IT READS IS OF BULK AT MOST 1048576: true; the input reads as it did. -/
def fnExactElOkUptoRow : OpenClaim := { program := "ytaomfbbbdddlmaa", sum := "ce11f7fa889ef84609f5f1df49d44c901f7d0ce0e9e4ffe4d4dc338b742c10c7", func := "loop.example/g00325/laws.FnExactElOk", spec := "fnExactElOk", inPlace := ["internal/abi.NoEscape", "internal/bytealg.IndexByteString", "internal/bytealg.IndexString"], unfollowed := true, recurses := true, named := ["internal/bytealg.MaxLen"], loops := true, apart := false, narrowed := true }
def FnExactElOkUptoSaid : Prop := fnExactElOkUptoRow.holds Try.pinned (OpenSpec.upto fnExactElOkSpec)

/-- 'laws.FnExactDocOk', WHERE WHAT IT READS IS OF BULK AT MOST 1048576: true; the input reads as it did. -/
def fnExactDocOkUptoRow : OpenClaim := { program := "ytaomfbbbdddlmaa", sum := "ce11f7fa889ef84609f5f1df49d44c901f7d0ce0e9e4ffe4d4dc338b742c10c7", func := "loop.example/g00325/laws.FnExactDocOk", spec := "fnExactDocOk", inPlace := ["internal/abi.NoEscape", "internal/bytealg.IndexByteString", "internal/bytealg.IndexString"], unfollowed := true, recurses := true, named := ["internal/bytealg.MaxLen"], loops := true, apart := false, narrowed := true }
def FnExactDocOkUptoSaid : Prop := fnExactDocOkUptoRow.holds Try.pinned (OpenSpec.upto fnExactDocOkSpec)

/-- 'laws.FnExactSayable', WHERE WHAT IT READS IS OF BULK AT MOST 1048576: true; the input reads as it did. -/
def fnExactSayableUptoRow : OpenClaim := { program := "ytaomfbbbdddlmaa", sum := "ce11f7fa889ef84609f5f1df49d44c901f7d0ce0e9e4ffe4d4dc338b742c10c7", func := "loop.example/g00325/laws.FnExactSayable", spec := "fnExactSayable", inPlace := ["internal/bytealg.IndexByteString", "internal/bytealg.IndexString", "internal/abi.NoEscape"], unfollowed := true, recurses := true, named := ["internal/bytealg.MaxLen"], apart := false, narrowed := true }
def FnExactSayableUptoSaid : Prop := fnExactSayableUptoRow.holds Try.pinned (OpenSpec.upto fnExactSayableSpec)

end Rows
end Go.Proofs.Ytaomfbbbdddlmaa
