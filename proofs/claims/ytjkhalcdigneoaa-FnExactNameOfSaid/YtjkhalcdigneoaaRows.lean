/-
  NARROWER THAN 'FOR EVERY INPUT', by the rows' own cells (each row's printed sentence says how): FnExactElSize: loops · FnExactElDeep: loops · FnExactSameEl: loops.
  DERIVED. THE GIVEN ROWS OF THIS SEAT. 9 by the template 'for every input the law returns true; each argument reads behind the call as it read before'; 0 by the template 'total and deterministic' (their statements: YtjkhalcdigneoaaTotals.lean).
  GIVEN WITH THE SEED: the statements are not yours to turn. If you find one false, say at which input.
  Laid BY PROGRAM, IN A SANDBOX (cutbox-rows.mjs): the forced cells as the released guide's own fill.sh prints them over the translation d0607a90b5398c52… (all of the seat's roots in one cut). By AI agents, Wed Nov 11 2026. No macro, syntax, notation, axiom, sorry.
-/
import Derived.Test.YtjkhalcdigneoaaChecked
import GoSem.Claim
import GoSem.ClaimJoined
import GoSem.ClaimMapViews
import Derived.JoinedTies
import Derived.KernelRfl
namespace Go.Proofs.Ytjkhalcdigneoaa
/- THE CELL 'sum', in the pinned program and in every row, IS THE sha256 OF THE DUMP (.gsa) THAT YtjkhalcdigneoaaProg.lean LOADS. Nothing in Lean hashes anything: it is a label: what it is worth is what the hold of that sum in a sandbox is worth. -/
noncomputable def Try.pinned : Pinned := { name := "ytjkhalcdigneoaa", sum := "d0607a90b5398c52f66abca297d1e83d97682fd7c6c74552c4ac9a797b2c30dd", checked := Try.checked }
namespace Rows
def none {H : Type} : Left H := { results := [], args := [] }

/-- 'laws.FnExactSpaceName': WHATEVER THE INPUT: true; the input reads as it did. -/
def fnExactSpaceNameSpec : ChangeSpec := { name := "fnExactSpaceName", fn := fun _ => fun
  | [d] => { results := [.lit (.bool true)], args := [d] }
  | _ => none }
def fnExactSpaceNameRow : OpenClaim := { program := "ytjkhalcdigneoaa", sum := "d0607a90b5398c52f66abca297d1e83d97682fd7c6c74552c4ac9a797b2c30dd", func := "loop.example/g00325/laws.FnExactSpaceName", spec := "fnExactSpaceName", apart := false }
def FnExactSpaceNameSaid : Prop := fnExactSpaceNameRow.holds Try.pinned (OpenSpec.ofChange fnExactSpaceNameSpec)

/-- ITS FALSE NEIGHBOUR: 'it returns false'. Refute it at one input. -/
def fnExactSpaceNameWrong : ChangeSpec := { name := "fnExactSpaceName", fn := fun _ => fun
  | [d] => { results := [.lit (.bool false)], args := [d] }
  | _ => none }
def FnExactSpaceNameWrongFalsely : Prop := fnExactSpaceNameRow.holds Try.pinned (OpenSpec.ofChange fnExactSpaceNameWrong)

/-- 'laws.FnExactElSize': WHATEVER THE INPUT: true; the input reads as it did. -/
def fnExactElSizeSpec : ChangeSpec := { name := "fnExactElSize", fn := fun _ => fun
  | [d] => { results := [.lit (.bool true)], args := [d] }
  | _ => none }
def fnExactElSizeRow : OpenClaim := { program := "ytjkhalcdigneoaa", sum := "d0607a90b5398c52f66abca297d1e83d97682fd7c6c74552c4ac9a797b2c30dd", func := "loop.example/g00325/laws.FnExactElSize", spec := "fnExactElSize", recurses := true, loops := true, apart := false }
def FnExactElSizeSaid : Prop := fnExactElSizeRow.holds Try.pinned (OpenSpec.ofChange fnExactElSizeSpec)

/-- ITS FALSE NEIGHBOUR: 'it returns false'. Refute it at one input. -/
def fnExactElSizeWrong : ChangeSpec := { name := "fnExactElSize", fn := fun _ => fun
  | [d] => { results := [.lit (.bool false)], args := [d] }
  | _ => none }
def FnExactElSizeWrongFalsely : Prop := fnExactElSizeRow.holds Try.pinned (OpenSpec.ofChange fnExactElSizeWrong)

/-- 'laws.FnExactElDeep': WHATEVER THE INPUT: true; the input reads as it did. -/
def fnExactElDeepSpec : ChangeSpec := { name := "fnExactElDeep", fn := fun _ => fun
  | [d] => { results := [.lit (.bool true)], args := [d] }
  | _ => none }
def fnExactElDeepRow : OpenClaim := { program := "ytjkhalcdigneoaa", sum := "d0607a90b5398c52f66abca297d1e83d97682fd7c6c74552c4ac9a797b2c30dd", func := "loop.example/g00325/laws.FnExactElDeep", spec := "fnExactElDeep", recurses := true, loops := true, apart := false }
def FnExactElDeepSaid : Prop := fnExactElDeepRow.holds Try.pinned (OpenSpec.ofChange fnExactElDeepSpec)

/-- ITS FALSE NEIGHBOUR: 'it returns false'. Refute it at one input. -/
def fnExactElDeepWrong : ChangeSpec := { name := "fnExactElDeep", fn := fun _ => fun
  | [d] => { results := [.lit (.bool false)], args := [d] }
  | _ => none }
def FnExactElDeepWrongFalsely : Prop := fnExactElDeepRow.holds Try.pinned (OpenSpec.ofChange fnExactElDeepWrong)

/-- 'laws.FnExactSameEl': WHATEVER THE INPUT: true; the input reads as it did. -/
def fnExactSameElSpec : ChangeSpec := { name := "fnExactSameEl", fn := fun _ => fun
  | [d1, d2] => { results := [.lit (.bool true)], args := [d1, d2] }
  | _ => none }
def fnExactSameElRow : OpenClaim := { program := "ytjkhalcdigneoaa", sum := "d0607a90b5398c52f66abca297d1e83d97682fd7c6c74552c4ac9a797b2c30dd", func := "loop.example/g00325/laws.FnExactSameEl", spec := "fnExactSameEl", unfollowed := true, recurses := true, loops := true, apart := false }
def FnExactSameElSaid : Prop := fnExactSameElRow.holds Try.pinned (OpenSpec.ofChange fnExactSameElSpec)

/-- ITS FALSE NEIGHBOUR: 'it returns false'. Refute it at one input. -/
def fnExactSameElWrong : ChangeSpec := { name := "fnExactSameEl", fn := fun _ => fun
  | [d1, d2] => { results := [.lit (.bool false)], args := [d1, d2] }
  | _ => none }
def FnExactSameElWrongFalsely : Prop := fnExactSameElRow.holds Try.pinned (OpenSpec.ofChange fnExactSameElWrong)

/-- 'laws.FnExactXmlName': WHATEVER THE INPUT: true; the input reads as it did. -/
def fnExactXmlNameSpec : ChangeSpec := { name := "fnExactXmlName", fn := fun _ => fun
  | [d1, d2] => { results := [.lit (.bool true)], args := [d1, d2] }
  | _ => none }
def fnExactXmlNameRow : OpenClaim := { program := "ytjkhalcdigneoaa", sum := "d0607a90b5398c52f66abca297d1e83d97682fd7c6c74552c4ac9a797b2c30dd", func := "loop.example/g00325/laws.FnExactXmlName", spec := "fnExactXmlName", apart := false }
def FnExactXmlNameSaid : Prop := fnExactXmlNameRow.holds Try.pinned (OpenSpec.ofChange fnExactXmlNameSpec)

/-- ITS FALSE NEIGHBOUR: 'it returns false'. Refute it at one input. -/
def fnExactXmlNameWrong : ChangeSpec := { name := "fnExactXmlName", fn := fun _ => fun
  | [d1, d2] => { results := [.lit (.bool false)], args := [d1, d2] }
  | _ => none }
def FnExactXmlNameWrongFalsely : Prop := fnExactXmlNameRow.holds Try.pinned (OpenSpec.ofChange fnExactXmlNameWrong)

/-- 'laws.FnExactTextOf': WHATEVER THE INPUT: true; the input reads as it did. -/
def fnExactTextOfSpec : ChangeSpec := { name := "fnExactTextOf", fn := fun _ => fun
  | [d] => { results := [.lit (.bool true)], args := [d] }
  | _ => none }
def fnExactTextOfRow : OpenClaim := { program := "ytjkhalcdigneoaa", sum := "d0607a90b5398c52f66abca297d1e83d97682fd7c6c74552c4ac9a797b2c30dd", func := "loop.example/g00325/laws.FnExactTextOf", spec := "fnExactTextOf", inPlace := ["internal/abi.NoEscape"], apart := false }
def FnExactTextOfSaid : Prop := fnExactTextOfRow.holds Try.pinned (OpenSpec.ofChange fnExactTextOfSpec)

/-- ITS FALSE NEIGHBOUR: 'it returns false'. Refute it at one input. -/
def fnExactTextOfWrong : ChangeSpec := { name := "fnExactTextOf", fn := fun _ => fun
  | [d] => { results := [.lit (.bool false)], args := [d] }
  | _ => none }
def FnExactTextOfWrongFalsely : Prop := fnExactTextOfRow.holds Try.pinned (OpenSpec.ofChange fnExactTextOfWrong)

/-- 'laws.FnExactTextOk': WHATEVER THE INPUT: true; the input reads as it did. -/
def fnExactTextOkSpec : ChangeSpec := { name := "fnExactTextOk", fn := fun _ => fun
  | [d] => { results := [.lit (.bool true)], args := [d] }
  | _ => none }
def fnExactTextOkRow : OpenClaim := { program := "ytjkhalcdigneoaa", sum := "d0607a90b5398c52f66abca297d1e83d97682fd7c6c74552c4ac9a797b2c30dd", func := "loop.example/g00325/laws.FnExactTextOk", spec := "fnExactTextOk", inPlace := ["internal/abi.NoEscape"], apart := false }
def FnExactTextOkSaid : Prop := fnExactTextOkRow.holds Try.pinned (OpenSpec.ofChange fnExactTextOkSpec)

/-- ITS FALSE NEIGHBOUR: 'it returns false'. Refute it at one input. -/
def fnExactTextOkWrong : ChangeSpec := { name := "fnExactTextOk", fn := fun _ => fun
  | [d] => { results := [.lit (.bool false)], args := [d] }
  | _ => none }
def FnExactTextOkWrongFalsely : Prop := fnExactTextOkRow.holds Try.pinned (OpenSpec.ofChange fnExactTextOkWrong)

/-- 'laws.FnExactNameOk': WHATEVER THE INPUT: true; the input reads as it did. -/
def fnExactNameOkSpec : ChangeSpec := { name := "fnExactNameOk", fn := fun _ => fun
  | [d] => { results := [.lit (.bool true)], args := [d] }
  | _ => none }
def fnExactNameOkRow : OpenClaim := { program := "ytjkhalcdigneoaa", sum := "d0607a90b5398c52f66abca297d1e83d97682fd7c6c74552c4ac9a797b2c30dd", func := "loop.example/g00325/laws.FnExactNameOk", spec := "fnExactNameOk", inPlace := ["internal/abi.NoEscape"], apart := false }
def FnExactNameOkSaid : Prop := fnExactNameOkRow.holds Try.pinned (OpenSpec.ofChange fnExactNameOkSpec)

/-- ITS FALSE NEIGHBOUR: 'it returns false'. Refute it at one input. -/
def fnExactNameOkWrong : ChangeSpec := { name := "fnExactNameOk", fn := fun _ => fun
  | [d] => { results := [.lit (.bool false)], args := [d] }
  | _ => none }
def FnExactNameOkWrongFalsely : Prop := fnExactNameOkRow.holds Try.pinned (OpenSpec.ofChange fnExactNameOkWrong)

/-- 'laws.FnExactNameOf': WHATEVER THE INPUT: true; the input reads as it did. -/
def fnExactNameOfSpec : ChangeSpec := { name := "fnExactNameOf", fn := fun _ => fun
  | [d] => { results := [.lit (.bool true)], args := [d] }
  | _ => none }
def fnExactNameOfRow : OpenClaim := { program := "ytjkhalcdigneoaa", sum := "d0607a90b5398c52f66abca297d1e83d97682fd7c6c74552c4ac9a797b2c30dd", func := "loop.example/g00325/laws.FnExactNameOf", spec := "fnExactNameOf", inPlace := ["internal/abi.NoEscape"], apart := false }
def FnExactNameOfSaid : Prop := fnExactNameOfRow.holds Try.pinned (OpenSpec.ofChange fnExactNameOfSpec)

/-- ITS FALSE NEIGHBOUR: 'it returns false'. Refute it at one input. -/
def fnExactNameOfWrong : ChangeSpec := { name := "fnExactNameOf", fn := fun _ => fun
  | [d] => { results := [.lit (.bool false)], args := [d] }
  | _ => none }
def FnExactNameOfWrongFalsely : Prop := fnExactNameOfRow.holds Try.pinned (OpenSpec.ofChange fnExactNameOfWrong)

/- THE SECOND FORM. 'bulk': how many values and letters a reading holds, each counted each time it is reached (what is shared counts as often as it is met; a slice's spare places count too). A statement '..UptoSaid' is the law's where the arguments, and the package variables that the reading takes, are together of bulk at most 1048576: NARROWER than '..Said'. Prove '..Said' where nothing that the law and all that it calls make is longer than what came in: it says more and counts as full. Else prove '..UptoSaid'. A law counts once. -/
mutual
def uptoBulk {H : Type} : DataW H → Nat
  | .lit (.string bytes) => bytes.length + 1
  | .lit _ => 1
  | .nil => 1
  | .ptr d => uptoBulk d + 1
  | .slice elems spare => uptoBulkAll elems + uptoBulkAll spare + 1
  | .agg parts => uptoBulkAll parts + 1
  | .iface _ d => uptoBulk d + 1
  | .map entries => uptoBulkEntries entries + 1
  | .held _ => 1
def uptoBulkAll {H : Type} : List (DataW H) → Nat
  | [] => 0
  | d :: r => uptoBulk d + uptoBulkAll r
def uptoBulkEntries {H : Type} : List (Lit × DataW H) → Nat
  | [] => 0
  | x :: r => uptoBulkEntry x + uptoBulkEntries r
def uptoBulkEntry {H : Type} : Lit × DataW H → Nat
  | (.string bytes, d) => bytes.length + uptoBulk d + 1
  | (_, d) => uptoBulk d + 1
 end
def uptoSmall : (H : Type) → List (DataW H) → Bool := fun _ ds => decide (uptoBulkAll ds ≤ 1048576)
def OpenSpec.upto (s : _root_.Go.ChangeSpec) : _root_.Go.OpenSpec := { _root_.Go.OpenSpec.ofChange s with cond := some uptoSmall }

/-- 'laws.FnExactSpaceName', WHERE WHAT IT READS IS OF BULK AT MOST 1048576: true; the input reads as it did. -/
def fnExactSpaceNameUptoRow : OpenClaim := { program := "ytjkhalcdigneoaa", sum := "d0607a90b5398c52f66abca297d1e83d97682fd7c6c74552c4ac9a797b2c30dd", func := "loop.example/g00325/laws.FnExactSpaceName", spec := "fnExactSpaceName", apart := false, narrowed := true }
def FnExactSpaceNameUptoSaid : Prop := fnExactSpaceNameUptoRow.holds Try.pinned (OpenSpec.upto fnExactSpaceNameSpec)

/-- 'laws.FnExactElSize', WHERE WHAT IT READS IS OF BULK AT MOST 1048576: true; the input reads as it did. -/
def fnExactElSizeUptoRow : OpenClaim := { program := "ytjkhalcdigneoaa", sum := "d0607a90b5398c52f66abca297d1e83d97682fd7c6c74552c4ac9a797b2c30dd", func := "loop.example/g00325/laws.FnExactElSize", spec := "fnExactElSize", recurses := true, loops := true, apart := false, narrowed := true }
def FnExactElSizeUptoSaid : Prop := fnExactElSizeUptoRow.holds Try.pinned (OpenSpec.upto fnExactElSizeSpec)

/-- 'laws.FnExactElDeep', WHERE WHAT IT READS IS OF BULK AT MOST 1048576: true; the input reads as it did. -/
def fnExactElDeepUptoRow : OpenClaim := { program := "ytjkhalcdigneoaa", sum := "d0607a90b5398c52f66abca297d1e83d97682fd7c6c74552c4ac9a797b2c30dd", func := "loop.example/g00325/laws.FnExactElDeep", spec := "fnExactElDeep", recurses := true, loops := true, apart := false, narrowed := true }
def FnExactElDeepUptoSaid : Prop := fnExactElDeepUptoRow.holds Try.pinned (OpenSpec.upto fnExactElDeepSpec)

/-- 'laws.FnExactSameEl', WHERE WHAT IT READS IS OF BULK AT MOST 1048576: true; the input reads as it did. -/
def fnExactSameElUptoRow : OpenClaim := { program := "ytjkhalcdigneoaa", sum := "d0607a90b5398c52f66abca297d1e83d97682fd7c6c74552c4ac9a797b2c30dd", func := "loop.example/g00325/laws.FnExactSameEl", spec := "fnExactSameEl", unfollowed := true, recurses := true, loops := true, apart := false, narrowed := true }
def FnExactSameElUptoSaid : Prop := fnExactSameElUptoRow.holds Try.pinned (OpenSpec.upto fnExactSameElSpec)

/-- 'laws.FnExactXmlName', WHERE WHAT IT READS IS OF BULK AT MOST 1048576: true; the input reads as it did. -/
def fnExactXmlNameUptoRow : OpenClaim := { program := "ytjkhalcdigneoaa", sum := "d0607a90b5398c52f66abca297d1e83d97682fd7c6c74552c4ac9a797b2c30dd", func := "loop.example/g00325/laws.FnExactXmlName", spec := "fnExactXmlName", apart := false, narrowed := true }
def FnExactXmlNameUptoSaid : Prop := fnExactXmlNameUptoRow.holds Try.pinned (OpenSpec.upto fnExactXmlNameSpec)

/-- 'laws.FnExactTextOf', WHERE WHAT IT READS IS OF BULK AT MOST 1048576: true; the input reads as it did. -/
def fnExactTextOfUptoRow : OpenClaim := { program := "ytjkhalcdigneoaa", sum := "d0607a90b5398c52f66abca297d1e83d97682fd7c6c74552c4ac9a797b2c30dd", func := "loop.example/g00325/laws.FnExactTextOf", spec := "fnExactTextOf", inPlace := ["internal/abi.NoEscape"], apart := false, narrowed := true }
def FnExactTextOfUptoSaid : Prop := fnExactTextOfUptoRow.holds Try.pinned (OpenSpec.upto fnExactTextOfSpec)

/-- 'laws.FnExactTextOk', WHERE WHAT IT READS IS OF BULK AT MOST 1048576: true; the input reads as it did. -/
def fnExactTextOkUptoRow : OpenClaim := { program := "ytjkhalcdigneoaa", sum := "d0607a90b5398c52f66abca297d1e83d97682fd7c6c74552c4ac9a797b2c30dd", func := "loop.example/g00325/laws.FnExactTextOk", spec := "fnExactTextOk", inPlace := ["internal/abi.NoEscape"], apart := false, narrowed := true }
def FnExactTextOkUptoSaid : Prop := fnExactTextOkUptoRow.holds Try.pinned (OpenSpec.upto fnExactTextOkSpec)

/-- 'laws.FnExactNameOk', WHERE WHAT IT READS IS OF BULK AT MOST 1048576: true; the input reads as it did. -/
def fnExactNameOkUptoRow : OpenClaim := { program := "ytjkhalcdigneoaa", sum := "d0607a90b5398c52f66abca297d1e83d97682fd7c6c74552c4ac9a797b2c30dd", func := "loop.example/g00325/laws.FnExactNameOk", spec := "fnExactNameOk", inPlace := ["internal/abi.NoEscape"], apart := false, narrowed := true }
def FnExactNameOkUptoSaid : Prop := fnExactNameOkUptoRow.holds Try.pinned (OpenSpec.upto fnExactNameOkSpec)

/-- 'laws.FnExactNameOf', WHERE WHAT IT READS IS OF BULK AT MOST 1048576: true; the input reads as it did. -/
def fnExactNameOfUptoRow : OpenClaim := { program := "ytjkhalcdigneoaa", sum := "d0607a90b5398c52f66abca297d1e83d97682fd7c6c74552c4ac9a797b2c30dd", func := "loop.example/g00325/laws.FnExactNameOf", spec := "fnExactNameOf", inPlace := ["internal/abi.NoEscape"], apart := false, narrowed := true }
def FnExactNameOfUptoSaid : Prop := fnExactNameOfUptoRow.holds Try.pinned (OpenSpec.upto fnExactNameOfSpec)

end Rows
end Go.Proofs.Ytjkhalcdigneoaa
