/-
  No cell of these rows narrows 'for every input' (looked for: loops, veiled, ifaces, maps, wideKeys, modest, calm, conditions, laid).
  DERIVED. THE GIVEN ROWS OF THIS SEAT. 7 by the template 'for every input the law returns true; each argument reads behind the call as it read before'; 0 by the template 'total and deterministic' (their statements: YtfjheckgigppiaaTotals.lean).
  GIVEN WITH THE SEED: the statements are not yours to turn. If you find one false, say at which input.
  Laid BY PROGRAM, IN A SANDBOX (cutbox-rows.mjs): the forced cells as the released guide's own fill.sh prints them over the translation b454099d67dc9de7… (all of the seat's roots in one cut). By AI agents, Wed Nov 11 2026. No macro, syntax, notation, axiom, sorry.
-/
import Derived.Test.YtfjheckgigppiaaChecked
import GoSem.Claim
import GoSem.ClaimJoined
import GoSem.ClaimMapViews
import Derived.JoinedTies
import Derived.KernelRfl
namespace Go.Proofs.Ytfjheckgigppiaa
/- THE CELL 'sum', in the pinned program and in every row, IS THE sha256 OF THE DUMP (.gsa) THAT YtfjheckgigppiaaProg.lean LOADS. Nothing in Lean hashes anything: it is a label: what it is worth is what the hold of that sum in a sandbox is worth. -/
noncomputable def Try.pinned : Pinned := { name := "ytfjheckgigppiaa", sum := "b454099d67dc9de71150fd65ed01238e629f3da0708b2595fc5ea6182bb5601d", checked := Try.checked }
namespace Rows
def none {H : Type} : Left H := { results := [], args := [] }

/-- 'laws.FnExactNoteOk': WHATEVER THE INPUT: true; the input reads as it did. -/
def fnExactNoteOkSpec : ChangeSpec := { name := "fnExactNoteOk", fn := fun _ => fun
  | [d] => { results := [.lit (.bool true)], args := [d] }
  | _ => none }
def fnExactNoteOkRow : OpenClaim := { program := "ytfjheckgigppiaa", sum := "b454099d67dc9de71150fd65ed01238e629f3da0708b2595fc5ea6182bb5601d", func := "loop.example/g00325/laws.FnExactNoteOk", spec := "fnExactNoteOk", inPlace := ["internal/abi.NoEscape", "internal/bytealg.IndexByteString", "internal/bytealg.IndexString"], named := ["internal/bytealg.MaxLen"], apart := false }
def FnExactNoteOkSaid : Prop := fnExactNoteOkRow.holds Try.pinned (OpenSpec.ofChange fnExactNoteOkSpec)

/-- ITS FALSE NEIGHBOUR: 'it returns false'. Refute it at one input. -/
def fnExactNoteOkWrong : ChangeSpec := { name := "fnExactNoteOk", fn := fun _ => fun
  | [d] => { results := [.lit (.bool false)], args := [d] }
  | _ => none }
def FnExactNoteOkWrongFalsely : Prop := fnExactNoteOkRow.holds Try.pinned (OpenSpec.ofChange fnExactNoteOkWrong)

/-- 'laws.FnNames': WHATEVER THE INPUT: true; the input reads as it did. -/
def fnNamesSpec : ChangeSpec := { name := "fnNames", fn := fun _ => fun
  | [d] => { results := [.lit (.bool true)], args := [d] }
  | _ => none }
def fnNamesRow : OpenClaim := { program := "ytfjheckgigppiaa", sum := "b454099d67dc9de71150fd65ed01238e629f3da0708b2595fc5ea6182bb5601d", func := "loop.example/g00325/laws.FnNames", spec := "fnNames", inPlace := ["internal/abi.NoEscape"], apart := false }
def FnNamesSaid : Prop := fnNamesRow.holds Try.pinned (OpenSpec.ofChange fnNamesSpec)

/-- ITS FALSE NEIGHBOUR: 'it returns false'. Refute it at one input. -/
def fnNamesWrong : ChangeSpec := { name := "fnNames", fn := fun _ => fun
  | [d] => { results := [.lit (.bool false)], args := [d] }
  | _ => none }
def FnNamesWrongFalsely : Prop := fnNamesRow.holds Try.pinned (OpenSpec.ofChange fnNamesWrong)

/-- 'laws.FnExactDeep': WHATEVER THE INPUT: true; the input reads as it did. -/
def fnExactDeepSpec : ChangeSpec := { name := "fnExactDeep", fn := fun _ => fun
  | [d] => { results := [.lit (.bool true)], args := [d] }
  | _ => none }
def fnExactDeepRow : OpenClaim := { program := "ytfjheckgigppiaa", sum := "b454099d67dc9de71150fd65ed01238e629f3da0708b2595fc5ea6182bb5601d", func := "loop.example/g00325/laws.FnExactDeep", spec := "fnExactDeep", unfollowed := true, recurses := true, apart := false }
def FnExactDeepSaid : Prop := fnExactDeepRow.holds Try.pinned (OpenSpec.ofChange fnExactDeepSpec)

/-- ITS FALSE NEIGHBOUR: 'it returns false'. Refute it at one input. -/
def fnExactDeepWrong : ChangeSpec := { name := "fnExactDeep", fn := fun _ => fun
  | [d] => { results := [.lit (.bool false)], args := [d] }
  | _ => none }
def FnExactDeepWrongFalsely : Prop := fnExactDeepRow.holds Try.pinned (OpenSpec.ofChange fnExactDeepWrong)

/-- 'laws.FnExactInner': WHATEVER THE INPUT: true; the input reads as it did. -/
def fnExactInnerSpec : ChangeSpec := { name := "fnExactInner", fn := fun _ => fun
  | [d1, d2] => { results := [.lit (.bool true)], args := [d1, d2] }
  | _ => none }
def fnExactInnerRow : OpenClaim := { program := "ytfjheckgigppiaa", sum := "b454099d67dc9de71150fd65ed01238e629f3da0708b2595fc5ea6182bb5601d", func := "loop.example/g00325/laws.FnExactInner", spec := "fnExactInner", inPlace := ["internal/abi.NoEscape"], unfollowed := true, recurses := true, apart := false }
def FnExactInnerSaid : Prop := fnExactInnerRow.holds Try.pinned (OpenSpec.ofChange fnExactInnerSpec)

/-- ITS FALSE NEIGHBOUR: 'it returns false'. Refute it at one input. -/
def fnExactInnerWrong : ChangeSpec := { name := "fnExactInner", fn := fun _ => fun
  | [d1, d2] => { results := [.lit (.bool false)], args := [d1, d2] }
  | _ => none }
def FnExactInnerWrongFalsely : Prop := fnExactInnerRow.holds Try.pinned (OpenSpec.ofChange fnExactInnerWrong)

/-- 'laws.FnExactTags': WHATEVER THE INPUT: true; the input reads as it did. -/
def fnExactTagsSpec : ChangeSpec := { name := "fnExactTags", fn := fun _ => fun
  | [d1, d2] => { results := [.lit (.bool true)], args := [d1, d2] }
  | _ => none }
def fnExactTagsRow : OpenClaim := { program := "ytfjheckgigppiaa", sum := "b454099d67dc9de71150fd65ed01238e629f3da0708b2595fc5ea6182bb5601d", func := "loop.example/g00325/laws.FnExactTags", spec := "fnExactTags", unfollowed := true, recurses := true, apart := false }
def FnExactTagsSaid : Prop := fnExactTagsRow.holds Try.pinned (OpenSpec.ofChange fnExactTagsSpec)

/-- ITS FALSE NEIGHBOUR: 'it returns false'. Refute it at one input. -/
def fnExactTagsWrong : ChangeSpec := { name := "fnExactTags", fn := fun _ => fun
  | [d1, d2] => { results := [.lit (.bool false)], args := [d1, d2] }
  | _ => none }
def FnExactTagsWrongFalsely : Prop := fnExactTagsRow.holds Try.pinned (OpenSpec.ofChange fnExactTagsWrong)

/-- 'laws.FnExactXmlNote': WHATEVER THE INPUT: true; the input reads as it did. -/
def fnExactXmlNoteSpec : ChangeSpec := { name := "fnExactXmlNote", fn := fun _ => fun
  | [d1, d2] => { results := [.lit (.bool true)], args := [d1, d2] }
  | _ => none }
def fnExactXmlNoteRow : OpenClaim := { program := "ytfjheckgigppiaa", sum := "b454099d67dc9de71150fd65ed01238e629f3da0708b2595fc5ea6182bb5601d", func := "loop.example/g00325/laws.FnExactXmlNote", spec := "fnExactXmlNote", inPlace := ["internal/bytealg.IndexByteString", "internal/bytealg.IndexString", "internal/abi.NoEscape"], named := ["internal/bytealg.MaxLen"], apart := false }
def FnExactXmlNoteSaid : Prop := fnExactXmlNoteRow.holds Try.pinned (OpenSpec.ofChange fnExactXmlNoteSpec)

/-- ITS FALSE NEIGHBOUR: 'it returns false'. Refute it at one input. -/
def fnExactXmlNoteWrong : ChangeSpec := { name := "fnExactXmlNote", fn := fun _ => fun
  | [d1, d2] => { results := [.lit (.bool false)], args := [d1, d2] }
  | _ => none }
def FnExactXmlNoteWrongFalsely : Prop := fnExactXmlNoteRow.holds Try.pinned (OpenSpec.ofChange fnExactXmlNoteWrong)

/-- 'laws.FnExactWay': WHATEVER THE INPUT: true; the input reads as it did. -/
def fnExactWaySpec : ChangeSpec := { name := "fnExactWay", fn := fun _ => fun
  | [d1, d2] => { results := [.lit (.bool true)], args := [d1, d2] }
  | _ => none }
def fnExactWayRow : OpenClaim := { program := "ytfjheckgigppiaa", sum := "b454099d67dc9de71150fd65ed01238e629f3da0708b2595fc5ea6182bb5601d", func := "loop.example/g00325/laws.FnExactWay", spec := "fnExactWay", unfollowed := true, recurses := true, apart := false }
def FnExactWaySaid : Prop := fnExactWayRow.holds Try.pinned (OpenSpec.ofChange fnExactWaySpec)

/-- ITS FALSE NEIGHBOUR: 'it returns false'. Refute it at one input. -/
def fnExactWayWrong : ChangeSpec := { name := "fnExactWay", fn := fun _ => fun
  | [d1, d2] => { results := [.lit (.bool false)], args := [d1, d2] }
  | _ => none }
def FnExactWayWrongFalsely : Prop := fnExactWayRow.holds Try.pinned (OpenSpec.ofChange fnExactWayWrong)

/- THE SECOND FORM. 'bulk': how many values and letters a reading holds, each counted each time it is reached (what is shared counts as often as it is met; a slice's spare places count too). A statement '..UptoSaid' is the law's where the arguments, and the package variables that the reading takes, are together of bulk at most 1048576: NARROWER than '..Said'. Prove '..Said' where nothing that the law and all that it calls make is longer than what came in: it says more and counts as full. Else prove '..UptoSaid'. A law counts once. -/
mutual
def uptoBulk {H : Type} : DataW H → Nat
  | .lit (.string bytes) => bytes.length + 1
  | .lit _ => 1
  | .nil => 1
  | .ptr d => uptoBulk d + 1
  | .slice elems spare => uptoBulkAll elems + uptoBulkAll spare + 1
  | .agg parts => uptoBulkAll parts + 1
  | .iface _ d => uptoBulk d + 1
  | .map entries => uptoBulkEntries entries + 1
  | .held _ => 1
def uptoBulkAll {H : Type} : List (DataW H) → Nat
  | [] => 0
  | d :: r => uptoBulk d + uptoBulkAll r
def uptoBulkEntries {H : Type} : List (Lit × DataW H) → Nat
  | [] => 0
  | x :: r => uptoBulkEntry x + uptoBulkEntries r
def uptoBulkEntry {H : Type} : Lit × DataW H → Nat
  | (.string bytes, d) => bytes.length + uptoBulk d + 1
  | (_, d) => uptoBulk d + 1
 end
def uptoSmall : (H : Type) → List (DataW H) → Bool := fun _ ds => decide (uptoBulkAll ds ≤ 1048576)
def OpenSpec.upto (s : _root_.Go.ChangeSpec) : _root_.Go.OpenSpec := { _root_.Go.OpenSpec.ofChange s with cond := some uptoSmall }

/-- 'laws.FnExactNoteOk', WHERE WHAT IT READS IS OF BULK AT MOST 1048576: true; the input reads as it did. -/
def fnExactNoteOkUptoRow : OpenClaim := { program := "ytfjheckgigppiaa", sum := "b454099d67dc9de71150fd65ed01238e629f3da0708b2595fc5ea6182bb5601d", func := "loop.example/g00325/laws.FnExactNoteOk", spec := "fnExactNoteOk", inPlace := ["internal/abi.NoEscape", "internal/bytealg.IndexByteString", "internal/bytealg.IndexString"], named := ["internal/bytealg.MaxLen"], apart := false, narrowed := true }
def FnExactNoteOkUptoSaid : Prop := fnExactNoteOkUptoRow.holds Try.pinned (OpenSpec.upto fnExactNoteOkSpec)

/-- 'laws.FnNames', WHERE WHAT IT READS IS OF BULK AT MOST 1048576: true; the input reads as it did. -/
def fnNamesUptoRow : OpenClaim := { program := "ytfjheckgigppiaa", sum := "b454099d67dc9de71150fd65ed01238e629f3da0708b2595fc5ea6182bb5601d", func := "loop.example/g00325/laws.FnNames", spec := "fnNames", inPlace := ["internal/abi.NoEscape"], apart := false, narrowed := true }
def FnNamesUptoSaid : Prop := fnNamesUptoRow.holds Try.pinned (OpenSpec.upto fnNamesSpec)

/-- 'laws.FnExactDeep', WHERE WHAT IT READS IS OF BULK AT MOST 1048576: true; the input reads as it did. -/
def fnExactDeepUptoRow : OpenClaim := { program := "ytfjheckgigppiaa", sum := "b454099d67dc9de71150fd65ed01238e629f3da0708b2595fc5ea6182bb5601d", func := "loop.example/g00325/laws.FnExactDeep", spec := "fnExactDeep", unfollowed := true, recurses := true, apart := false, narrowed := true }
def FnExactDeepUptoSaid : Prop := fnExactDeepUptoRow.holds Try.pinned (OpenSpec.upto fnExactDeepSpec)

/-- 'laws.FnExactInner', WHERE WHAT IT READS IS OF BULK AT MOST 1048576: true; the input reads as it did. -/
def fnExactInnerUptoRow : OpenClaim := { program := "ytfjheckgigppiaa", sum := "b454099d67dc9de71150fd65ed01238e629f3da0708b2595fc5ea6182bb5601d", func := "loop.example/g00325/laws.FnExactInner", spec := "fnExactInner", inPlace := ["internal/abi.NoEscape"], unfollowed := true, recurses := true, apart := false, narrowed := true }
def FnExactInnerUptoSaid : Prop := fnExactInnerUptoRow.holds Try.pinned (OpenSpec.upto fnExactInnerSpec)

/-- 'laws.FnExactTags', WHERE WHAT IT READS IS OF BULK AT MOST 1048576: true; the input reads as it did. -/
def fnExactTagsUptoRow : OpenClaim := { program := "ytfjheckgigppiaa", sum := "b454099d67dc9de71150fd65ed01238e629f3da0708b2595fc5ea6182bb5601d", func := "loop.example/g00325/laws.FnExactTags", spec := "fnExactTags", unfollowed := true, recurses := true, apart := false, narrowed := true }
def FnExactTagsUptoSaid : Prop := fnExactTagsUptoRow.holds Try.pinned (OpenSpec.upto fnExactTagsSpec)

/-- 'laws.FnExactXmlNote', WHERE WHAT IT READS IS OF BULK AT MOST 1048576: true; the input reads as it did. -/
def fnExactXmlNoteUptoRow : OpenClaim := { program := "ytfjheckgigppiaa", sum := "b454099d67dc9de71150fd65ed01238e629f3da0708b2595fc5ea6182bb5601d", func := "loop.example/g00325/laws.FnExactXmlNote", spec := "fnExactXmlNote", inPlace := ["internal/bytealg.IndexByteString", "internal/bytealg.IndexString", "internal/abi.NoEscape"], named := ["internal/bytealg.MaxLen"], apart := false, narrowed := true }
def FnExactXmlNoteUptoSaid : Prop := fnExactXmlNoteUptoRow.holds Try.pinned (OpenSpec.upto fnExactXmlNoteSpec)

/-- 'laws.FnExactWay', WHERE WHAT IT READS IS OF BULK AT MOST 1048576: true; the input reads as it did. -/
def fnExactWayUptoRow : OpenClaim := { program := "ytfjheckgigppiaa", sum := "b454099d67dc9de71150fd65ed01238e629f3da0708b2595fc5ea6182bb5601d", func := "loop.example/g00325/laws.FnExactWay", spec := "fnExactWay", unfollowed := true, recurses := true, apart := false, narrowed := true }
def FnExactWayUptoSaid : Prop := fnExactWayUptoRow.holds Try.pinned (OpenSpec.upto fnExactWaySpec)

end Rows
end Go.Proofs.Ytfjheckgigppiaa
