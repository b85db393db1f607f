/-
  No cell of these rows narrows 'for every input' (looked for: loops, veiled, ifaces, maps, wideKeys, modest, calm, conditions, laid).
  DERIVED. THE GIVEN ROWS OF THIS SEAT. 9 by the template 'for every input the law returns true; each argument reads behind the call as it read before'; 0 by the template 'total and deterministic' (their statements: YtldidlcaaokbmaaTotals.lean).
  GIVEN WITH THE SEED: the statements are not yours to turn. If you find one false, say at which input.
  Laid BY PROGRAM, IN A SANDBOX (cutbox-rows.mjs): the forced cells as the released guide's own fill.sh prints them over the translation 8b222052be3a78ac… (all of the seat's roots in one cut). By AI agents, Wed Nov 11 2026. No macro, syntax, notation, axiom, sorry.
-/
import Derived.Test.YtldidlcaaokbmaaChecked
import GoSem.Claim
import GoSem.ClaimJoined
import GoSem.ClaimMapViews
import Derived.JoinedTies
import Derived.KernelRfl
namespace Go.Proofs.Ytldidlcaaokbmaa
/- THE CELL 'sum', in the pinned program and in every row, IS THE sha256 OF THE DUMP (.gsa) THAT YtldidlcaaokbmaaProg.lean LOADS. Nothing in Lean hashes anything: it is a label: what it is worth is what the hold of that sum in a sandbox is worth. -/
noncomputable def Try.pinned : Pinned := { name := "ytldidlcaaokbmaa", sum := "8b222052be3a78ac938655c368a23386b3848c579c03d33d8400318b0f40f218", checked := Try.checked }
namespace Rows
def none {H : Type} : Left H := { results := [], args := [] }

/-- 'laws.FnWriteInFlat': WHATEVER THE INPUT: true; the input reads as it did. -/
def fnWriteInFlatSpec : ChangeSpec := { name := "fnWriteInFlat", fn := fun _ => fun
  | [d] => { results := [.lit (.bool true)], args := [d] }
  | _ => none }
def fnWriteInFlatRow : OpenClaim := { program := "ytldidlcaaokbmaa", sum := "8b222052be3a78ac938655c368a23386b3848c579c03d33d8400318b0f40f218", func := "loop.example/casket/laws.FnWriteInFlat", spec := "fnWriteInFlat", unfollowed := true, recurses := true, apart := false }
def FnWriteInFlatSaid : Prop := fnWriteInFlatRow.holds Try.pinned (OpenSpec.ofChange fnWriteInFlatSpec)

/-- ITS FALSE NEIGHBOUR: 'it returns false'. Refute it at one input. -/
def fnWriteInFlatWrong : ChangeSpec := { name := "fnWriteInFlat", fn := fun _ => fun
  | [d] => { results := [.lit (.bool false)], args := [d] }
  | _ => none }
def FnWriteInFlatWrongFalsely : Prop := fnWriteInFlatRow.holds Try.pinned (OpenSpec.ofChange fnWriteInFlatWrong)

/-- 'laws.FnShadeWrite': WHATEVER THE INPUT: true; the input reads as it did. -/
def fnShadeWriteSpec : ChangeSpec := { name := "fnShadeWrite", fn := fun _ => fun
  | [d] => { results := [.lit (.bool true)], args := [d] }
  | _ => none }
def fnShadeWriteRow : OpenClaim := { program := "ytldidlcaaokbmaa", sum := "8b222052be3a78ac938655c368a23386b3848c579c03d33d8400318b0f40f218", func := "loop.example/casket/laws.FnShadeWrite", spec := "fnShadeWrite", unfollowed := true, recurses := true, apart := false }
def FnShadeWriteSaid : Prop := fnShadeWriteRow.holds Try.pinned (OpenSpec.ofChange fnShadeWriteSpec)

/-- ITS FALSE NEIGHBOUR: 'it returns false'. Refute it at one input. -/
def fnShadeWriteWrong : ChangeSpec := { name := "fnShadeWrite", fn := fun _ => fun
  | [d] => { results := [.lit (.bool false)], args := [d] }
  | _ => none }
def FnShadeWriteWrongFalsely : Prop := fnShadeWriteRow.holds Try.pinned (OpenSpec.ofChange fnShadeWriteWrong)

/-- 'laws.FnExactHostWriteIn': WHATEVER THE INPUT: true; the input reads as it did. -/
def fnExactHostWriteInSpec : ChangeSpec := { name := "fnExactHostWriteIn", fn := fun _ => fun
  | [d1, d2, d3, d4, d5] => { results := [.lit (.bool true)], args := [d1, d2, d3, d4, d5] }
  | _ => none }
def fnExactHostWriteInRow : OpenClaim := { program := "ytldidlcaaokbmaa", sum := "8b222052be3a78ac938655c368a23386b3848c579c03d33d8400318b0f40f218", func := "loop.example/casket/laws.FnExactHostWriteIn", spec := "fnExactHostWriteIn", unfollowed := true, recurses := true, apart := false }
def FnExactHostWriteInSaid : Prop := fnExactHostWriteInRow.holds Try.pinned (OpenSpec.ofChange fnExactHostWriteInSpec)

/-- ITS FALSE NEIGHBOUR: 'it returns false'. Refute it at one input. -/
def fnExactHostWriteInWrong : ChangeSpec := { name := "fnExactHostWriteIn", fn := fun _ => fun
  | [d1, d2, d3, d4, d5] => { results := [.lit (.bool false)], args := [d1, d2, d3, d4, d5] }
  | _ => none }
def FnExactHostWriteInWrongFalsely : Prop := fnExactHostWriteInRow.holds Try.pinned (OpenSpec.ofChange fnExactHostWriteInWrong)

/-- 'laws.FnFaultAgain': WHATEVER THE INPUT: true; the input reads as it did. -/
def fnFaultAgainSpec : ChangeSpec := { name := "fnFaultAgain", fn := fun _ => fun
  | [d] => { results := [.lit (.bool true)], args := [d] }
  | _ => none }
def fnFaultAgainRow : OpenClaim := { program := "ytldidlcaaokbmaa", sum := "8b222052be3a78ac938655c368a23386b3848c579c03d33d8400318b0f40f218", func := "loop.example/casket/laws.FnFaultAgain", spec := "fnFaultAgain", unfollowed := true, recurses := true, apart := false }
def FnFaultAgainSaid : Prop := fnFaultAgainRow.holds Try.pinned (OpenSpec.ofChange fnFaultAgainSpec)

/-- ITS FALSE NEIGHBOUR: 'it returns false'. Refute it at one input. -/
def fnFaultAgainWrong : ChangeSpec := { name := "fnFaultAgain", fn := fun _ => fun
  | [d] => { results := [.lit (.bool false)], args := [d] }
  | _ => none }
def FnFaultAgainWrongFalsely : Prop := fnFaultAgainRow.holds Try.pinned (OpenSpec.ofChange fnFaultAgainWrong)

/-- 'laws.FnWriteFlat': WHATEVER THE INPUT: true; the input reads as it did. -/
def fnWriteFlatSpec : ChangeSpec := { name := "fnWriteFlat", fn := fun _ => fun
  | [d] => { results := [.lit (.bool true)], args := [d] }
  | _ => none }
def fnWriteFlatRow : OpenClaim := { program := "ytldidlcaaokbmaa", sum := "8b222052be3a78ac938655c368a23386b3848c579c03d33d8400318b0f40f218", func := "loop.example/casket/laws.FnWriteFlat", spec := "fnWriteFlat", unfollowed := true, recurses := true, apart := false }
def FnWriteFlatSaid : Prop := fnWriteFlatRow.holds Try.pinned (OpenSpec.ofChange fnWriteFlatSpec)

/-- ITS FALSE NEIGHBOUR: 'it returns false'. Refute it at one input. -/
def fnWriteFlatWrong : ChangeSpec := { name := "fnWriteFlat", fn := fun _ => fun
  | [d] => { results := [.lit (.bool false)], args := [d] }
  | _ => none }
def FnWriteFlatWrongFalsely : Prop := fnWriteFlatRow.holds Try.pinned (OpenSpec.ofChange fnWriteFlatWrong)

/-- 'laws.FnReadInWritten': WHATEVER THE INPUT: true; the input reads as it did. -/
def fnReadInWrittenSpec : ChangeSpec := { name := "fnReadInWritten", fn := fun _ => fun
  | [d1, d2] => { results := [.lit (.bool true)], args := [d1, d2] }
  | _ => none }
def fnReadInWrittenRow : OpenClaim := { program := "ytldidlcaaokbmaa", sum := "8b222052be3a78ac938655c368a23386b3848c579c03d33d8400318b0f40f218", func := "loop.example/casket/laws.FnReadInWritten", spec := "fnReadInWritten", unfollowed := true, recurses := true, apart := false }
def FnReadInWrittenSaid : Prop := fnReadInWrittenRow.holds Try.pinned (OpenSpec.ofChange fnReadInWrittenSpec)

/-- ITS FALSE NEIGHBOUR: 'it returns false'. Refute it at one input. -/
def fnReadInWrittenWrong : ChangeSpec := { name := "fnReadInWritten", fn := fun _ => fun
  | [d1, d2] => { results := [.lit (.bool false)], args := [d1, d2] }
  | _ => none }
def FnReadInWrittenWrongFalsely : Prop := fnReadInWrittenRow.holds Try.pinned (OpenSpec.ofChange fnReadInWrittenWrong)

/-- 'laws.FnMoveFirst': WHATEVER THE INPUT: true; the input reads as it did. -/
def fnMoveFirstSpec : ChangeSpec := { name := "fnMoveFirst", fn := fun _ => fun
  | [d] => { results := [.lit (.bool true)], args := [d] }
  | _ => none }
def fnMoveFirstRow : OpenClaim := { program := "ytldidlcaaokbmaa", sum := "8b222052be3a78ac938655c368a23386b3848c579c03d33d8400318b0f40f218", func := "loop.example/casket/laws.FnMoveFirst", spec := "fnMoveFirst", unfollowed := true, recurses := true, apart := false }
def FnMoveFirstSaid : Prop := fnMoveFirstRow.holds Try.pinned (OpenSpec.ofChange fnMoveFirstSpec)

/-- ITS FALSE NEIGHBOUR: 'it returns false'. Refute it at one input. -/
def fnMoveFirstWrong : ChangeSpec := { name := "fnMoveFirst", fn := fun _ => fun
  | [d] => { results := [.lit (.bool false)], args := [d] }
  | _ => none }
def FnMoveFirstWrongFalsely : Prop := fnMoveFirstRow.holds Try.pinned (OpenSpec.ofChange fnMoveFirstWrong)

/-- 'laws.FnMoveTwice': WHATEVER THE INPUT: true; the input reads as it did. -/
def fnMoveTwiceSpec : ChangeSpec := { name := "fnMoveTwice", fn := fun _ => fun
  | [d] => { results := [.lit (.bool true)], args := [d] }
  | _ => none }
def fnMoveTwiceRow : OpenClaim := { program := "ytldidlcaaokbmaa", sum := "8b222052be3a78ac938655c368a23386b3848c579c03d33d8400318b0f40f218", func := "loop.example/casket/laws.FnMoveTwice", spec := "fnMoveTwice", unfollowed := true, recurses := true, apart := false }
def FnMoveTwiceSaid : Prop := fnMoveTwiceRow.holds Try.pinned (OpenSpec.ofChange fnMoveTwiceSpec)

/-- ITS FALSE NEIGHBOUR: 'it returns false'. Refute it at one input. -/
def fnMoveTwiceWrong : ChangeSpec := { name := "fnMoveTwice", fn := fun _ => fun
  | [d] => { results := [.lit (.bool false)], args := [d] }
  | _ => none }
def FnMoveTwiceWrongFalsely : Prop := fnMoveTwiceRow.holds Try.pinned (OpenSpec.ofChange fnMoveTwiceWrong)

/-- 'laws.FnPageMove': WHATEVER THE INPUT: true; the input reads as it did. -/
def fnPageMoveSpec : ChangeSpec := { name := "fnPageMove", fn := fun _ => fun
  | [d] => { results := [.lit (.bool true)], args := [d] }
  | _ => none }
def fnPageMoveRow : OpenClaim := { program := "ytldidlcaaokbmaa", sum := "8b222052be3a78ac938655c368a23386b3848c579c03d33d8400318b0f40f218", func := "loop.example/casket/laws.FnPageMove", spec := "fnPageMove", unfollowed := true, recurses := true, apart := false }
def FnPageMoveSaid : Prop := fnPageMoveRow.holds Try.pinned (OpenSpec.ofChange fnPageMoveSpec)

/-- ITS FALSE NEIGHBOUR: 'it returns false'. Refute it at one input. -/
def fnPageMoveWrong : ChangeSpec := { name := "fnPageMove", fn := fun _ => fun
  | [d] => { results := [.lit (.bool false)], args := [d] }
  | _ => none }
def FnPageMoveWrongFalsely : Prop := fnPageMoveRow.holds Try.pinned (OpenSpec.ofChange fnPageMoveWrong)

/- THE SECOND FORM. 'bulk': how many values and letters a reading holds, each counted each time it is reached (what is shared counts as often as it is met; a slice's spare places count too). A statement '..UptoSaid' is the law's where the arguments, and the package variables that the reading takes, are together of bulk at most 1048576: NARROWER than '..Said'. Prove '..Said' where nothing that the law and all that it calls make is longer than what came in: it says more and counts as full. Else prove '..UptoSaid'. A law counts once. -/
mutual
def uptoBulk {H : Type} : DataW H → Nat
  | .lit (.string bytes) => bytes.length + 1
  | .lit _ => 1
  | .nil => 1
  | .ptr d => uptoBulk d + 1
  | .slice elems spare => uptoBulkAll elems + uptoBulkAll spare + 1
  | .agg parts => uptoBulkAll parts + 1
  | .iface _ d => uptoBulk d + 1
  | .map entries => uptoBulkEntries entries + 1
  | .held _ => 1
def uptoBulkAll {H : Type} : List (DataW H) → Nat
  | [] => 0
  | d :: r => uptoBulk d + uptoBulkAll r
def uptoBulkEntries {H : Type} : List (Lit × DataW H) → Nat
  | [] => 0
  | x :: r => uptoBulkEntry x + uptoBulkEntries r
def uptoBulkEntry {H : Type} : Lit × DataW H → Nat
  | (.string bytes, d) => bytes.length + uptoBulk d + 1
  | (_, d) => uptoBulk d + 1
 end
def uptoSmall : (H : Type) → List (DataW H) → Bool := fun _ ds => decide (uptoBulkAll ds ≤ 1048576)
def OpenSpec.upto (s : _root_.Go.ChangeSpec) : _root_.Go.OpenSpec := { _root_.Go.OpenSpec.ofChange s with cond := some uptoSmall }

/-- 'laws.FnWriteInFlat', WHERE WHAT IT READS IS OF BULK AT MOST 1048576: true; the input reads as it did. -/
def fnWriteInFlatUptoRow : OpenClaim := { program := "ytldidlcaaokbmaa", sum := "8b222052be3a78ac938655c368a23386b3848c579c03d33d8400318b0f40f218", func := "loop.example/casket/laws.FnWriteInFlat", spec := "fnWriteInFlat", unfollowed := true, recurses := true, apart := false, narrowed := true }
def FnWriteInFlatUptoSaid : Prop := fnWriteInFlatUptoRow.holds Try.pinned (OpenSpec.upto fnWriteInFlatSpec)

/-- 'laws.FnShadeWrite', WHERE WHAT IT READS IS OF BULK AT MOST 1048576: true; the input reads as it did. -/
def fnShadeWriteUptoRow : OpenClaim := { program := "ytldidlcaaokbmaa", sum := "8b222052be3a78ac938655c368a23386b3848c579c03d33d8400318b0f40f218", func := "loop.example/casket/laws.FnShadeWrite", spec := "fnShadeWrite", unfollowed := true, recurses := true, apart := false, narrowed := true }
def FnShadeWriteUptoSaid : Prop := fnShadeWriteUptoRow.holds Try.pinned (OpenSpec.upto fnShadeWriteSpec)

/-- 'laws.FnExactHostWriteIn', WHERE WHAT IT READS IS OF BULK AT MOST 1048576: true; the input reads as it did. -/
def fnExactHostWriteInUptoRow : OpenClaim := { program := "ytldidlcaaokbmaa", sum := "8b222052be3a78ac938655c368a23386b3848c579c03d33d8400318b0f40f218", func := "loop.example/casket/laws.FnExactHostWriteIn", spec := "fnExactHostWriteIn", unfollowed := true, recurses := true, apart := false, narrowed := true }
def FnExactHostWriteInUptoSaid : Prop := fnExactHostWriteInUptoRow.holds Try.pinned (OpenSpec.upto fnExactHostWriteInSpec)

/-- 'laws.FnFaultAgain', WHERE WHAT IT READS IS OF BULK AT MOST 1048576: true; the input reads as it did. -/
def fnFaultAgainUptoRow : OpenClaim := { program := "ytldidlcaaokbmaa", sum := "8b222052be3a78ac938655c368a23386b3848c579c03d33d8400318b0f40f218", func := "loop.example/casket/laws.FnFaultAgain", spec := "fnFaultAgain", unfollowed := true, recurses := true, apart := false, narrowed := true }
def FnFaultAgainUptoSaid : Prop := fnFaultAgainUptoRow.holds Try.pinned (OpenSpec.upto fnFaultAgainSpec)

/-- 'laws.FnWriteFlat', WHERE WHAT IT READS IS OF BULK AT MOST 1048576: true; the input reads as it did. -/
def fnWriteFlatUptoRow : OpenClaim := { program := "ytldidlcaaokbmaa", sum := "8b222052be3a78ac938655c368a23386b3848c579c03d33d8400318b0f40f218", func := "loop.example/casket/laws.FnWriteFlat", spec := "fnWriteFlat", unfollowed := true, recurses := true, apart := false, narrowed := true }
def FnWriteFlatUptoSaid : Prop := fnWriteFlatUptoRow.holds Try.pinned (OpenSpec.upto fnWriteFlatSpec)

/-- 'laws.FnReadInWritten', WHERE WHAT IT READS IS OF BULK AT MOST 1048576: true; the input reads as it did. -/
def fnReadInWrittenUptoRow : OpenClaim := { program := "ytldidlcaaokbmaa", sum := "8b222052be3a78ac938655c368a23386b3848c579c03d33d8400318b0f40f218", func := "loop.example/casket/laws.FnReadInWritten", spec := "fnReadInWritten", unfollowed := true, recurses := true, apart := false, narrowed := true }
def FnReadInWrittenUptoSaid : Prop := fnReadInWrittenUptoRow.holds Try.pinned (OpenSpec.upto fnReadInWrittenSpec)

/-- 'laws.FnMoveFirst', WHERE WHAT IT READS IS OF BULK AT MOST 1048576: true; the input reads as it did. -/
def fnMoveFirstUptoRow : OpenClaim := { program := "ytldidlcaaokbmaa", sum := "8b222052be3a78ac938655c368a23386b3848c579c03d33d8400318b0f40f218", func := "loop.example/casket/laws.FnMoveFirst", spec := "fnMoveFirst", unfollowed := true, recurses := true, apart := false, narrowed := true }
def FnMoveFirstUptoSaid : Prop := fnMoveFirstUptoRow.holds Try.pinned (OpenSpec.upto fnMoveFirstSpec)

/-- 'laws.FnMoveTwice', WHERE WHAT IT READS IS OF BULK AT MOST 1048576: true; the input reads as it did. -/
def fnMoveTwiceUptoRow : OpenClaim := { program := "ytldidlcaaokbmaa", sum := "8b222052be3a78ac938655c368a23386b3848c579c03d33d8400318b0f40f218", func := "loop.example/casket/laws.FnMoveTwice", spec := "fnMoveTwice", unfollowed := true, recurses := true, apart := false, narrowed := true }
def FnMoveTwiceUptoSaid : Prop := fnMoveTwiceUptoRow.holds Try.pinned (OpenSpec.upto fnMoveTwiceSpec)

/-- 'laws.FnPageMove', WHERE WHAT IT READS IS OF BULK AT MOST 1048576: true; the input reads as it did. -/
def fnPageMoveUptoRow : OpenClaim := { program := "ytldidlcaaokbmaa", sum := "8b222052be3a78ac938655c368a23386b3848c579c03d33d8400318b0f40f218", func := "loop.example/casket/laws.FnPageMove", spec := "fnPageMove", unfollowed := true, recurses := true, apart := false, narrowed := true }
def FnPageMoveUptoSaid : Prop := fnPageMoveUptoRow.holds Try.pinned (OpenSpec.upto fnPageMoveSpec)

end Rows
end Go.Proofs.Ytldidlcaaokbmaa
