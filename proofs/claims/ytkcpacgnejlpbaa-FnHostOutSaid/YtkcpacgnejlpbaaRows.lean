/-
  No cell of these rows narrows 'for every input' (looked for: loops, veiled, ifaces, maps, wideKeys, modest, calm, conditions, laid).
  DERIVED. THE GIVEN ROWS OF THIS SEAT. 9 by the template 'for every input the law returns true; each argument reads behind the call as it read before'; 0 by the template 'total and deterministic' (their statements: YtkcpacgnejlpbaaTotals.lean).
  GIVEN WITH THE SEED: the statements are not yours to turn. If you find one false, say at which input.
  Laid BY PROGRAM, IN A SANDBOX (cutbox-rows.mjs): the forced cells as the released guide's own fill.sh prints them over the translation c760b266325e2229… (all of the seat's roots in one cut). By AI agents, Wed Nov 11 2026. No macro, syntax, notation, axiom, sorry.
-/
import Derived.Test.YtkcpacgnejlpbaaChecked
import GoSem.Claim
import GoSem.ClaimJoined
import GoSem.ClaimMapViews
import Derived.JoinedTies
import Derived.KernelRfl
namespace Go.Proofs.Ytkcpacgnejlpbaa
/- THE CELL 'sum', in the pinned program and in every row, IS THE sha256 OF THE DUMP (.gsa) THAT YtkcpacgnejlpbaaProg.lean LOADS. Nothing in Lean hashes anything: it is a label: what it is worth is what the hold of that sum in a sandbox is worth. -/
noncomputable def Try.pinned : Pinned := { name := "ytkcpacgnejlpbaa", sum := "c760b266325e22296be83150f627a0e15b14f912937b9131616ce4047588e3a7", checked := Try.checked }
namespace Rows
def none {H : Type} : Left H := { results := [], args := [] }

/-- 'laws.FnShadeMoved': WHATEVER THE INPUT: true; the input reads as it did. -/
def fnShadeMovedSpec : ChangeSpec := { name := "fnShadeMoved", fn := fun _ => fun
  | [d1, d2] => { results := [.lit (.bool true)], args := [d1, d2] }
  | _ => none }
def fnShadeMovedRow : OpenClaim := { program := "ytkcpacgnejlpbaa", sum := "c760b266325e22296be83150f627a0e15b14f912937b9131616ce4047588e3a7", func := "loop.example/casket/laws.FnShadeMoved", spec := "fnShadeMoved", unfollowed := true, recurses := true, apart := false }
def FnShadeMovedSaid : Prop := fnShadeMovedRow.holds Try.pinned (OpenSpec.ofChange fnShadeMovedSpec)

/-- ITS FALSE NEIGHBOUR: 'it returns false'. Refute it at one input. -/
def fnShadeMovedWrong : ChangeSpec := { name := "fnShadeMoved", fn := fun _ => fun
  | [d1, d2] => { results := [.lit (.bool false)], args := [d1, d2] }
  | _ => none }
def FnShadeMovedWrongFalsely : Prop := fnShadeMovedRow.holds Try.pinned (OpenSpec.ofChange fnShadeMovedWrong)

/-- 'laws.FnHostOut': WHATEVER THE INPUT: true; the input reads as it did. -/
def fnHostOutSpec : ChangeSpec := { name := "fnHostOut", fn := fun _ => fun
  | [d] => { results := [.lit (.bool true)], args := [d] }
  | _ => none }
def fnHostOutRow : OpenClaim := { program := "ytkcpacgnejlpbaa", sum := "c760b266325e22296be83150f627a0e15b14f912937b9131616ce4047588e3a7", func := "loop.example/casket/laws.FnHostOut", spec := "fnHostOut", unfollowed := true, recurses := true, apart := false }
def FnHostOutSaid : Prop := fnHostOutRow.holds Try.pinned (OpenSpec.ofChange fnHostOutSpec)

/-- ITS FALSE NEIGHBOUR: 'it returns false'. Refute it at one input. -/
def fnHostOutWrong : ChangeSpec := { name := "fnHostOut", fn := fun _ => fun
  | [d] => { results := [.lit (.bool false)], args := [d] }
  | _ => none }
def FnHostOutWrongFalsely : Prop := fnHostOutRow.holds Try.pinned (OpenSpec.ofChange fnHostOutWrong)

/-- 'laws.FnExactPageJoin': WHATEVER THE INPUT: true; the input reads as it did. -/
def fnExactPageJoinSpec : ChangeSpec := { name := "fnExactPageJoin", fn := fun _ => fun
  | [d] => { results := [.lit (.bool true)], args := [d] }
  | _ => none }
def fnExactPageJoinRow : OpenClaim := { program := "ytkcpacgnejlpbaa", sum := "c760b266325e22296be83150f627a0e15b14f912937b9131616ce4047588e3a7", func := "loop.example/casket/laws.FnExactPageJoin", spec := "fnExactPageJoin", unfollowed := true, recurses := true, apart := false }
def FnExactPageJoinSaid : Prop := fnExactPageJoinRow.holds Try.pinned (OpenSpec.ofChange fnExactPageJoinSpec)

/-- ITS FALSE NEIGHBOUR: 'it returns false'. Refute it at one input. -/
def fnExactPageJoinWrong : ChangeSpec := { name := "fnExactPageJoin", fn := fun _ => fun
  | [d] => { results := [.lit (.bool false)], args := [d] }
  | _ => none }
def FnExactPageJoinWrongFalsely : Prop := fnExactPageJoinRow.holds Try.pinned (OpenSpec.ofChange fnExactPageJoinWrong)

/-- 'laws.FnJoinLow': WHATEVER THE INPUT: true; the input reads as it did. -/
def fnJoinLowSpec : ChangeSpec := { name := "fnJoinLow", fn := fun _ => fun
  | [d] => { results := [.lit (.bool true)], args := [d] }
  | _ => none }
def fnJoinLowRow : OpenClaim := { program := "ytkcpacgnejlpbaa", sum := "c760b266325e22296be83150f627a0e15b14f912937b9131616ce4047588e3a7", func := "loop.example/casket/laws.FnJoinLow", spec := "fnJoinLow", unfollowed := true, recurses := true, apart := false }
def FnJoinLowSaid : Prop := fnJoinLowRow.holds Try.pinned (OpenSpec.ofChange fnJoinLowSpec)

/-- ITS FALSE NEIGHBOUR: 'it returns false'. Refute it at one input. -/
def fnJoinLowWrong : ChangeSpec := { name := "fnJoinLow", fn := fun _ => fun
  | [d] => { results := [.lit (.bool false)], args := [d] }
  | _ => none }
def FnJoinLowWrongFalsely : Prop := fnJoinLowRow.holds Try.pinned (OpenSpec.ofChange fnJoinLowWrong)

/-- 'laws.FnPageJoinAll': WHATEVER THE INPUT: true; the input reads as it did. -/
def fnPageJoinAllSpec : ChangeSpec := { name := "fnPageJoinAll", fn := fun _ => fun
  | [d] => { results := [.lit (.bool true)], args := [d] }
  | _ => none }
def fnPageJoinAllRow : OpenClaim := { program := "ytkcpacgnejlpbaa", sum := "c760b266325e22296be83150f627a0e15b14f912937b9131616ce4047588e3a7", func := "loop.example/casket/laws.FnPageJoinAll", spec := "fnPageJoinAll", unfollowed := true, recurses := true, apart := false }
def FnPageJoinAllSaid : Prop := fnPageJoinAllRow.holds Try.pinned (OpenSpec.ofChange fnPageJoinAllSpec)

/-- ITS FALSE NEIGHBOUR: 'it returns false'. Refute it at one input. -/
def fnPageJoinAllWrong : ChangeSpec := { name := "fnPageJoinAll", fn := fun _ => fun
  | [d] => { results := [.lit (.bool false)], args := [d] }
  | _ => none }
def FnPageJoinAllWrongFalsely : Prop := fnPageJoinAllRow.holds Try.pinned (OpenSpec.ofChange fnPageJoinAllWrong)

/-- 'laws.FnPageJoin': WHATEVER THE INPUT: true; the input reads as it did. -/
def fnPageJoinSpec : ChangeSpec := { name := "fnPageJoin", fn := fun _ => fun
  | [d] => { results := [.lit (.bool true)], args := [d] }
  | _ => none }
def fnPageJoinRow : OpenClaim := { program := "ytkcpacgnejlpbaa", sum := "c760b266325e22296be83150f627a0e15b14f912937b9131616ce4047588e3a7", func := "loop.example/casket/laws.FnPageJoin", spec := "fnPageJoin", unfollowed := true, recurses := true, apart := false }
def FnPageJoinSaid : Prop := fnPageJoinRow.holds Try.pinned (OpenSpec.ofChange fnPageJoinSpec)

/-- ITS FALSE NEIGHBOUR: 'it returns false'. Refute it at one input. -/
def fnPageJoinWrong : ChangeSpec := { name := "fnPageJoin", fn := fun _ => fun
  | [d] => { results := [.lit (.bool false)], args := [d] }
  | _ => none }
def FnPageJoinWrongFalsely : Prop := fnPageJoinRow.holds Try.pinned (OpenSpec.ofChange fnPageJoinWrong)

/-- 'laws.FnPageOwn': WHATEVER THE INPUT: true; the input reads as it did. -/
def fnPageOwnSpec : ChangeSpec := { name := "fnPageOwn", fn := fun _ => fun
  | [d] => { results := [.lit (.bool true)], args := [d] }
  | _ => none }
def fnPageOwnRow : OpenClaim := { program := "ytkcpacgnejlpbaa", sum := "c760b266325e22296be83150f627a0e15b14f912937b9131616ce4047588e3a7", func := "loop.example/casket/laws.FnPageOwn", spec := "fnPageOwn", unfollowed := true, recurses := true, apart := false }
def FnPageOwnSaid : Prop := fnPageOwnRow.holds Try.pinned (OpenSpec.ofChange fnPageOwnSpec)

/-- ITS FALSE NEIGHBOUR: 'it returns false'. Refute it at one input. -/
def fnPageOwnWrong : ChangeSpec := { name := "fnPageOwn", fn := fun _ => fun
  | [d] => { results := [.lit (.bool false)], args := [d] }
  | _ => none }
def FnPageOwnWrongFalsely : Prop := fnPageOwnRow.holds Try.pinned (OpenSpec.ofChange fnPageOwnWrong)

/-- 'laws.FnJoinOwn': WHATEVER THE INPUT: true; the input reads as it did. -/
def fnJoinOwnSpec : ChangeSpec := { name := "fnJoinOwn", fn := fun _ => fun
  | [d1, d2] => { results := [.lit (.bool true)], args := [d1, d2] }
  | _ => none }
def fnJoinOwnRow : OpenClaim := { program := "ytkcpacgnejlpbaa", sum := "c760b266325e22296be83150f627a0e15b14f912937b9131616ce4047588e3a7", func := "loop.example/casket/laws.FnJoinOwn", spec := "fnJoinOwn", unfollowed := true, recurses := true, apart := false }
def FnJoinOwnSaid : Prop := fnJoinOwnRow.holds Try.pinned (OpenSpec.ofChange fnJoinOwnSpec)

/-- ITS FALSE NEIGHBOUR: 'it returns false'. Refute it at one input. -/
def fnJoinOwnWrong : ChangeSpec := { name := "fnJoinOwn", fn := fun _ => fun
  | [d1, d2] => { results := [.lit (.bool false)], args := [d1, d2] }
  | _ => none }
def FnJoinOwnWrongFalsely : Prop := fnJoinOwnRow.holds Try.pinned (OpenSpec.ofChange fnJoinOwnWrong)

/-- 'laws.FnWriteShared': WHATEVER THE INPUT: true; the input reads as it did. -/
def fnWriteSharedSpec : ChangeSpec := { name := "fnWriteShared", fn := fun _ => fun
  | [d] => { results := [.lit (.bool true)], args := [d] }
  | _ => none }
def fnWriteSharedRow : OpenClaim := { program := "ytkcpacgnejlpbaa", sum := "c760b266325e22296be83150f627a0e15b14f912937b9131616ce4047588e3a7", func := "loop.example/casket/laws.FnWriteShared", spec := "fnWriteShared", unfollowed := true, recurses := true, apart := false }
def FnWriteSharedSaid : Prop := fnWriteSharedRow.holds Try.pinned (OpenSpec.ofChange fnWriteSharedSpec)

/-- ITS FALSE NEIGHBOUR: 'it returns false'. Refute it at one input. -/
def fnWriteSharedWrong : ChangeSpec := { name := "fnWriteShared", fn := fun _ => fun
  | [d] => { results := [.lit (.bool false)], args := [d] }
  | _ => none }
def FnWriteSharedWrongFalsely : Prop := fnWriteSharedRow.holds Try.pinned (OpenSpec.ofChange fnWriteSharedWrong)

/- THE SECOND FORM. 'bulk': how many values and letters a reading holds, each counted each time it is reached (what is shared counts as often as it is met; a slice's spare places count too). A statement '..UptoSaid' is the law's where the arguments, and the package variables that the reading takes, are together of bulk at most 1048576: NARROWER than '..Said'. Prove '..Said' where nothing that the law and all that it calls make is longer than what came in: it says more and counts as full. Else prove '..UptoSaid'. A law counts once. -/
mutual
def uptoBulk {H : Type} : DataW H → Nat
  | .lit (.string bytes) => bytes.length + 1
  | .lit _ => 1
  | .nil => 1
  | .ptr d => uptoBulk d + 1
  | .slice elems spare => uptoBulkAll elems + uptoBulkAll spare + 1
  | .agg parts => uptoBulkAll parts + 1
  | .iface _ d => uptoBulk d + 1
  | .map entries => uptoBulkEntries entries + 1
  | .held _ => 1
def uptoBulkAll {H : Type} : List (DataW H) → Nat
  | [] => 0
  | d :: r => uptoBulk d + uptoBulkAll r
def uptoBulkEntries {H : Type} : List (Lit × DataW H) → Nat
  | [] => 0
  | x :: r => uptoBulkEntry x + uptoBulkEntries r
def uptoBulkEntry {H : Type} : Lit × DataW H → Nat
  | (.string bytes, d) => bytes.length + uptoBulk d + 1
  | (_, d) => uptoBulk d + 1
 end
def uptoSmall : (H : Type) → List (DataW H) → Bool := fun _ ds => decide (uptoBulkAll ds ≤ 1048576)
def OpenSpec.upto (s : _root_.Go.ChangeSpec) : _root_.Go.OpenSpec := { _root_.Go.OpenSpec.ofChange s with cond := some uptoSmall }

/-- 'laws.FnShadeMoved', WHERE WHAT IT READS IS OF BULK AT MOST 1048576: true; the input reads as it did. -/
def fnShadeMovedUptoRow : OpenClaim := { program := "ytkcpacgnejlpbaa", sum := "c760b266325e22296be83150f627a0e15b14f912937b9131616ce4047588e3a7", func := "loop.example/casket/laws.FnShadeMoved", spec := "fnShadeMoved", unfollowed := true, recurses := true, apart := false, narrowed := true }
def FnShadeMovedUptoSaid : Prop := fnShadeMovedUptoRow.holds Try.pinned (OpenSpec.upto fnShadeMovedSpec)

/-- 'laws.FnHostOut', WHERE WHAT IT READS IS OF BULK AT MOST 1048576: true; the input reads as it did. -/
def fnHostOutUptoRow : OpenClaim := { program := "ytkcpacgnejlpbaa", sum := "c760b266325e22296be83150f627a0e15b14f912937b9131616ce4047588e3a7", func := "loop.example/casket/laws.FnHostOut", spec := "fnHostOut", unfollowed := true, recurses := true, apart := false, narrowed := true }
def FnHostOutUptoSaid : Prop := fnHostOutUptoRow.holds Try.pinned (OpenSpec.upto fnHostOutSpec)

/-- 'laws.FnExactPageJoin', WHERE WHAT IT READS IS OF BULK AT MOST 1048576: true; the input reads as it did. -/
def fnExactPageJoinUptoRow : OpenClaim := { program := "ytkcpacgnejlpbaa", sum := "c760b266325e22296be83150f627a0e15b14f912937b9131616ce4047588e3a7", func := "loop.example/casket/laws.FnExactPageJoin", spec := "fnExactPageJoin", unfollowed := true, recurses := true, apart := false, narrowed := true }
def FnExactPageJoinUptoSaid : Prop := fnExactPageJoinUptoRow.holds Try.pinned (OpenSpec.upto fnExactPageJoinSpec)

/-- 'laws.FnJoinLow', WHERE WHAT IT READS IS OF BULK AT MOST 1048576: true; the input reads as it did. -/
def fnJoinLowUptoRow : OpenClaim := { program := "ytkcpacgnejlpbaa", sum := "c760b266325e22296be83150f627a0e15b14f912937b9131616ce4047588e3a7", func := "loop.example/casket/laws.FnJoinLow", spec := "fnJoinLow", unfollowed := true, recurses := true, apart := false, narrowed := true }
def FnJoinLowUptoSaid : Prop := fnJoinLowUptoRow.holds Try.pinned (OpenSpec.upto fnJoinLowSpec)

/-- 'laws.FnPageJoinAll', WHERE WHAT IT READS IS OF BULK AT MOST 1048576: true; the input reads as it did. -/
def fnPageJoinAllUptoRow : OpenClaim := { program := "ytkcpacgnejlpbaa", sum := "c760b266325e22296be83150f627a0e15b14f912937b9131616ce4047588e3a7", func := "loop.example/casket/laws.FnPageJoinAll", spec := "fnPageJoinAll", unfollowed := true, recurses := true, apart := false, narrowed := true }
def FnPageJoinAllUptoSaid : Prop := fnPageJoinAllUptoRow.holds Try.pinned (OpenSpec.upto fnPageJoinAllSpec)

/-- 'laws.FnPageJoin', WHERE WHAT IT READS IS OF BULK AT MOST 1048576: true; the input reads as it did. -/
def fnPageJoinUptoRow : OpenClaim := { program := "ytkcpacgnejlpbaa", sum := "c760b266325e22296be83150f627a0e15b14f912937b9131616ce4047588e3a7", func := "loop.example/casket/laws.FnPageJoin", spec := "fnPageJoin", unfollowed := true, recurses := true, apart := false, narrowed := true }
def FnPageJoinUptoSaid : Prop := fnPageJoinUptoRow.holds Try.pinned (OpenSpec.upto fnPageJoinSpec)

/-- 'laws.FnPageOwn', WHERE WHAT IT READS IS OF BULK AT MOST 1048576: true; the input reads as it did. -/
def fnPageOwnUptoRow : OpenClaim := { program := "ytkcpacgnejlpbaa", sum := "c760b266325e22296be83150f627a0e15b14f912937b9131616ce4047588e3a7", func := "loop.example/casket/laws.FnPageOwn", spec := "fnPageOwn", unfollowed := true, recurses := true, apart := false, narrowed := true }
def FnPageOwnUptoSaid : Prop := fnPageOwnUptoRow.holds Try.pinned (OpenSpec.upto fnPageOwnSpec)

/-- 'laws.FnJoinOwn', WHERE WHAT IT READS IS OF BULK AT MOST 1048576: true; the input reads as it did. -/
def fnJoinOwnUptoRow : OpenClaim := { program := "ytkcpacgnejlpbaa", sum := "c760b266325e22296be83150f627a0e15b14f912937b9131616ce4047588e3a7", func := "loop.example/casket/laws.FnJoinOwn", spec := "fnJoinOwn", unfollowed := true, recurses := true, apart := false, narrowed := true }
def FnJoinOwnUptoSaid : Prop := fnJoinOwnUptoRow.holds Try.pinned (OpenSpec.upto fnJoinOwnSpec)

/-- 'laws.FnWriteShared', WHERE WHAT IT READS IS OF BULK AT MOST 1048576: true; the input reads as it did. -/
def fnWriteSharedUptoRow : OpenClaim := { program := "ytkcpacgnejlpbaa", sum := "c760b266325e22296be83150f627a0e15b14f912937b9131616ce4047588e3a7", func := "loop.example/casket/laws.FnWriteShared", spec := "fnWriteShared", unfollowed := true, recurses := true, apart := false, narrowed := true }
def FnWriteSharedUptoSaid : Prop := fnWriteSharedUptoRow.holds Try.pinned (OpenSpec.upto fnWriteSharedSpec)

end Rows
end Go.Proofs.Ytkcpacgnejlpbaa
