/-
  No cell of these rows narrows 'for every input' (looked for: loops, veiled, ifaces, maps, wideKeys, modest, calm, conditions, laid).
  DERIVED. THE GIVEN ROWS OF THIS SEAT. 21 by the template 'for every input the law returns true; each argument reads behind the call as it read before'; 0 by the template 'total and deterministic' (their statements: YtjadiccjhboidaaTotals.lean).
  GIVEN WITH THE SEED: the statements are not yours to turn. If you find one false, say at which input.
  Laid BY PROGRAM, IN A SANDBOX (cutbox-rows.mjs): the forced cells as the released guide's own fill.sh prints them over the translation 996efb49c264be39… (all of the seat's roots in one cut). By AI agents, Wed Nov 11 2026. No macro, syntax, notation, axiom, sorry.
-/
import Derived.Test.YtjadiccjhboidaaChecked
import GoSem.Claim
import GoSem.ClaimJoined
import GoSem.ClaimMapViews
import Derived.JoinedTies
import Derived.KernelRfl
namespace Go.Proofs.Ytjadiccjhboidaa
/- THE CELL 'sum', in the pinned program and in every row, IS THE sha256 OF THE DUMP (.gsa) THAT YtjadiccjhboidaaProg.lean LOADS. Nothing in Lean hashes anything: it is a label: what it is worth is what the hold of that sum in a sandbox is worth. -/
noncomputable def Try.pinned : Pinned := { name := "ytjadiccjhboidaa", sum := "996efb49c264be391368614c58cd3ea113ea692c941ac7aa6108af0a1b63d417", checked := Try.checked }
namespace Rows
def none {H : Type} : Left H := { results := [], args := [] }

/-- 'laws.FnInFirst': WHATEVER THE INPUT: true; the input reads as it did. -/
def fnInFirstSpec : ChangeSpec := { name := "fnInFirst", fn := fun _ => fun
  | [d] => { results := [.lit (.bool true)], args := [d] }
  | _ => none }
def fnInFirstRow : OpenClaim := { program := "ytjadiccjhboidaa", sum := "996efb49c264be391368614c58cd3ea113ea692c941ac7aa6108af0a1b63d417", func := "loop.example/casket/laws.FnInFirst", spec := "fnInFirst", unfollowed := true, recurses := true, apart := false }
def FnInFirstSaid : Prop := fnInFirstRow.holds Try.pinned (OpenSpec.ofChange fnInFirstSpec)

/-- ITS FALSE NEIGHBOUR: 'it returns false'. Refute it at one input. -/
def fnInFirstWrong : ChangeSpec := { name := "fnInFirst", fn := fun _ => fun
  | [d] => { results := [.lit (.bool false)], args := [d] }
  | _ => none }
def FnInFirstWrongFalsely : Prop := fnInFirstRow.holds Try.pinned (OpenSpec.ofChange fnInFirstWrong)

/-- 'laws.FnInAll': WHATEVER THE INPUT: true; the input reads as it did. -/
def fnInAllSpec : ChangeSpec := { name := "fnInAll", fn := fun _ => fun
  | [d] => { results := [.lit (.bool true)], args := [d] }
  | _ => none }
def fnInAllRow : OpenClaim := { program := "ytjadiccjhboidaa", sum := "996efb49c264be391368614c58cd3ea113ea692c941ac7aa6108af0a1b63d417", func := "loop.example/casket/laws.FnInAll", spec := "fnInAll", unfollowed := true, recurses := true, apart := false }
def FnInAllSaid : Prop := fnInAllRow.holds Try.pinned (OpenSpec.ofChange fnInAllSpec)

/-- ITS FALSE NEIGHBOUR: 'it returns false'. Refute it at one input. -/
def fnInAllWrong : ChangeSpec := { name := "fnInAll", fn := fun _ => fun
  | [d] => { results := [.lit (.bool false)], args := [d] }
  | _ => none }
def FnInAllWrongFalsely : Prop := fnInAllRow.holds Try.pinned (OpenSpec.ofChange fnInAllWrong)

/-- 'laws.FnPageIn': WHATEVER THE INPUT: true; the input reads as it did. -/
def fnPageInSpec : ChangeSpec := { name := "fnPageIn", fn := fun _ => fun
  | [d] => { results := [.lit (.bool true)], args := [d] }
  | _ => none }
def fnPageInRow : OpenClaim := { program := "ytjadiccjhboidaa", sum := "996efb49c264be391368614c58cd3ea113ea692c941ac7aa6108af0a1b63d417", func := "loop.example/casket/laws.FnPageIn", spec := "fnPageIn", unfollowed := true, recurses := true, apart := false }
def FnPageInSaid : Prop := fnPageInRow.holds Try.pinned (OpenSpec.ofChange fnPageInSpec)

/-- ITS FALSE NEIGHBOUR: 'it returns false'. Refute it at one input. -/
def fnPageInWrong : ChangeSpec := { name := "fnPageIn", fn := fun _ => fun
  | [d] => { results := [.lit (.bool false)], args := [d] }
  | _ => none }
def FnPageInWrongFalsely : Prop := fnPageInRow.holds Try.pinned (OpenSpec.ofChange fnPageInWrong)

/-- 'laws.FnPageJoin': WHATEVER THE INPUT: true; the input reads as it did. -/
def fnPageJoinSpec : ChangeSpec := { name := "fnPageJoin", fn := fun _ => fun
  | [d] => { results := [.lit (.bool true)], args := [d] }
  | _ => none }
def fnPageJoinRow : OpenClaim := { program := "ytjadiccjhboidaa", sum := "996efb49c264be391368614c58cd3ea113ea692c941ac7aa6108af0a1b63d417", func := "loop.example/casket/laws.FnPageJoin", spec := "fnPageJoin", unfollowed := true, recurses := true, apart := false }
def FnPageJoinSaid : Prop := fnPageJoinRow.holds Try.pinned (OpenSpec.ofChange fnPageJoinSpec)

/-- ITS FALSE NEIGHBOUR: 'it returns false'. Refute it at one input. -/
def fnPageJoinWrong : ChangeSpec := { name := "fnPageJoin", fn := fun _ => fun
  | [d] => { results := [.lit (.bool false)], args := [d] }
  | _ => none }
def FnPageJoinWrongFalsely : Prop := fnPageJoinRow.holds Try.pinned (OpenSpec.ofChange fnPageJoinWrong)

/-- 'laws.FnInHand': WHATEVER THE INPUT: true; the input reads as it did. -/
def fnInHandSpec : ChangeSpec := { name := "fnInHand", fn := fun _ => fun
  | [d1, d2] => { results := [.lit (.bool true)], args := [d1, d2] }
  | _ => none }
def fnInHandRow : OpenClaim := { program := "ytjadiccjhboidaa", sum := "996efb49c264be391368614c58cd3ea113ea692c941ac7aa6108af0a1b63d417", func := "loop.example/casket/laws.FnInHand", spec := "fnInHand", unfollowed := true, recurses := true, apart := false }
def FnInHandSaid : Prop := fnInHandRow.holds Try.pinned (OpenSpec.ofChange fnInHandSpec)

/-- ITS FALSE NEIGHBOUR: 'it returns false'. Refute it at one input. -/
def fnInHandWrong : ChangeSpec := { name := "fnInHand", fn := fun _ => fun
  | [d1, d2] => { results := [.lit (.bool false)], args := [d1, d2] }
  | _ => none }
def FnInHandWrongFalsely : Prop := fnInHandRow.holds Try.pinned (OpenSpec.ofChange fnInHandWrong)

/-- 'laws.FnExactHostReadIn': WHATEVER THE INPUT: true; the input reads as it did. -/
def fnExactHostReadInSpec : ChangeSpec := { name := "fnExactHostReadIn", fn := fun _ => fun
  | [d1, d2, d3, d4] => { results := [.lit (.bool true)], args := [d1, d2, d3, d4] }
  | _ => none }
def fnExactHostReadInRow : OpenClaim := { program := "ytjadiccjhboidaa", sum := "996efb49c264be391368614c58cd3ea113ea692c941ac7aa6108af0a1b63d417", func := "loop.example/casket/laws.FnExactHostReadIn", spec := "fnExactHostReadIn", unfollowed := true, recurses := true, apart := false }
def FnExactHostReadInSaid : Prop := fnExactHostReadInRow.holds Try.pinned (OpenSpec.ofChange fnExactHostReadInSpec)

/-- ITS FALSE NEIGHBOUR: 'it returns false'. Refute it at one input. -/
def fnExactHostReadInWrong : ChangeSpec := { name := "fnExactHostReadIn", fn := fun _ => fun
  | [d1, d2, d3, d4] => { results := [.lit (.bool false)], args := [d1, d2, d3, d4] }
  | _ => none }
def FnExactHostReadInWrongFalsely : Prop := fnExactHostReadInRow.holds Try.pinned (OpenSpec.ofChange fnExactHostReadInWrong)

/-- 'laws.FnPageOrder': WHATEVER THE INPUT: true; the input reads as it did. -/
def fnPageOrderSpec : ChangeSpec := { name := "fnPageOrder", fn := fun _ => fun
  | [d1, d2] => { results := [.lit (.bool true)], args := [d1, d2] }
  | _ => none }
def fnPageOrderRow : OpenClaim := { program := "ytjadiccjhboidaa", sum := "996efb49c264be391368614c58cd3ea113ea692c941ac7aa6108af0a1b63d417", func := "loop.example/casket/laws.FnPageOrder", spec := "fnPageOrder", unfollowed := true, recurses := true, apart := false }
def FnPageOrderSaid : Prop := fnPageOrderRow.holds Try.pinned (OpenSpec.ofChange fnPageOrderSpec)

/-- ITS FALSE NEIGHBOUR: 'it returns false'. Refute it at one input. -/
def fnPageOrderWrong : ChangeSpec := { name := "fnPageOrder", fn := fun _ => fun
  | [d1, d2] => { results := [.lit (.bool false)], args := [d1, d2] }
  | _ => none }
def FnPageOrderWrongFalsely : Prop := fnPageOrderRow.holds Try.pinned (OpenSpec.ofChange fnPageOrderWrong)

/-- 'laws.FnInOut': WHATEVER THE INPUT: true; the input reads as it did. -/
def fnInOutSpec : ChangeSpec := { name := "fnInOut", fn := fun _ => fun
  | [d] => { results := [.lit (.bool true)], args := [d] }
  | _ => none }
def fnInOutRow : OpenClaim := { program := "ytjadiccjhboidaa", sum := "996efb49c264be391368614c58cd3ea113ea692c941ac7aa6108af0a1b63d417", func := "loop.example/casket/laws.FnInOut", spec := "fnInOut", unfollowed := true, recurses := true, apart := false }
def FnInOutSaid : Prop := fnInOutRow.holds Try.pinned (OpenSpec.ofChange fnInOutSpec)

/-- ITS FALSE NEIGHBOUR: 'it returns false'. Refute it at one input. -/
def fnInOutWrong : ChangeSpec := { name := "fnInOut", fn := fun _ => fun
  | [d] => { results := [.lit (.bool false)], args := [d] }
  | _ => none }
def FnInOutWrongFalsely : Prop := fnInOutRow.holds Try.pinned (OpenSpec.ofChange fnInOutWrong)

/-- 'laws.FnShadeAgain': WHATEVER THE INPUT: true; the input reads as it did. -/
def fnShadeAgainSpec : ChangeSpec := { name := "fnShadeAgain", fn := fun _ => fun
  | [d] => { results := [.lit (.bool true)], args := [d] }
  | _ => none }
def fnShadeAgainRow : OpenClaim := { program := "ytjadiccjhboidaa", sum := "996efb49c264be391368614c58cd3ea113ea692c941ac7aa6108af0a1b63d417", func := "loop.example/casket/laws.FnShadeAgain", spec := "fnShadeAgain", unfollowed := true, recurses := true, apart := false }
def FnShadeAgainSaid : Prop := fnShadeAgainRow.holds Try.pinned (OpenSpec.ofChange fnShadeAgainSpec)

/-- ITS FALSE NEIGHBOUR: 'it returns false'. Refute it at one input. -/
def fnShadeAgainWrong : ChangeSpec := { name := "fnShadeAgain", fn := fun _ => fun
  | [d] => { results := [.lit (.bool false)], args := [d] }
  | _ => none }
def FnShadeAgainWrongFalsely : Prop := fnShadeAgainRow.holds Try.pinned (OpenSpec.ofChange fnShadeAgainWrong)

/-- 'laws.FnWriteFlat': WHATEVER THE INPUT: true; the input reads as it did. -/
def fnWriteFlatSpec : ChangeSpec := { name := "fnWriteFlat", fn := fun _ => fun
  | [d] => { results := [.lit (.bool true)], args := [d] }
  | _ => none }
def fnWriteFlatRow : OpenClaim := { program := "ytjadiccjhboidaa", sum := "996efb49c264be391368614c58cd3ea113ea692c941ac7aa6108af0a1b63d417", func := "loop.example/casket/laws.FnWriteFlat", spec := "fnWriteFlat", unfollowed := true, recurses := true, apart := false }
def FnWriteFlatSaid : Prop := fnWriteFlatRow.holds Try.pinned (OpenSpec.ofChange fnWriteFlatSpec)

/-- ITS FALSE NEIGHBOUR: 'it returns false'. Refute it at one input. -/
def fnWriteFlatWrong : ChangeSpec := { name := "fnWriteFlat", fn := fun _ => fun
  | [d] => { results := [.lit (.bool false)], args := [d] }
  | _ => none }
def FnWriteFlatWrongFalsely : Prop := fnWriteFlatRow.holds Try.pinned (OpenSpec.ofChange fnWriteFlatWrong)

/-- 'laws.FnShadeOwn': WHATEVER THE INPUT: true; the input reads as it did. -/
def fnShadeOwnSpec : ChangeSpec := { name := "fnShadeOwn", fn := fun _ => fun
  | [d] => { results := [.lit (.bool true)], args := [d] }
  | _ => none }
def fnShadeOwnRow : OpenClaim := { program := "ytjadiccjhboidaa", sum := "996efb49c264be391368614c58cd3ea113ea692c941ac7aa6108af0a1b63d417", func := "loop.example/casket/laws.FnShadeOwn", spec := "fnShadeOwn", unfollowed := true, recurses := true, apart := false }
def FnShadeOwnSaid : Prop := fnShadeOwnRow.holds Try.pinned (OpenSpec.ofChange fnShadeOwnSpec)

/-- ITS FALSE NEIGHBOUR: 'it returns false'. Refute it at one input. -/
def fnShadeOwnWrong : ChangeSpec := { name := "fnShadeOwn", fn := fun _ => fun
  | [d] => { results := [.lit (.bool false)], args := [d] }
  | _ => none }
def FnShadeOwnWrongFalsely : Prop := fnShadeOwnRow.holds Try.pinned (OpenSpec.ofChange fnShadeOwnWrong)

/-- 'laws.FnPageOwn': WHATEVER THE INPUT: true; the input reads as it did. -/
def fnPageOwnSpec : ChangeSpec := { name := "fnPageOwn", fn := fun _ => fun
  | [d] => { results := [.lit (.bool true)], args := [d] }
  | _ => none }
def fnPageOwnRow : OpenClaim := { program := "ytjadiccjhboidaa", sum := "996efb49c264be391368614c58cd3ea113ea692c941ac7aa6108af0a1b63d417", func := "loop.example/casket/laws.FnPageOwn", spec := "fnPageOwn", unfollowed := true, recurses := true, apart := false }
def FnPageOwnSaid : Prop := fnPageOwnRow.holds Try.pinned (OpenSpec.ofChange fnPageOwnSpec)

/-- ITS FALSE NEIGHBOUR: 'it returns false'. Refute it at one input. -/
def fnPageOwnWrong : ChangeSpec := { name := "fnPageOwn", fn := fun _ => fun
  | [d] => { results := [.lit (.bool false)], args := [d] }
  | _ => none }
def FnPageOwnWrongFalsely : Prop := fnPageOwnRow.holds Try.pinned (OpenSpec.ofChange fnPageOwnWrong)

/-- 'laws.FnExactHostWriteIn': WHATEVER THE INPUT: true; the input reads as it did. -/
def fnExactHostWriteInSpec : ChangeSpec := { name := "fnExactHostWriteIn", fn := fun _ => fun
  | [d1, d2, d3, d4, d5] => { results := [.lit (.bool true)], args := [d1, d2, d3, d4, d5] }
  | _ => none }
def fnExactHostWriteInRow : OpenClaim := { program := "ytjadiccjhboidaa", sum := "996efb49c264be391368614c58cd3ea113ea692c941ac7aa6108af0a1b63d417", func := "loop.example/casket/laws.FnExactHostWriteIn", spec := "fnExactHostWriteIn", unfollowed := true, recurses := true, apart := false }
def FnExactHostWriteInSaid : Prop := fnExactHostWriteInRow.holds Try.pinned (OpenSpec.ofChange fnExactHostWriteInSpec)

/-- ITS FALSE NEIGHBOUR: 'it returns false'. Refute it at one input. -/
def fnExactHostWriteInWrong : ChangeSpec := { name := "fnExactHostWriteIn", fn := fun _ => fun
  | [d1, d2, d3, d4, d5] => { results := [.lit (.bool false)], args := [d1, d2, d3, d4, d5] }
  | _ => none }
def FnExactHostWriteInWrongFalsely : Prop := fnExactHostWriteInRow.holds Try.pinned (OpenSpec.ofChange fnExactHostWriteInWrong)

/-- 'laws.FnCarryPlay': WHATEVER THE INPUT: true; the input reads as it did. -/
def fnCarryPlaySpec : ChangeSpec := { name := "fnCarryPlay", fn := fun _ => fun
  | [d] => { results := [.lit (.bool true)], args := [d] }
  | _ => none }
def fnCarryPlayRow : OpenClaim := { program := "ytjadiccjhboidaa", sum := "996efb49c264be391368614c58cd3ea113ea692c941ac7aa6108af0a1b63d417", func := "loop.example/casket/laws.FnCarryPlay", spec := "fnCarryPlay", unfollowed := true, recurses := true, apart := false }
def FnCarryPlaySaid : Prop := fnCarryPlayRow.holds Try.pinned (OpenSpec.ofChange fnCarryPlaySpec)

/-- ITS FALSE NEIGHBOUR: 'it returns false'. Refute it at one input. -/
def fnCarryPlayWrong : ChangeSpec := { name := "fnCarryPlay", fn := fun _ => fun
  | [d] => { results := [.lit (.bool false)], args := [d] }
  | _ => none }
def FnCarryPlayWrongFalsely : Prop := fnCarryPlayRow.holds Try.pinned (OpenSpec.ofChange fnCarryPlayWrong)

/-- 'laws.FnShadeWalk': WHATEVER THE INPUT: true; the input reads as it did. -/
def fnShadeWalkSpec : ChangeSpec := { name := "fnShadeWalk", fn := fun _ => fun
  | [d] => { results := [.lit (.bool true)], args := [d] }
  | _ => none }
def fnShadeWalkRow : OpenClaim := { program := "ytjadiccjhboidaa", sum := "996efb49c264be391368614c58cd3ea113ea692c941ac7aa6108af0a1b63d417", func := "loop.example/casket/laws.FnShadeWalk", spec := "fnShadeWalk", unfollowed := true, recurses := true, apart := false }
def FnShadeWalkSaid : Prop := fnShadeWalkRow.holds Try.pinned (OpenSpec.ofChange fnShadeWalkSpec)

/-- ITS FALSE NEIGHBOUR: 'it returns false'. Refute it at one input. -/
def fnShadeWalkWrong : ChangeSpec := { name := "fnShadeWalk", fn := fun _ => fun
  | [d] => { results := [.lit (.bool false)], args := [d] }
  | _ => none }
def FnShadeWalkWrongFalsely : Prop := fnShadeWalkRow.holds Try.pinned (OpenSpec.ofChange fnShadeWalkWrong)

/-- 'laws.FnReadInWritten': WHATEVER THE INPUT: true; the input reads as it did. -/
def fnReadInWrittenSpec : ChangeSpec := { name := "fnReadInWritten", fn := fun _ => fun
  | [d1, d2] => { results := [.lit (.bool true)], args := [d1, d2] }
  | _ => none }
def fnReadInWrittenRow : OpenClaim := { program := "ytjadiccjhboidaa", sum := "996efb49c264be391368614c58cd3ea113ea692c941ac7aa6108af0a1b63d417", func := "loop.example/casket/laws.FnReadInWritten", spec := "fnReadInWritten", unfollowed := true, recurses := true, apart := false }
def FnReadInWrittenSaid : Prop := fnReadInWrittenRow.holds Try.pinned (OpenSpec.ofChange fnReadInWrittenSpec)

/-- ITS FALSE NEIGHBOUR: 'it returns false'. Refute it at one input. -/
def fnReadInWrittenWrong : ChangeSpec := { name := "fnReadInWritten", fn := fun _ => fun
  | [d1, d2] => { results := [.lit (.bool false)], args := [d1, d2] }
  | _ => none }
def FnReadInWrittenWrongFalsely : Prop := fnReadInWrittenRow.holds Try.pinned (OpenSpec.ofChange fnReadInWrittenWrong)

/-- 'laws.FnReadInFlat': WHATEVER THE INPUT: true; the input reads as it did. -/
def fnReadInFlatSpec : ChangeSpec := { name := "fnReadInFlat", fn := fun _ => fun
  | [d] => { results := [.lit (.bool true)], args := [d] }
  | _ => none }
def fnReadInFlatRow : OpenClaim := { program := "ytjadiccjhboidaa", sum := "996efb49c264be391368614c58cd3ea113ea692c941ac7aa6108af0a1b63d417", func := "loop.example/casket/laws.FnReadInFlat", spec := "fnReadInFlat", unfollowed := true, recurses := true, apart := false }
def FnReadInFlatSaid : Prop := fnReadInFlatRow.holds Try.pinned (OpenSpec.ofChange fnReadInFlatSpec)

/-- ITS FALSE NEIGHBOUR: 'it returns false'. Refute it at one input. -/
def fnReadInFlatWrong : ChangeSpec := { name := "fnReadInFlat", fn := fun _ => fun
  | [d] => { results := [.lit (.bool false)], args := [d] }
  | _ => none }
def FnReadInFlatWrongFalsely : Prop := fnReadInFlatRow.holds Try.pinned (OpenSpec.ofChange fnReadInFlatWrong)

/-- 'laws.FnJoinOwn': WHATEVER THE INPUT: true; the input reads as it did. -/
def fnJoinOwnSpec : ChangeSpec := { name := "fnJoinOwn", fn := fun _ => fun
  | [d1, d2] => { results := [.lit (.bool true)], args := [d1, d2] }
  | _ => none }
def fnJoinOwnRow : OpenClaim := { program := "ytjadiccjhboidaa", sum := "996efb49c264be391368614c58cd3ea113ea692c941ac7aa6108af0a1b63d417", func := "loop.example/casket/laws.FnJoinOwn", spec := "fnJoinOwn", unfollowed := true, recurses := true, apart := false }
def FnJoinOwnSaid : Prop := fnJoinOwnRow.holds Try.pinned (OpenSpec.ofChange fnJoinOwnSpec)

/-- ITS FALSE NEIGHBOUR: 'it returns false'. Refute it at one input. -/
def fnJoinOwnWrong : ChangeSpec := { name := "fnJoinOwn", fn := fun _ => fun
  | [d1, d2] => { results := [.lit (.bool false)], args := [d1, d2] }
  | _ => none }
def FnJoinOwnWrongFalsely : Prop := fnJoinOwnRow.holds Try.pinned (OpenSpec.ofChange fnJoinOwnWrong)

/-- 'laws.FnShadeWrite': WHATEVER THE INPUT: true; the input reads as it did. -/
def fnShadeWriteSpec : ChangeSpec := { name := "fnShadeWrite", fn := fun _ => fun
  | [d] => { results := [.lit (.bool true)], args := [d] }
  | _ => none }
def fnShadeWriteRow : OpenClaim := { program := "ytjadiccjhboidaa", sum := "996efb49c264be391368614c58cd3ea113ea692c941ac7aa6108af0a1b63d417", func := "loop.example/casket/laws.FnShadeWrite", spec := "fnShadeWrite", unfollowed := true, recurses := true, apart := false }
def FnShadeWriteSaid : Prop := fnShadeWriteRow.holds Try.pinned (OpenSpec.ofChange fnShadeWriteSpec)

/-- ITS FALSE NEIGHBOUR: 'it returns false'. Refute it at one input. -/
def fnShadeWriteWrong : ChangeSpec := { name := "fnShadeWrite", fn := fun _ => fun
  | [d] => { results := [.lit (.bool false)], args := [d] }
  | _ => none }
def FnShadeWriteWrongFalsely : Prop := fnShadeWriteRow.holds Try.pinned (OpenSpec.ofChange fnShadeWriteWrong)

/-- 'laws.FnWriteShared': WHATEVER THE INPUT: true; the input reads as it did. -/
def fnWriteSharedSpec : ChangeSpec := { name := "fnWriteShared", fn := fun _ => fun
  | [d] => { results := [.lit (.bool true)], args := [d] }
  | _ => none }
def fnWriteSharedRow : OpenClaim := { program := "ytjadiccjhboidaa", sum := "996efb49c264be391368614c58cd3ea113ea692c941ac7aa6108af0a1b63d417", func := "loop.example/casket/laws.FnWriteShared", spec := "fnWriteShared", unfollowed := true, recurses := true, apart := false }
def FnWriteSharedSaid : Prop := fnWriteSharedRow.holds Try.pinned (OpenSpec.ofChange fnWriteSharedSpec)

/-- ITS FALSE NEIGHBOUR: 'it returns false'. Refute it at one input. -/
def fnWriteSharedWrong : ChangeSpec := { name := "fnWriteShared", fn := fun _ => fun
  | [d] => { results := [.lit (.bool false)], args := [d] }
  | _ => none }
def FnWriteSharedWrongFalsely : Prop := fnWriteSharedRow.holds Try.pinned (OpenSpec.ofChange fnWriteSharedWrong)

/-- 'laws.FnFaultAgain': WHATEVER THE INPUT: true; the input reads as it did. -/
def fnFaultAgainSpec : ChangeSpec := { name := "fnFaultAgain", fn := fun _ => fun
  | [d] => { results := [.lit (.bool true)], args := [d] }
  | _ => none }
def fnFaultAgainRow : OpenClaim := { program := "ytjadiccjhboidaa", sum := "996efb49c264be391368614c58cd3ea113ea692c941ac7aa6108af0a1b63d417", func := "loop.example/casket/laws.FnFaultAgain", spec := "fnFaultAgain", unfollowed := true, recurses := true, apart := false }
def FnFaultAgainSaid : Prop := fnFaultAgainRow.holds Try.pinned (OpenSpec.ofChange fnFaultAgainSpec)

/-- ITS FALSE NEIGHBOUR: 'it returns false'. Refute it at one input. -/
def fnFaultAgainWrong : ChangeSpec := { name := "fnFaultAgain", fn := fun _ => fun
  | [d] => { results := [.lit (.bool false)], args := [d] }
  | _ => none }
def FnFaultAgainWrongFalsely : Prop := fnFaultAgainRow.holds Try.pinned (OpenSpec.ofChange fnFaultAgainWrong)

/- THE SECOND FORM. 'bulk': how many values and letters a reading holds, each counted each time it is reached (what is shared counts as often as it is met; a slice's spare places count too). A statement '..UptoSaid' is the law's where the arguments, and the package variables that the reading takes, are together of bulk at most 1048576: NARROWER than '..Said'. Prove '..Said' where nothing that the law and all that it calls make is longer than what came in: it says more and counts as full. Else prove '..UptoSaid'. A law counts once. -/
mutual
def uptoBulk {H : Type} : DataW H → Nat
  | .lit (.string bytes) => bytes.length + 1
  | .lit _ => 1
  | .nil => 1
  | .ptr d => uptoBulk d + 1
  | .slice elems spare => uptoBulkAll elems + uptoBulkAll spare + 1
  | .agg parts => uptoBulkAll parts + 1
  | .iface _ d => uptoBulk d + 1
  | .map entries => uptoBulkEntries entries + 1
  | .held _ => 1
def uptoBulkAll {H : Type} : List (DataW H) → Nat
  | [] => 0
  | d :: r => uptoBulk d + uptoBulkAll r
def uptoBulkEntries {H : Type} : List (Lit × DataW H) → Nat
  | [] => 0
  | x :: r => uptoBulkEntry x + uptoBulkEntries r
def uptoBulkEntry {H : Type} : Lit × DataW H → Nat
  | (.string bytes, d) => bytes.length + uptoBulk d + 1
  | (_, d) => uptoBulk d + 1
 end
def uptoSmall : (H : Type) → List (DataW H) → Bool := fun _ ds => decide (uptoBulkAll ds ≤ 1048576)
def OpenSpec.upto (s : _root_.Go.ChangeSpec) : _root_.Go.OpenSpec := { _root_.Go.OpenSpec.ofChange s with cond := some uptoSmall }

/-- 'laws.FnInFirst', WHERE WHAT IT READS IS OF BULK AT MOST 1048576: true; the input reads as it did. -/
def fnInFirstUptoRow : OpenClaim := { program := "ytjadiccjhboidaa", sum := "996efb49c264be391368614c58cd3ea113ea692c941ac7aa6108af0a1b63d417", func := "loop.example/casket/laws.FnInFirst", spec := "fnInFirst", unfollowed := true, recurses := true, apart := false, narrowed := true }
def FnInFirstUptoSaid : Prop := fnInFirstUptoRow.holds Try.pinned (OpenSpec.upto fnInFirstSpec)

/-- 'laws.FnInAll', WHERE WHAT IT READS IS OF BULK AT MOST 1048576: true; the input reads as it did. -/
def fnInAllUptoRow : OpenClaim := { program := "ytjadiccjhboidaa", sum := "996efb49c264be391368614c58cd3ea113ea692c941ac7aa6108af0a1b63d417", func := "loop.example/casket/laws.FnInAll", spec := "fnInAll", unfollowed := true, recurses := true, apart := false, narrowed := true }
def FnInAllUptoSaid : Prop := fnInAllUptoRow.holds Try.pinned (OpenSpec.upto fnInAllSpec)

/-- 'laws.FnPageIn', WHERE WHAT IT READS IS OF BULK AT MOST 1048576: true; the input reads as it did. -/
def fnPageInUptoRow : OpenClaim := { program := "ytjadiccjhboidaa", sum := "996efb49c264be391368614c58cd3ea113ea692c941ac7aa6108af0a1b63d417", func := "loop.example/casket/laws.FnPageIn", spec := "fnPageIn", unfollowed := true, recurses := true, apart := false, narrowed := true }
def FnPageInUptoSaid : Prop := fnPageInUptoRow.holds Try.pinned (OpenSpec.upto fnPageInSpec)

/-- 'laws.FnPageJoin', WHERE WHAT IT READS IS OF BULK AT MOST 1048576: true; the input reads as it did. -/
def fnPageJoinUptoRow : OpenClaim := { program := "ytjadiccjhboidaa", sum := "996efb49c264be391368614c58cd3ea113ea692c941ac7aa6108af0a1b63d417", func := "loop.example/casket/laws.FnPageJoin", spec := "fnPageJoin", unfollowed := true, recurses := true, apart := false, narrowed := true }
def FnPageJoinUptoSaid : Prop := fnPageJoinUptoRow.holds Try.pinned (OpenSpec.upto fnPageJoinSpec)

/-- 'laws.FnInHand', WHERE WHAT IT READS IS OF BULK AT MOST 1048576: true; the input reads as it did. -/
def fnInHandUptoRow : OpenClaim := { program := "ytjadiccjhboidaa", sum := "996efb49c264be391368614c58cd3ea113ea692c941ac7aa6108af0a1b63d417", func := "loop.example/casket/laws.FnInHand", spec := "fnInHand", unfollowed := true, recurses := true, apart := false, narrowed := true }
def FnInHandUptoSaid : Prop := fnInHandUptoRow.holds Try.pinned (OpenSpec.upto fnInHandSpec)

/-- 'laws.FnExactHostReadIn', WHERE WHAT IT READS IS OF BULK AT MOST 1048576: true; the input reads as it did. -/
def fnExactHostReadInUptoRow : OpenClaim := { program := "ytjadiccjhboidaa", sum := "996efb49c264be391368614c58cd3ea113ea692c941ac7aa6108af0a1b63d417", func := "loop.example/casket/laws.FnExactHostReadIn", spec := "fnExactHostReadIn", unfollowed := true, recurses := true, apart := false, narrowed := true }
def FnExactHostReadInUptoSaid : Prop := fnExactHostReadInUptoRow.holds Try.pinned (OpenSpec.upto fnExactHostReadInSpec)

/-- 'laws.FnPageOrder', WHERE WHAT IT READS IS OF BULK AT MOST 1048576: true; the input reads as it did. -/
def fnPageOrderUptoRow : OpenClaim := { program := "ytjadiccjhboidaa", sum := "996efb49c264be391368614c58cd3ea113ea692c941ac7aa6108af0a1b63d417", func := "loop.example/casket/laws.FnPageOrder", spec := "fnPageOrder", unfollowed := true, recurses := true, apart := false, narrowed := true }
def FnPageOrderUptoSaid : Prop := fnPageOrderUptoRow.holds Try.pinned (OpenSpec.upto fnPageOrderSpec)

/-- 'laws.FnInOut', WHERE WHAT IT READS IS OF BULK AT MOST 1048576: true; the input reads as it did. -/
def fnInOutUptoRow : OpenClaim := { program := "ytjadiccjhboidaa", sum := "996efb49c264be391368614c58cd3ea113ea692c941ac7aa6108af0a1b63d417", func := "loop.example/casket/laws.FnInOut", spec := "fnInOut", unfollowed := true, recurses := true, apart := false, narrowed := true }
def FnInOutUptoSaid : Prop := fnInOutUptoRow.holds Try.pinned (OpenSpec.upto fnInOutSpec)

/-- 'laws.FnShadeAgain', WHERE WHAT IT READS IS OF BULK AT MOST 1048576: true; the input reads as it did. -/
def fnShadeAgainUptoRow : OpenClaim := { program := "ytjadiccjhboidaa", sum := "996efb49c264be391368614c58cd3ea113ea692c941ac7aa6108af0a1b63d417", func := "loop.example/casket/laws.FnShadeAgain", spec := "fnShadeAgain", unfollowed := true, recurses := true, apart := false, narrowed := true }
def FnShadeAgainUptoSaid : Prop := fnShadeAgainUptoRow.holds Try.pinned (OpenSpec.upto fnShadeAgainSpec)

/-- 'laws.FnWriteFlat', WHERE WHAT IT READS IS OF BULK AT MOST 1048576: true; the input reads as it did. -/
def fnWriteFlatUptoRow : OpenClaim := { program := "ytjadiccjhboidaa", sum := "996efb49c264be391368614c58cd3ea113ea692c941ac7aa6108af0a1b63d417", func := "loop.example/casket/laws.FnWriteFlat", spec := "fnWriteFlat", unfollowed := true, recurses := true, apart := false, narrowed := true }
def FnWriteFlatUptoSaid : Prop := fnWriteFlatUptoRow.holds Try.pinned (OpenSpec.upto fnWriteFlatSpec)

/-- 'laws.FnShadeOwn', WHERE WHAT IT READS IS OF BULK AT MOST 1048576: true; the input reads as it did. -/
def fnShadeOwnUptoRow : OpenClaim := { program := "ytjadiccjhboidaa", sum := "996efb49c264be391368614c58cd3ea113ea692c941ac7aa6108af0a1b63d417", func := "loop.example/casket/laws.FnShadeOwn", spec := "fnShadeOwn", unfollowed := true, recurses := true, apart := false, narrowed := true }
def FnShadeOwnUptoSaid : Prop := fnShadeOwnUptoRow.holds Try.pinned (OpenSpec.upto fnShadeOwnSpec)

/-- 'laws.FnPageOwn', WHERE WHAT IT READS IS OF BULK AT MOST 1048576: true; the input reads as it did. -/
def fnPageOwnUptoRow : OpenClaim := { program := "ytjadiccjhboidaa", sum := "996efb49c264be391368614c58cd3ea113ea692c941ac7aa6108af0a1b63d417", func := "loop.example/casket/laws.FnPageOwn", spec := "fnPageOwn", unfollowed := true, recurses := true, apart := false, narrowed := true }
def FnPageOwnUptoSaid : Prop := fnPageOwnUptoRow.holds Try.pinned (OpenSpec.upto fnPageOwnSpec)

/-- 'laws.FnExactHostWriteIn', WHERE WHAT IT READS IS OF BULK AT MOST 1048576: true; the input reads as it did. -/
def fnExactHostWriteInUptoRow : OpenClaim := { program := "ytjadiccjhboidaa", sum := "996efb49c264be391368614c58cd3ea113ea692c941ac7aa6108af0a1b63d417", func := "loop.example/casket/laws.FnExactHostWriteIn", spec := "fnExactHostWriteIn", unfollowed := true, recurses := true, apart := false, narrowed := true }
def FnExactHostWriteInUptoSaid : Prop := fnExactHostWriteInUptoRow.holds Try.pinned (OpenSpec.upto fnExactHostWriteInSpec)

/-- 'laws.FnCarryPlay', WHERE WHAT IT READS IS OF BULK AT MOST 1048576: true; the input reads as it did. -/
def fnCarryPlayUptoRow : OpenClaim := { program := "ytjadiccjhboidaa", sum := "996efb49c264be391368614c58cd3ea113ea692c941ac7aa6108af0a1b63d417", func := "loop.example/casket/laws.FnCarryPlay", spec := "fnCarryPlay", unfollowed := true, recurses := true, apart := false, narrowed := true }
def FnCarryPlayUptoSaid : Prop := fnCarryPlayUptoRow.holds Try.pinned (OpenSpec.upto fnCarryPlaySpec)

/-- 'laws.FnShadeWalk', WHERE WHAT IT READS IS OF BULK AT MOST 1048576: true; the input reads as it did. -/
def fnShadeWalkUptoRow : OpenClaim := { program := "ytjadiccjhboidaa", sum := "996efb49c264be391368614c58cd3ea113ea692c941ac7aa6108af0a1b63d417", func := "loop.example/casket/laws.FnShadeWalk", spec := "fnShadeWalk", unfollowed := true, recurses := true, apart := false, narrowed := true }
def FnShadeWalkUptoSaid : Prop := fnShadeWalkUptoRow.holds Try.pinned (OpenSpec.upto fnShadeWalkSpec)

/-- 'laws.FnReadInWritten', WHERE WHAT IT READS IS OF BULK AT MOST 1048576: true; the input reads as it did. -/
def fnReadInWrittenUptoRow : OpenClaim := { program := "ytjadiccjhboidaa", sum := "996efb49c264be391368614c58cd3ea113ea692c941ac7aa6108af0a1b63d417", func := "loop.example/casket/laws.FnReadInWritten", spec := "fnReadInWritten", unfollowed := true, recurses := true, apart := false, narrowed := true }
def FnReadInWrittenUptoSaid : Prop := fnReadInWrittenUptoRow.holds Try.pinned (OpenSpec.upto fnReadInWrittenSpec)

/-- 'laws.FnReadInFlat', WHERE WHAT IT READS IS OF BULK AT MOST 1048576: true; the input reads as it did. -/
def fnReadInFlatUptoRow : OpenClaim := { program := "ytjadiccjhboidaa", sum := "996efb49c264be391368614c58cd3ea113ea692c941ac7aa6108af0a1b63d417", func := "loop.example/casket/laws.FnReadInFlat", spec := "fnReadInFlat", unfollowed := true, recurses := true, apart := false, narrowed := true }
def FnReadInFlatUptoSaid : Prop := fnReadInFlatUptoRow.holds Try.pinned (OpenSpec.upto fnReadInFlatSpec)

/-- 'laws.FnJoinOwn', WHERE WHAT IT READS IS OF BULK AT MOST 1048576: true; the input reads as it did. -/
def fnJoinOwnUptoRow : OpenClaim := { program := "ytjadiccjhboidaa", sum := "996efb49c264be391368614c58cd3ea113ea692c941ac7aa6108af0a1b63d417", func := "loop.example/casket/laws.FnJoinOwn", spec := "fnJoinOwn", unfollowed := true, recurses := true, apart := false, narrowed := true }
def FnJoinOwnUptoSaid : Prop := fnJoinOwnUptoRow.holds Try.pinned (OpenSpec.upto fnJoinOwnSpec)

/-- 'laws.FnShadeWrite', WHERE WHAT IT READS IS OF BULK AT MOST 1048576: true; the input reads as it did. -/
def fnShadeWriteUptoRow : OpenClaim := { program := "ytjadiccjhboidaa", sum := "996efb49c264be391368614c58cd3ea113ea692c941ac7aa6108af0a1b63d417", func := "loop.example/casket/laws.FnShadeWrite", spec := "fnShadeWrite", unfollowed := true, recurses := true, apart := false, narrowed := true }
def FnShadeWriteUptoSaid : Prop := fnShadeWriteUptoRow.holds Try.pinned (OpenSpec.upto fnShadeWriteSpec)

/-- 'laws.FnWriteShared', WHERE WHAT IT READS IS OF BULK AT MOST 1048576: true; the input reads as it did. -/
def fnWriteSharedUptoRow : OpenClaim := { program := "ytjadiccjhboidaa", sum := "996efb49c264be391368614c58cd3ea113ea692c941ac7aa6108af0a1b63d417", func := "loop.example/casket/laws.FnWriteShared", spec := "fnWriteShared", unfollowed := true, recurses := true, apart := false, narrowed := true }
def FnWriteSharedUptoSaid : Prop := fnWriteSharedUptoRow.holds Try.pinned (OpenSpec.upto fnWriteSharedSpec)

/-- 'laws.FnFaultAgain', WHERE WHAT IT READS IS OF BULK AT MOST 1048576: true; the input reads as it did. -/
def fnFaultAgainUptoRow : OpenClaim := { program := "ytjadiccjhboidaa", sum := "996efb49c264be391368614c58cd3ea113ea692c941ac7aa6108af0a1b63d417", func := "loop.example/casket/laws.FnFaultAgain", spec := "fnFaultAgain", unfollowed := true, recurses := true, apart := false, narrowed := true }
def FnFaultAgainUptoSaid : Prop := fnFaultAgainUptoRow.holds Try.pinned (OpenSpec.upto fnFaultAgainSpec)

end Rows
end Go.Proofs.Ytjadiccjhboidaa
