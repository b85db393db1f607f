/-
  No cell of these rows narrows 'for every input' (looked for: loops, veiled, ifaces, maps, wideKeys, modest, calm, conditions, laid).
  DERIVED. THE GIVEN ROWS OF THIS SEAT. 24 by the template 'for every input the law returns true; each argument reads behind the call as it read before'; 0 by the template 'total and deterministic' (their statements: YtknhdlmgceklgaaTotals.lean).
  GIVEN WITH THE SEED: the statements are not yours to turn. If you find one false, say at which input.
  Laid BY PROGRAM, IN A SANDBOX (cutbox-rows.mjs): the forced cells as the released guide's own fill.sh prints them over the translation 7a36dbe35b8c58b4… (all of the seat's roots in one cut). By AI agents, Wed Nov 11 2026. No macro, syntax, notation, axiom, sorry.
-/
import Derived.Test.YtknhdlmgceklgaaChecked
import GoSem.Claim
import GoSem.ClaimJoined
import GoSem.ClaimMapViews
import Derived.JoinedTies
import Derived.KernelRfl
namespace Go.Proofs.Ytknhdlmgceklgaa
/- THE CELL 'sum', in the pinned program and in every row, IS THE sha256 OF THE DUMP (.gsa) THAT YtknhdlmgceklgaaProg.lean LOADS. Nothing in Lean hashes anything: it is a label: what it is worth is what the hold of that sum in a sandbox is worth. -/
noncomputable def Try.pinned : Pinned := { name := "ytknhdlmgceklgaa", sum := "7a36dbe35b8c58b46c314fd45c79833f8b0345d6c7b908e3d9fb88afb57ac894", checked := Try.checked }
namespace Rows
def none {H : Type} : Left H := { results := [], args := [] }

/-- 'laws.FnHostFree': WHATEVER THE INPUT: true; the input reads as it did. -/
def fnHostFreeSpec : ChangeSpec := { name := "fnHostFree", fn := fun _ => fun
  | [d] => { results := [.lit (.bool true)], args := [d] }
  | _ => none }
def fnHostFreeRow : OpenClaim := { program := "ytknhdlmgceklgaa", sum := "7a36dbe35b8c58b46c314fd45c79833f8b0345d6c7b908e3d9fb88afb57ac894", func := "loop.example/casket/laws.FnHostFree", spec := "fnHostFree", unfollowed := true, recurses := true, apart := false }
def FnHostFreeSaid : Prop := fnHostFreeRow.holds Try.pinned (OpenSpec.ofChange fnHostFreeSpec)

/-- ITS FALSE NEIGHBOUR: 'it returns false'. Refute it at one input. -/
def fnHostFreeWrong : ChangeSpec := { name := "fnHostFree", fn := fun _ => fun
  | [d] => { results := [.lit (.bool false)], args := [d] }
  | _ => none }
def FnHostFreeWrongFalsely : Prop := fnHostFreeRow.holds Try.pinned (OpenSpec.ofChange fnHostFreeWrong)

/-- 'laws.FnDeniedAgain': WHATEVER THE INPUT: true; the input reads as it did. -/
def fnDeniedAgainSpec : ChangeSpec := { name := "fnDeniedAgain", fn := fun _ => fun
  | [d] => { results := [.lit (.bool true)], args := [d] }
  | _ => none }
def fnDeniedAgainRow : OpenClaim := { program := "ytknhdlmgceklgaa", sum := "7a36dbe35b8c58b46c314fd45c79833f8b0345d6c7b908e3d9fb88afb57ac894", func := "loop.example/casket/laws.FnDeniedAgain", spec := "fnDeniedAgain", unfollowed := true, recurses := true, apart := false }
def FnDeniedAgainSaid : Prop := fnDeniedAgainRow.holds Try.pinned (OpenSpec.ofChange fnDeniedAgainSpec)

/-- ITS FALSE NEIGHBOUR: 'it returns false'. Refute it at one input. -/
def fnDeniedAgainWrong : ChangeSpec := { name := "fnDeniedAgain", fn := fun _ => fun
  | [d] => { results := [.lit (.bool false)], args := [d] }
  | _ => none }
def FnDeniedAgainWrongFalsely : Prop := fnDeniedAgainRow.holds Try.pinned (OpenSpec.ofChange fnDeniedAgainWrong)

/-- 'laws.FnHostUsed': WHATEVER THE INPUT: true; the input reads as it did. -/
def fnHostUsedSpec : ChangeSpec := { name := "fnHostUsed", fn := fun _ => fun
  | [d] => { results := [.lit (.bool true)], args := [d] }
  | _ => none }
def fnHostUsedRow : OpenClaim := { program := "ytknhdlmgceklgaa", sum := "7a36dbe35b8c58b46c314fd45c79833f8b0345d6c7b908e3d9fb88afb57ac894", func := "loop.example/casket/laws.FnHostUsed", spec := "fnHostUsed", unfollowed := true, recurses := true, apart := false }
def FnHostUsedSaid : Prop := fnHostUsedRow.holds Try.pinned (OpenSpec.ofChange fnHostUsedSpec)

/-- ITS FALSE NEIGHBOUR: 'it returns false'. Refute it at one input. -/
def fnHostUsedWrong : ChangeSpec := { name := "fnHostUsed", fn := fun _ => fun
  | [d] => { results := [.lit (.bool false)], args := [d] }
  | _ => none }
def FnHostUsedWrongFalsely : Prop := fnHostUsedRow.holds Try.pinned (OpenSpec.ofChange fnHostUsedWrong)

/-- 'laws.FnExactPageOut': WHATEVER THE INPUT: true; the input reads as it did. -/
def fnExactPageOutSpec : ChangeSpec := { name := "fnExactPageOut", fn := fun _ => fun
  | [d1, d2, d3] => { results := [.lit (.bool true)], args := [d1, d2, d3] }
  | _ => none }
def fnExactPageOutRow : OpenClaim := { program := "ytknhdlmgceklgaa", sum := "7a36dbe35b8c58b46c314fd45c79833f8b0345d6c7b908e3d9fb88afb57ac894", func := "loop.example/casket/laws.FnExactPageOut", spec := "fnExactPageOut", unfollowed := true, recurses := true, apart := false }
def FnExactPageOutSaid : Prop := fnExactPageOutRow.holds Try.pinned (OpenSpec.ofChange fnExactPageOutSpec)

/-- ITS FALSE NEIGHBOUR: 'it returns false'. Refute it at one input. -/
def fnExactPageOutWrong : ChangeSpec := { name := "fnExactPageOut", fn := fun _ => fun
  | [d1, d2, d3] => { results := [.lit (.bool false)], args := [d1, d2, d3] }
  | _ => none }
def FnExactPageOutWrongFalsely : Prop := fnExactPageOutRow.holds Try.pinned (OpenSpec.ofChange fnExactPageOutWrong)

/-- 'laws.FnExactHostCarry': WHATEVER THE INPUT: true; the input reads as it did. -/
def fnExactHostCarrySpec : ChangeSpec := { name := "fnExactHostCarry", fn := fun _ => fun
  | [d] => { results := [.lit (.bool true)], args := [d] }
  | _ => none }
def fnExactHostCarryRow : OpenClaim := { program := "ytknhdlmgceklgaa", sum := "7a36dbe35b8c58b46c314fd45c79833f8b0345d6c7b908e3d9fb88afb57ac894", func := "loop.example/casket/laws.FnExactHostCarry", spec := "fnExactHostCarry", unfollowed := true, recurses := true, apart := false }
def FnExactHostCarrySaid : Prop := fnExactHostCarryRow.holds Try.pinned (OpenSpec.ofChange fnExactHostCarrySpec)

/-- ITS FALSE NEIGHBOUR: 'it returns false'. Refute it at one input. -/
def fnExactHostCarryWrong : ChangeSpec := { name := "fnExactHostCarry", fn := fun _ => fun
  | [d] => { results := [.lit (.bool false)], args := [d] }
  | _ => none }
def FnExactHostCarryWrongFalsely : Prop := fnExactHostCarryRow.holds Try.pinned (OpenSpec.ofChange fnExactHostCarryWrong)

/-- 'laws.FnHostOut': WHATEVER THE INPUT: true; the input reads as it did. -/
def fnHostOutSpec : ChangeSpec := { name := "fnHostOut", fn := fun _ => fun
  | [d] => { results := [.lit (.bool true)], args := [d] }
  | _ => none }
def fnHostOutRow : OpenClaim := { program := "ytknhdlmgceklgaa", sum := "7a36dbe35b8c58b46c314fd45c79833f8b0345d6c7b908e3d9fb88afb57ac894", func := "loop.example/casket/laws.FnHostOut", spec := "fnHostOut", unfollowed := true, recurses := true, apart := false }
def FnHostOutSaid : Prop := fnHostOutRow.holds Try.pinned (OpenSpec.ofChange fnHostOutSpec)

/-- ITS FALSE NEIGHBOUR: 'it returns false'. Refute it at one input. -/
def fnHostOutWrong : ChangeSpec := { name := "fnHostOut", fn := fun _ => fun
  | [d] => { results := [.lit (.bool false)], args := [d] }
  | _ => none }
def FnHostOutWrongFalsely : Prop := fnHostOutRow.holds Try.pinned (OpenSpec.ofChange fnHostOutWrong)

/-- 'laws.FnHostSee': WHATEVER THE INPUT: true; the input reads as it did. -/
def fnHostSeeSpec : ChangeSpec := { name := "fnHostSee", fn := fun _ => fun
  | [d] => { results := [.lit (.bool true)], args := [d] }
  | _ => none }
def fnHostSeeRow : OpenClaim := { program := "ytknhdlmgceklgaa", sum := "7a36dbe35b8c58b46c314fd45c79833f8b0345d6c7b908e3d9fb88afb57ac894", func := "loop.example/casket/laws.FnHostSee", spec := "fnHostSee", unfollowed := true, recurses := true, apart := false }
def FnHostSeeSaid : Prop := fnHostSeeRow.holds Try.pinned (OpenSpec.ofChange fnHostSeeSpec)

/-- ITS FALSE NEIGHBOUR: 'it returns false'. Refute it at one input. -/
def fnHostSeeWrong : ChangeSpec := { name := "fnHostSee", fn := fun _ => fun
  | [d] => { results := [.lit (.bool false)], args := [d] }
  | _ => none }
def FnHostSeeWrongFalsely : Prop := fnHostSeeRow.holds Try.pinned (OpenSpec.ofChange fnHostSeeWrong)

/-- 'laws.FnExactPageMove': WHATEVER THE INPUT: true; the input reads as it did. -/
def fnExactPageMoveSpec : ChangeSpec := { name := "fnExactPageMove", fn := fun _ => fun
  | [d1, d2] => { results := [.lit (.bool true)], args := [d1, d2] }
  | _ => none }
def fnExactPageMoveRow : OpenClaim := { program := "ytknhdlmgceklgaa", sum := "7a36dbe35b8c58b46c314fd45c79833f8b0345d6c7b908e3d9fb88afb57ac894", func := "loop.example/casket/laws.FnExactPageMove", spec := "fnExactPageMove", unfollowed := true, recurses := true, apart := false }
def FnExactPageMoveSaid : Prop := fnExactPageMoveRow.holds Try.pinned (OpenSpec.ofChange fnExactPageMoveSpec)

/-- ITS FALSE NEIGHBOUR: 'it returns false'. Refute it at one input. -/
def fnExactPageMoveWrong : ChangeSpec := { name := "fnExactPageMove", fn := fun _ => fun
  | [d1, d2] => { results := [.lit (.bool false)], args := [d1, d2] }
  | _ => none }
def FnExactPageMoveWrongFalsely : Prop := fnExactPageMoveRow.holds Try.pinned (OpenSpec.ofChange fnExactPageMoveWrong)

/-- 'laws.FnExactPageJoin': WHATEVER THE INPUT: true; the input reads as it did. -/
def fnExactPageJoinSpec : ChangeSpec := { name := "fnExactPageJoin", fn := fun _ => fun
  | [d] => { results := [.lit (.bool true)], args := [d] }
  | _ => none }
def fnExactPageJoinRow : OpenClaim := { program := "ytknhdlmgceklgaa", sum := "7a36dbe35b8c58b46c314fd45c79833f8b0345d6c7b908e3d9fb88afb57ac894", func := "loop.example/casket/laws.FnExactPageJoin", spec := "fnExactPageJoin", unfollowed := true, recurses := true, apart := false }
def FnExactPageJoinSaid : Prop := fnExactPageJoinRow.holds Try.pinned (OpenSpec.ofChange fnExactPageJoinSpec)

/-- ITS FALSE NEIGHBOUR: 'it returns false'. Refute it at one input. -/
def fnExactPageJoinWrong : ChangeSpec := { name := "fnExactPageJoin", fn := fun _ => fun
  | [d] => { results := [.lit (.bool false)], args := [d] }
  | _ => none }
def FnExactPageJoinWrongFalsely : Prop := fnExactPageJoinRow.holds Try.pinned (OpenSpec.ofChange fnExactPageJoinWrong)

/-- 'laws.FnWriteInFlat': WHATEVER THE INPUT: true; the input reads as it did. -/
def fnWriteInFlatSpec : ChangeSpec := { name := "fnWriteInFlat", fn := fun _ => fun
  | [d] => { results := [.lit (.bool true)], args := [d] }
  | _ => none }
def fnWriteInFlatRow : OpenClaim := { program := "ytknhdlmgceklgaa", sum := "7a36dbe35b8c58b46c314fd45c79833f8b0345d6c7b908e3d9fb88afb57ac894", func := "loop.example/casket/laws.FnWriteInFlat", spec := "fnWriteInFlat", unfollowed := true, recurses := true, apart := false }
def FnWriteInFlatSaid : Prop := fnWriteInFlatRow.holds Try.pinned (OpenSpec.ofChange fnWriteInFlatSpec)

/-- ITS FALSE NEIGHBOUR: 'it returns false'. Refute it at one input. -/
def fnWriteInFlatWrong : ChangeSpec := { name := "fnWriteInFlat", fn := fun _ => fun
  | [d] => { results := [.lit (.bool false)], args := [d] }
  | _ => none }
def FnWriteInFlatWrongFalsely : Prop := fnWriteInFlatRow.holds Try.pinned (OpenSpec.ofChange fnWriteInFlatWrong)

/-- 'laws.FnForgetOne': WHATEVER THE INPUT: true; the input reads as it did. -/
def fnForgetOneSpec : ChangeSpec := { name := "fnForgetOne", fn := fun _ => fun
  | [d] => { results := [.lit (.bool true)], args := [d] }
  | _ => none }
def fnForgetOneRow : OpenClaim := { program := "ytknhdlmgceklgaa", sum := "7a36dbe35b8c58b46c314fd45c79833f8b0345d6c7b908e3d9fb88afb57ac894", func := "loop.example/casket/laws.FnForgetOne", spec := "fnForgetOne", unfollowed := true, recurses := true, apart := false }
def FnForgetOneSaid : Prop := fnForgetOneRow.holds Try.pinned (OpenSpec.ofChange fnForgetOneSpec)

/-- ITS FALSE NEIGHBOUR: 'it returns false'. Refute it at one input. -/
def fnForgetOneWrong : ChangeSpec := { name := "fnForgetOne", fn := fun _ => fun
  | [d] => { results := [.lit (.bool false)], args := [d] }
  | _ => none }
def FnForgetOneWrongFalsely : Prop := fnForgetOneRow.holds Try.pinned (OpenSpec.ofChange fnForgetOneWrong)

/-- 'laws.FnExactPageIn': WHATEVER THE INPUT: true; the input reads as it did. -/
def fnExactPageInSpec : ChangeSpec := { name := "fnExactPageIn", fn := fun _ => fun
  | [d1, d2, d3] => { results := [.lit (.bool true)], args := [d1, d2, d3] }
  | _ => none }
def fnExactPageInRow : OpenClaim := { program := "ytknhdlmgceklgaa", sum := "7a36dbe35b8c58b46c314fd45c79833f8b0345d6c7b908e3d9fb88afb57ac894", func := "loop.example/casket/laws.FnExactPageIn", spec := "fnExactPageIn", unfollowed := true, recurses := true, apart := false }
def FnExactPageInSaid : Prop := fnExactPageInRow.holds Try.pinned (OpenSpec.ofChange fnExactPageInSpec)

/-- ITS FALSE NEIGHBOUR: 'it returns false'. Refute it at one input. -/
def fnExactPageInWrong : ChangeSpec := { name := "fnExactPageIn", fn := fun _ => fun
  | [d1, d2, d3] => { results := [.lit (.bool false)], args := [d1, d2, d3] }
  | _ => none }
def FnExactPageInWrongFalsely : Prop := fnExactPageInRow.holds Try.pinned (OpenSpec.ofChange fnExactPageInWrong)

/-- 'laws.FnForget': WHATEVER THE INPUT: true; the input reads as it did. -/
def fnForgetSpec : ChangeSpec := { name := "fnForget", fn := fun _ => fun
  | [d] => { results := [.lit (.bool true)], args := [d] }
  | _ => none }
def fnForgetRow : OpenClaim := { program := "ytknhdlmgceklgaa", sum := "7a36dbe35b8c58b46c314fd45c79833f8b0345d6c7b908e3d9fb88afb57ac894", func := "loop.example/casket/laws.FnForget", spec := "fnForget", unfollowed := true, recurses := true, apart := false }
def FnForgetSaid : Prop := fnForgetRow.holds Try.pinned (OpenSpec.ofChange fnForgetSpec)

/-- ITS FALSE NEIGHBOUR: 'it returns false'. Refute it at one input. -/
def fnForgetWrong : ChangeSpec := { name := "fnForget", fn := fun _ => fun
  | [d] => { results := [.lit (.bool false)], args := [d] }
  | _ => none }
def FnForgetWrongFalsely : Prop := fnForgetRow.holds Try.pinned (OpenSpec.ofChange fnForgetWrong)

/-- 'laws.FnCarry': WHATEVER THE INPUT: true; the input reads as it did. -/
def fnCarrySpec : ChangeSpec := { name := "fnCarry", fn := fun _ => fun
  | [d] => { results := [.lit (.bool true)], args := [d] }
  | _ => none }
def fnCarryRow : OpenClaim := { program := "ytknhdlmgceklgaa", sum := "7a36dbe35b8c58b46c314fd45c79833f8b0345d6c7b908e3d9fb88afb57ac894", func := "loop.example/casket/laws.FnCarry", spec := "fnCarry", unfollowed := true, recurses := true, apart := false }
def FnCarrySaid : Prop := fnCarryRow.holds Try.pinned (OpenSpec.ofChange fnCarrySpec)

/-- ITS FALSE NEIGHBOUR: 'it returns false'. Refute it at one input. -/
def fnCarryWrong : ChangeSpec := { name := "fnCarry", fn := fun _ => fun
  | [d] => { results := [.lit (.bool false)], args := [d] }
  | _ => none }
def FnCarryWrongFalsely : Prop := fnCarryRow.holds Try.pinned (OpenSpec.ofChange fnCarryWrong)

/-- 'laws.FnMoveFirst': WHATEVER THE INPUT: true; the input reads as it did. -/
def fnMoveFirstSpec : ChangeSpec := { name := "fnMoveFirst", fn := fun _ => fun
  | [d] => { results := [.lit (.bool true)], args := [d] }
  | _ => none }
def fnMoveFirstRow : OpenClaim := { program := "ytknhdlmgceklgaa", sum := "7a36dbe35b8c58b46c314fd45c79833f8b0345d6c7b908e3d9fb88afb57ac894", func := "loop.example/casket/laws.FnMoveFirst", spec := "fnMoveFirst", unfollowed := true, recurses := true, apart := false }
def FnMoveFirstSaid : Prop := fnMoveFirstRow.holds Try.pinned (OpenSpec.ofChange fnMoveFirstSpec)

/-- ITS FALSE NEIGHBOUR: 'it returns false'. Refute it at one input. -/
def fnMoveFirstWrong : ChangeSpec := { name := "fnMoveFirst", fn := fun _ => fun
  | [d] => { results := [.lit (.bool false)], args := [d] }
  | _ => none }
def FnMoveFirstWrongFalsely : Prop := fnMoveFirstRow.holds Try.pinned (OpenSpec.ofChange fnMoveFirstWrong)

/-- 'laws.FnJoinLow': WHATEVER THE INPUT: true; the input reads as it did. -/
def fnJoinLowSpec : ChangeSpec := { name := "fnJoinLow", fn := fun _ => fun
  | [d] => { results := [.lit (.bool true)], args := [d] }
  | _ => none }
def fnJoinLowRow : OpenClaim := { program := "ytknhdlmgceklgaa", sum := "7a36dbe35b8c58b46c314fd45c79833f8b0345d6c7b908e3d9fb88afb57ac894", func := "loop.example/casket/laws.FnJoinLow", spec := "fnJoinLow", unfollowed := true, recurses := true, apart := false }
def FnJoinLowSaid : Prop := fnJoinLowRow.holds Try.pinned (OpenSpec.ofChange fnJoinLowSpec)

/-- ITS FALSE NEIGHBOUR: 'it returns false'. Refute it at one input. -/
def fnJoinLowWrong : ChangeSpec := { name := "fnJoinLow", fn := fun _ => fun
  | [d] => { results := [.lit (.bool false)], args := [d] }
  | _ => none }
def FnJoinLowWrongFalsely : Prop := fnJoinLowRow.holds Try.pinned (OpenSpec.ofChange fnJoinLowWrong)

/-- 'laws.FnOutKept': WHATEVER THE INPUT: true; the input reads as it did. -/
def fnOutKeptSpec : ChangeSpec := { name := "fnOutKept", fn := fun _ => fun
  | [d] => { results := [.lit (.bool true)], args := [d] }
  | _ => none }
def fnOutKeptRow : OpenClaim := { program := "ytknhdlmgceklgaa", sum := "7a36dbe35b8c58b46c314fd45c79833f8b0345d6c7b908e3d9fb88afb57ac894", func := "loop.example/casket/laws.FnOutKept", spec := "fnOutKept", unfollowed := true, recurses := true, apart := false }
def FnOutKeptSaid : Prop := fnOutKeptRow.holds Try.pinned (OpenSpec.ofChange fnOutKeptSpec)

/-- ITS FALSE NEIGHBOUR: 'it returns false'. Refute it at one input. -/
def fnOutKeptWrong : ChangeSpec := { name := "fnOutKept", fn := fun _ => fun
  | [d] => { results := [.lit (.bool false)], args := [d] }
  | _ => none }
def FnOutKeptWrongFalsely : Prop := fnOutKeptRow.holds Try.pinned (OpenSpec.ofChange fnOutKeptWrong)

/-- 'laws.FnExactPageOwn': WHATEVER THE INPUT: true; the input reads as it did. -/
def fnExactPageOwnSpec : ChangeSpec := { name := "fnExactPageOwn", fn := fun _ => fun
  | [d1, d2, d3] => { results := [.lit (.bool true)], args := [d1, d2, d3] }
  | _ => none }
def fnExactPageOwnRow : OpenClaim := { program := "ytknhdlmgceklgaa", sum := "7a36dbe35b8c58b46c314fd45c79833f8b0345d6c7b908e3d9fb88afb57ac894", func := "loop.example/casket/laws.FnExactPageOwn", spec := "fnExactPageOwn", unfollowed := true, recurses := true, apart := false }
def FnExactPageOwnSaid : Prop := fnExactPageOwnRow.holds Try.pinned (OpenSpec.ofChange fnExactPageOwnSpec)

/-- ITS FALSE NEIGHBOUR: 'it returns false'. Refute it at one input. -/
def fnExactPageOwnWrong : ChangeSpec := { name := "fnExactPageOwn", fn := fun _ => fun
  | [d1, d2, d3] => { results := [.lit (.bool false)], args := [d1, d2, d3] }
  | _ => none }
def FnExactPageOwnWrongFalsely : Prop := fnExactPageOwnRow.holds Try.pinned (OpenSpec.ofChange fnExactPageOwnWrong)

/-- 'laws.FnPageOut': WHATEVER THE INPUT: true; the input reads as it did. -/
def fnPageOutSpec : ChangeSpec := { name := "fnPageOut", fn := fun _ => fun
  | [d] => { results := [.lit (.bool true)], args := [d] }
  | _ => none }
def fnPageOutRow : OpenClaim := { program := "ytknhdlmgceklgaa", sum := "7a36dbe35b8c58b46c314fd45c79833f8b0345d6c7b908e3d9fb88afb57ac894", func := "loop.example/casket/laws.FnPageOut", spec := "fnPageOut", unfollowed := true, recurses := true, apart := false }
def FnPageOutSaid : Prop := fnPageOutRow.holds Try.pinned (OpenSpec.ofChange fnPageOutSpec)

/-- ITS FALSE NEIGHBOUR: 'it returns false'. Refute it at one input. -/
def fnPageOutWrong : ChangeSpec := { name := "fnPageOut", fn := fun _ => fun
  | [d] => { results := [.lit (.bool false)], args := [d] }
  | _ => none }
def FnPageOutWrongFalsely : Prop := fnPageOutRow.holds Try.pinned (OpenSpec.ofChange fnPageOutWrong)

/-- 'laws.FnExactHostWrite': WHATEVER THE INPUT: true; the input reads as it did. -/
def fnExactHostWriteSpec : ChangeSpec := { name := "fnExactHostWrite", fn := fun _ => fun
  | [d1, d2, d3, d4, d5] => { results := [.lit (.bool true)], args := [d1, d2, d3, d4, d5] }
  | _ => none }
def fnExactHostWriteRow : OpenClaim := { program := "ytknhdlmgceklgaa", sum := "7a36dbe35b8c58b46c314fd45c79833f8b0345d6c7b908e3d9fb88afb57ac894", func := "loop.example/casket/laws.FnExactHostWrite", spec := "fnExactHostWrite", unfollowed := true, recurses := true, apart := false }
def FnExactHostWriteSaid : Prop := fnExactHostWriteRow.holds Try.pinned (OpenSpec.ofChange fnExactHostWriteSpec)

/-- ITS FALSE NEIGHBOUR: 'it returns false'. Refute it at one input. -/
def fnExactHostWriteWrong : ChangeSpec := { name := "fnExactHostWrite", fn := fun _ => fun
  | [d1, d2, d3, d4, d5] => { results := [.lit (.bool false)], args := [d1, d2, d3, d4, d5] }
  | _ => none }
def FnExactHostWriteWrongFalsely : Prop := fnExactHostWriteRow.holds Try.pinned (OpenSpec.ofChange fnExactHostWriteWrong)

/-- 'laws.FnOutAll': WHATEVER THE INPUT: true; the input reads as it did. -/
def fnOutAllSpec : ChangeSpec := { name := "fnOutAll", fn := fun _ => fun
  | [d] => { results := [.lit (.bool true)], args := [d] }
  | _ => none }
def fnOutAllRow : OpenClaim := { program := "ytknhdlmgceklgaa", sum := "7a36dbe35b8c58b46c314fd45c79833f8b0345d6c7b908e3d9fb88afb57ac894", func := "loop.example/casket/laws.FnOutAll", spec := "fnOutAll", unfollowed := true, recurses := true, apart := false }
def FnOutAllSaid : Prop := fnOutAllRow.holds Try.pinned (OpenSpec.ofChange fnOutAllSpec)

/-- ITS FALSE NEIGHBOUR: 'it returns false'. Refute it at one input. -/
def fnOutAllWrong : ChangeSpec := { name := "fnOutAll", fn := fun _ => fun
  | [d] => { results := [.lit (.bool false)], args := [d] }
  | _ => none }
def FnOutAllWrongFalsely : Prop := fnOutAllRow.holds Try.pinned (OpenSpec.ofChange fnOutAllWrong)

/-- 'laws.FnMoveTwice': WHATEVER THE INPUT: true; the input reads as it did. -/
def fnMoveTwiceSpec : ChangeSpec := { name := "fnMoveTwice", fn := fun _ => fun
  | [d] => { results := [.lit (.bool true)], args := [d] }
  | _ => none }
def fnMoveTwiceRow : OpenClaim := { program := "ytknhdlmgceklgaa", sum := "7a36dbe35b8c58b46c314fd45c79833f8b0345d6c7b908e3d9fb88afb57ac894", func := "loop.example/casket/laws.FnMoveTwice", spec := "fnMoveTwice", unfollowed := true, recurses := true, apart := false }
def FnMoveTwiceSaid : Prop := fnMoveTwiceRow.holds Try.pinned (OpenSpec.ofChange fnMoveTwiceSpec)

/-- ITS FALSE NEIGHBOUR: 'it returns false'. Refute it at one input. -/
def fnMoveTwiceWrong : ChangeSpec := { name := "fnMoveTwice", fn := fun _ => fun
  | [d] => { results := [.lit (.bool false)], args := [d] }
  | _ => none }
def FnMoveTwiceWrongFalsely : Prop := fnMoveTwiceRow.holds Try.pinned (OpenSpec.ofChange fnMoveTwiceWrong)

/-- 'laws.FnPageMove': WHATEVER THE INPUT: true; the input reads as it did. -/
def fnPageMoveSpec : ChangeSpec := { name := "fnPageMove", fn := fun _ => fun
  | [d] => { results := [.lit (.bool true)], args := [d] }
  | _ => none }
def fnPageMoveRow : OpenClaim := { program := "ytknhdlmgceklgaa", sum := "7a36dbe35b8c58b46c314fd45c79833f8b0345d6c7b908e3d9fb88afb57ac894", func := "loop.example/casket/laws.FnPageMove", spec := "fnPageMove", unfollowed := true, recurses := true, apart := false }
def FnPageMoveSaid : Prop := fnPageMoveRow.holds Try.pinned (OpenSpec.ofChange fnPageMoveSpec)

/-- ITS FALSE NEIGHBOUR: 'it returns false'. Refute it at one input. -/
def fnPageMoveWrong : ChangeSpec := { name := "fnPageMove", fn := fun _ => fun
  | [d] => { results := [.lit (.bool false)], args := [d] }
  | _ => none }
def FnPageMoveWrongFalsely : Prop := fnPageMoveRow.holds Try.pinned (OpenSpec.ofChange fnPageMoveWrong)

/-- 'laws.FnPageJoinAll': WHATEVER THE INPUT: true; the input reads as it did. -/
def fnPageJoinAllSpec : ChangeSpec := { name := "fnPageJoinAll", fn := fun _ => fun
  | [d] => { results := [.lit (.bool true)], args := [d] }
  | _ => none }
def fnPageJoinAllRow : OpenClaim := { program := "ytknhdlmgceklgaa", sum := "7a36dbe35b8c58b46c314fd45c79833f8b0345d6c7b908e3d9fb88afb57ac894", func := "loop.example/casket/laws.FnPageJoinAll", spec := "fnPageJoinAll", unfollowed := true, recurses := true, apart := false }
def FnPageJoinAllSaid : Prop := fnPageJoinAllRow.holds Try.pinned (OpenSpec.ofChange fnPageJoinAllSpec)

/-- ITS FALSE NEIGHBOUR: 'it returns false'. Refute it at one input. -/
def fnPageJoinAllWrong : ChangeSpec := { name := "fnPageJoinAll", fn := fun _ => fun
  | [d] => { results := [.lit (.bool false)], args := [d] }
  | _ => none }
def FnPageJoinAllWrongFalsely : Prop := fnPageJoinAllRow.holds Try.pinned (OpenSpec.ofChange fnPageJoinAllWrong)

/- THE SECOND FORM. 'bulk': how many values and letters a reading holds, each counted each time it is reached (what is shared counts as often as it is met; a slice's spare places count too). A statement '..UptoSaid' is the law's where the arguments, and the package variables that the reading takes, are together of bulk at most 1048576: NARROWER than '..Said'. Prove '..Said' where nothing that the law and all that it calls make is longer than what came in: it says more and counts as full. Else prove '..UptoSaid'. A law counts once. -/
mutual
def uptoBulk {H : Type} : DataW H → Nat
  | .lit (.string bytes) => bytes.length + 1
  | .lit _ => 1
  | .nil => 1
  | .ptr d => uptoBulk d + 1
  | .slice elems spare => uptoBulkAll elems + uptoBulkAll spare + 1
  | .agg parts => uptoBulkAll parts + 1
  | .iface _ d => uptoBulk d + 1
  | .map entries => uptoBulkEntries entries + 1
  | .held _ => 1
def uptoBulkAll {H : Type} : List (DataW H) → Nat
  | [] => 0
  | d :: r => uptoBulk d + uptoBulkAll r
def uptoBulkEntries {H : Type} : List (Lit × DataW H) → Nat
  | [] => 0
  | x :: r => uptoBulkEntry x + uptoBulkEntries r
def uptoBulkEntry {H : Type} : Lit × DataW H → Nat
  | (.string bytes, d) => bytes.length + uptoBulk d + 1
  | (_, d) => uptoBulk d + 1
 end
def uptoSmall : (H : Type) → List (DataW H) → Bool := fun _ ds => decide (uptoBulkAll ds ≤ 1048576)
def OpenSpec.upto (s : _root_.Go.ChangeSpec) : _root_.Go.OpenSpec := { _root_.Go.OpenSpec.ofChange s with cond := some uptoSmall }

/-- 'laws.FnHostFree', WHERE WHAT IT READS IS OF BULK AT MOST 1048576: true; the input reads as it did. -/
def fnHostFreeUptoRow : OpenClaim := { program := "ytknhdlmgceklgaa", sum := "7a36dbe35b8c58b46c314fd45c79833f8b0345d6c7b908e3d9fb88afb57ac894", func := "loop.example/casket/laws.FnHostFree", spec := "fnHostFree", unfollowed := true, recurses := true, apart := false, narrowed := true }
def FnHostFreeUptoSaid : Prop := fnHostFreeUptoRow.holds Try.pinned (OpenSpec.upto fnHostFreeSpec)

/-- 'laws.FnDeniedAgain', WHERE WHAT IT READS IS OF BULK AT MOST 1048576: true; the input reads as it did. -/
def fnDeniedAgainUptoRow : OpenClaim := { program := "ytknhdlmgceklgaa", sum := "7a36dbe35b8c58b46c314fd45c79833f8b0345d6c7b908e3d9fb88afb57ac894", func := "loop.example/casket/laws.FnDeniedAgain", spec := "fnDeniedAgain", unfollowed := true, recurses := true, apart := false, narrowed := true }
def FnDeniedAgainUptoSaid : Prop := fnDeniedAgainUptoRow.holds Try.pinned (OpenSpec.upto fnDeniedAgainSpec)

/-- 'laws.FnHostUsed', WHERE WHAT IT READS IS OF BULK AT MOST 1048576: true; the input reads as it did. -/
def fnHostUsedUptoRow : OpenClaim := { program := "ytknhdlmgceklgaa", sum := "7a36dbe35b8c58b46c314fd45c79833f8b0345d6c7b908e3d9fb88afb57ac894", func := "loop.example/casket/laws.FnHostUsed", spec := "fnHostUsed", unfollowed := true, recurses := true, apart := false, narrowed := true }
def FnHostUsedUptoSaid : Prop := fnHostUsedUptoRow.holds Try.pinned (OpenSpec.upto fnHostUsedSpec)

/-- 'laws.FnExactPageOut', WHERE WHAT IT READS IS OF BULK AT MOST 1048576: true; the input reads as it did. -/
def fnExactPageOutUptoRow : OpenClaim := { program := "ytknhdlmgceklgaa", sum := "7a36dbe35b8c58b46c314fd45c79833f8b0345d6c7b908e3d9fb88afb57ac894", func := "loop.example/casket/laws.FnExactPageOut", spec := "fnExactPageOut", unfollowed := true, recurses := true, apart := false, narrowed := true }
def FnExactPageOutUptoSaid : Prop := fnExactPageOutUptoRow.holds Try.pinned (OpenSpec.upto fnExactPageOutSpec)

/-- 'laws.FnExactHostCarry', WHERE WHAT IT READS IS OF BULK AT MOST 1048576: true; the input reads as it did. -/
def fnExactHostCarryUptoRow : OpenClaim := { program := "ytknhdlmgceklgaa", sum := "7a36dbe35b8c58b46c314fd45c79833f8b0345d6c7b908e3d9fb88afb57ac894", func := "loop.example/casket/laws.FnExactHostCarry", spec := "fnExactHostCarry", unfollowed := true, recurses := true, apart := false, narrowed := true }
def FnExactHostCarryUptoSaid : Prop := fnExactHostCarryUptoRow.holds Try.pinned (OpenSpec.upto fnExactHostCarrySpec)

/-- 'laws.FnHostOut', WHERE WHAT IT READS IS OF BULK AT MOST 1048576: true; the input reads as it did. -/
def fnHostOutUptoRow : OpenClaim := { program := "ytknhdlmgceklgaa", sum := "7a36dbe35b8c58b46c314fd45c79833f8b0345d6c7b908e3d9fb88afb57ac894", func := "loop.example/casket/laws.FnHostOut", spec := "fnHostOut", unfollowed := true, recurses := true, apart := false, narrowed := true }
def FnHostOutUptoSaid : Prop := fnHostOutUptoRow.holds Try.pinned (OpenSpec.upto fnHostOutSpec)

/-- 'laws.FnHostSee', WHERE WHAT IT READS IS OF BULK AT MOST 1048576: true; the input reads as it did. -/
def fnHostSeeUptoRow : OpenClaim := { program := "ytknhdlmgceklgaa", sum := "7a36dbe35b8c58b46c314fd45c79833f8b0345d6c7b908e3d9fb88afb57ac894", func := "loop.example/casket/laws.FnHostSee", spec := "fnHostSee", unfollowed := true, recurses := true, apart := false, narrowed := true }
def FnHostSeeUptoSaid : Prop := fnHostSeeUptoRow.holds Try.pinned (OpenSpec.upto fnHostSeeSpec)

/-- 'laws.FnExactPageMove', WHERE WHAT IT READS IS OF BULK AT MOST 1048576: true; the input reads as it did. -/
def fnExactPageMoveUptoRow : OpenClaim := { program := "ytknhdlmgceklgaa", sum := "7a36dbe35b8c58b46c314fd45c79833f8b0345d6c7b908e3d9fb88afb57ac894", func := "loop.example/casket/laws.FnExactPageMove", spec := "fnExactPageMove", unfollowed := true, recurses := true, apart := false, narrowed := true }
def FnExactPageMoveUptoSaid : Prop := fnExactPageMoveUptoRow.holds Try.pinned (OpenSpec.upto fnExactPageMoveSpec)

/-- 'laws.FnExactPageJoin', WHERE WHAT IT READS IS OF BULK AT MOST 1048576: true; the input reads as it did. -/
def fnExactPageJoinUptoRow : OpenClaim := { program := "ytknhdlmgceklgaa", sum := "7a36dbe35b8c58b46c314fd45c79833f8b0345d6c7b908e3d9fb88afb57ac894", func := "loop.example/casket/laws.FnExactPageJoin", spec := "fnExactPageJoin", unfollowed := true, recurses := true, apart := false, narrowed := true }
def FnExactPageJoinUptoSaid : Prop := fnExactPageJoinUptoRow.holds Try.pinned (OpenSpec.upto fnExactPageJoinSpec)

/-- 'laws.FnWriteInFlat', WHERE WHAT IT READS IS OF BULK AT MOST 1048576: true; the input reads as it did. -/
def fnWriteInFlatUptoRow : OpenClaim := { program := "ytknhdlmgceklgaa", sum := "7a36dbe35b8c58b46c314fd45c79833f8b0345d6c7b908e3d9fb88afb57ac894", func := "loop.example/casket/laws.FnWriteInFlat", spec := "fnWriteInFlat", unfollowed := true, recurses := true, apart := false, narrowed := true }
def FnWriteInFlatUptoSaid : Prop := fnWriteInFlatUptoRow.holds Try.pinned (OpenSpec.upto fnWriteInFlatSpec)

/-- 'laws.FnForgetOne', WHERE WHAT IT READS IS OF BULK AT MOST 1048576: true; the input reads as it did. -/
def fnForgetOneUptoRow : OpenClaim := { program := "ytknhdlmgceklgaa", sum := "7a36dbe35b8c58b46c314fd45c79833f8b0345d6c7b908e3d9fb88afb57ac894", func := "loop.example/casket/laws.FnForgetOne", spec := "fnForgetOne", unfollowed := true, recurses := true, apart := false, narrowed := true }
def FnForgetOneUptoSaid : Prop := fnForgetOneUptoRow.holds Try.pinned (OpenSpec.upto fnForgetOneSpec)

/-- 'laws.FnExactPageIn', WHERE WHAT IT READS IS OF BULK AT MOST 1048576: true; the input reads as it did. -/
def fnExactPageInUptoRow : OpenClaim := { program := "ytknhdlmgceklgaa", sum := "7a36dbe35b8c58b46c314fd45c79833f8b0345d6c7b908e3d9fb88afb57ac894", func := "loop.example/casket/laws.FnExactPageIn", spec := "fnExactPageIn", unfollowed := true, recurses := true, apart := false, narrowed := true }
def FnExactPageInUptoSaid : Prop := fnExactPageInUptoRow.holds Try.pinned (OpenSpec.upto fnExactPageInSpec)

/-- 'laws.FnForget', WHERE WHAT IT READS IS OF BULK AT MOST 1048576: true; the input reads as it did. -/
def fnForgetUptoRow : OpenClaim := { program := "ytknhdlmgceklgaa", sum := "7a36dbe35b8c58b46c314fd45c79833f8b0345d6c7b908e3d9fb88afb57ac894", func := "loop.example/casket/laws.FnForget", spec := "fnForget", unfollowed := true, recurses := true, apart := false, narrowed := true }
def FnForgetUptoSaid : Prop := fnForgetUptoRow.holds Try.pinned (OpenSpec.upto fnForgetSpec)

/-- 'laws.FnCarry', WHERE WHAT IT READS IS OF BULK AT MOST 1048576: true; the input reads as it did. -/
def fnCarryUptoRow : OpenClaim := { program := "ytknhdlmgceklgaa", sum := "7a36dbe35b8c58b46c314fd45c79833f8b0345d6c7b908e3d9fb88afb57ac894", func := "loop.example/casket/laws.FnCarry", spec := "fnCarry", unfollowed := true, recurses := true, apart := false, narrowed := true }
def FnCarryUptoSaid : Prop := fnCarryUptoRow.holds Try.pinned (OpenSpec.upto fnCarrySpec)

/-- 'laws.FnMoveFirst', WHERE WHAT IT READS IS OF BULK AT MOST 1048576: true; the input reads as it did. -/
def fnMoveFirstUptoRow : OpenClaim := { program := "ytknhdlmgceklgaa", sum := "7a36dbe35b8c58b46c314fd45c79833f8b0345d6c7b908e3d9fb88afb57ac894", func := "loop.example/casket/laws.FnMoveFirst", spec := "fnMoveFirst", unfollowed := true, recurses := true, apart := false, narrowed := true }
def FnMoveFirstUptoSaid : Prop := fnMoveFirstUptoRow.holds Try.pinned (OpenSpec.upto fnMoveFirstSpec)

/-- 'laws.FnJoinLow', WHERE WHAT IT READS IS OF BULK AT MOST 1048576: true; the input reads as it did. -/
def fnJoinLowUptoRow : OpenClaim := { program := "ytknhdlmgceklgaa", sum := "7a36dbe35b8c58b46c314fd45c79833f8b0345d6c7b908e3d9fb88afb57ac894", func := "loop.example/casket/laws.FnJoinLow", spec := "fnJoinLow", unfollowed := true, recurses := true, apart := false, narrowed := true }
def FnJoinLowUptoSaid : Prop := fnJoinLowUptoRow.holds Try.pinned (OpenSpec.upto fnJoinLowSpec)

/-- 'laws.FnOutKept', WHERE WHAT IT READS IS OF BULK AT MOST 1048576: true; the input reads as it did. -/
def fnOutKeptUptoRow : OpenClaim := { program := "ytknhdlmgceklgaa", sum := "7a36dbe35b8c58b46c314fd45c79833f8b0345d6c7b908e3d9fb88afb57ac894", func := "loop.example/casket/laws.FnOutKept", spec := "fnOutKept", unfollowed := true, recurses := true, apart := false, narrowed := true }
def FnOutKeptUptoSaid : Prop := fnOutKeptUptoRow.holds Try.pinned (OpenSpec.upto fnOutKeptSpec)

/-- 'laws.FnExactPageOwn', WHERE WHAT IT READS IS OF BULK AT MOST 1048576: true; the input reads as it did. -/
def fnExactPageOwnUptoRow : OpenClaim := { program := "ytknhdlmgceklgaa", sum := "7a36dbe35b8c58b46c314fd45c79833f8b0345d6c7b908e3d9fb88afb57ac894", func := "loop.example/casket/laws.FnExactPageOwn", spec := "fnExactPageOwn", unfollowed := true, recurses := true, apart := false, narrowed := true }
def FnExactPageOwnUptoSaid : Prop := fnExactPageOwnUptoRow.holds Try.pinned (OpenSpec.upto fnExactPageOwnSpec)

/-- 'laws.FnPageOut', WHERE WHAT IT READS IS OF BULK AT MOST 1048576: true; the input reads as it did. -/
def fnPageOutUptoRow : OpenClaim := { program := "ytknhdlmgceklgaa", sum := "7a36dbe35b8c58b46c314fd45c79833f8b0345d6c7b908e3d9fb88afb57ac894", func := "loop.example/casket/laws.FnPageOut", spec := "fnPageOut", unfollowed := true, recurses := true, apart := false, narrowed := true }
def FnPageOutUptoSaid : Prop := fnPageOutUptoRow.holds Try.pinned (OpenSpec.upto fnPageOutSpec)

/-- 'laws.FnExactHostWrite', WHERE WHAT IT READS IS OF BULK AT MOST 1048576: true; the input reads as it did. -/
def fnExactHostWriteUptoRow : OpenClaim := { program := "ytknhdlmgceklgaa", sum := "7a36dbe35b8c58b46c314fd45c79833f8b0345d6c7b908e3d9fb88afb57ac894", func := "loop.example/casket/laws.FnExactHostWrite", spec := "fnExactHostWrite", unfollowed := true, recurses := true, apart := false, narrowed := true }
def FnExactHostWriteUptoSaid : Prop := fnExactHostWriteUptoRow.holds Try.pinned (OpenSpec.upto fnExactHostWriteSpec)

/-- 'laws.FnOutAll', WHERE WHAT IT READS IS OF BULK AT MOST 1048576: true; the input reads as it did. -/
def fnOutAllUptoRow : OpenClaim := { program := "ytknhdlmgceklgaa", sum := "7a36dbe35b8c58b46c314fd45c79833f8b0345d6c7b908e3d9fb88afb57ac894", func := "loop.example/casket/laws.FnOutAll", spec := "fnOutAll", unfollowed := true, recurses := true, apart := false, narrowed := true }
def FnOutAllUptoSaid : Prop := fnOutAllUptoRow.holds Try.pinned (OpenSpec.upto fnOutAllSpec)

/-- 'laws.FnMoveTwice', WHERE WHAT IT READS IS OF BULK AT MOST 1048576: true; the input reads as it did. -/
def fnMoveTwiceUptoRow : OpenClaim := { program := "ytknhdlmgceklgaa", sum := "7a36dbe35b8c58b46c314fd45c79833f8b0345d6c7b908e3d9fb88afb57ac894", func := "loop.example/casket/laws.FnMoveTwice", spec := "fnMoveTwice", unfollowed := true, recurses := true, apart := false, narrowed := true }
def FnMoveTwiceUptoSaid : Prop := fnMoveTwiceUptoRow.holds Try.pinned (OpenSpec.upto fnMoveTwiceSpec)

/-- 'laws.FnPageMove', WHERE WHAT IT READS IS OF BULK AT MOST 1048576: true; the input reads as it did. -/
def fnPageMoveUptoRow : OpenClaim := { program := "ytknhdlmgceklgaa", sum := "7a36dbe35b8c58b46c314fd45c79833f8b0345d6c7b908e3d9fb88afb57ac894", func := "loop.example/casket/laws.FnPageMove", spec := "fnPageMove", unfollowed := true, recurses := true, apart := false, narrowed := true }
def FnPageMoveUptoSaid : Prop := fnPageMoveUptoRow.holds Try.pinned (OpenSpec.upto fnPageMoveSpec)

/-- 'laws.FnPageJoinAll', WHERE WHAT IT READS IS OF BULK AT MOST 1048576: true; the input reads as it did. -/
def fnPageJoinAllUptoRow : OpenClaim := { program := "ytknhdlmgceklgaa", sum := "7a36dbe35b8c58b46c314fd45c79833f8b0345d6c7b908e3d9fb88afb57ac894", func := "loop.example/casket/laws.FnPageJoinAll", spec := "fnPageJoinAll", unfollowed := true, recurses := true, apart := false, narrowed := true }
def FnPageJoinAllUptoSaid : Prop := fnPageJoinAllUptoRow.holds Try.pinned (OpenSpec.upto fnPageJoinAllSpec)

end Rows
end Go.Proofs.Ytknhdlmgceklgaa
