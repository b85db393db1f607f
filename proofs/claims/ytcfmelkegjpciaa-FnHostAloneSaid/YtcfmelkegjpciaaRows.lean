/-
  No cell of these rows narrows 'for every input' (looked for: loops, veiled, ifaces, maps, wideKeys, modest, calm, conditions, laid).
  DERIVED. THE GIVEN ROWS OF THIS SEAT. 12 by the template 'for every input the law returns true; each argument reads behind the call as it read before'; 0 by the template 'total and deterministic' (their statements: YtcfmelkegjpciaaTotals.lean).
  GIVEN WITH THE SEED: the statements are not yours to turn. If you find one false, say at which input.
  Laid BY PROGRAM, IN A SANDBOX (cutbox-rows.mjs): the forced cells as the released guide's own fill.sh prints them over the translation 56650e0ec1d7d320… (all of the seat's roots in one cut). By AI agents, Wed Nov 11 2026. No macro, syntax, notation, axiom, sorry.
-/
import Derived.Test.YtcfmelkegjpciaaChecked
import GoSem.Claim
import GoSem.ClaimJoined
import GoSem.ClaimMapViews
import Derived.JoinedTies
import Derived.KernelRfl
namespace Go.Proofs.Ytcfmelkegjpciaa
/- THE CELL 'sum', in the pinned program and in every row, IS THE sha256 OF THE DUMP (.gsa) THAT YtcfmelkegjpciaaProg.lean LOADS. Nothing in Lean hashes anything: it is a label: what it is worth is what the hold of that sum in a sandbox is worth. -/
noncomputable def Try.pinned : Pinned := { name := "ytcfmelkegjpciaa", sum := "56650e0ec1d7d3206e2901bc8ed9b751c2e6d4d9e15aafe90dcab1b2fc6a015f", checked := Try.checked }
namespace Rows
def none {H : Type} : Left H := { results := [], args := [] }

/-- 'laws.FnExactActsTidy': WHATEVER THE INPUT: true; the input reads as it did. -/
def fnExactActsTidySpec : ChangeSpec := { name := "fnExactActsTidy", fn := fun _ => fun
  | [d] => { results := [.lit (.bool true)], args := [d] }
  | _ => none }
def fnExactActsTidyRow : OpenClaim := { program := "ytcfmelkegjpciaa", sum := "56650e0ec1d7d3206e2901bc8ed9b751c2e6d4d9e15aafe90dcab1b2fc6a015f", func := "loop.example/casket/laws.FnExactActsTidy", spec := "fnExactActsTidy", apart := false }
def FnExactActsTidySaid : Prop := fnExactActsTidyRow.holds Try.pinned (OpenSpec.ofChange fnExactActsTidySpec)

/-- ITS FALSE NEIGHBOUR: 'it returns false'. Refute it at one input. -/
def fnExactActsTidyWrong : ChangeSpec := { name := "fnExactActsTidy", fn := fun _ => fun
  | [d] => { results := [.lit (.bool false)], args := [d] }
  | _ => none }
def FnExactActsTidyWrongFalsely : Prop := fnExactActsTidyRow.holds Try.pinned (OpenSpec.ofChange fnExactActsTidyWrong)

/-- 'laws.FnTidyCut': WHATEVER THE INPUT: true; the input reads as it did. -/
def fnTidyCutSpec : ChangeSpec := { name := "fnTidyCut", fn := fun _ => fun
  | [d1, d2] => { results := [.lit (.bool true)], args := [d1, d2] }
  | _ => none }
def fnTidyCutRow : OpenClaim := { program := "ytcfmelkegjpciaa", sum := "56650e0ec1d7d3206e2901bc8ed9b751c2e6d4d9e15aafe90dcab1b2fc6a015f", func := "loop.example/casket/laws.FnTidyCut", spec := "fnTidyCut", apart := false }
def FnTidyCutSaid : Prop := fnTidyCutRow.holds Try.pinned (OpenSpec.ofChange fnTidyCutSpec)

/-- ITS FALSE NEIGHBOUR: 'it returns false'. Refute it at one input. -/
def fnTidyCutWrong : ChangeSpec := { name := "fnTidyCut", fn := fun _ => fun
  | [d1, d2] => { results := [.lit (.bool false)], args := [d1, d2] }
  | _ => none }
def FnTidyCutWrongFalsely : Prop := fnTidyCutRow.holds Try.pinned (OpenSpec.ofChange fnTidyCutWrong)

/-- 'laws.FnTidyNot': WHATEVER THE INPUT: true; the input reads as it did. -/
def fnTidyNotSpec : ChangeSpec := { name := "fnTidyNot", fn := fun _ => fun
  | [d1, d2] => { results := [.lit (.bool true)], args := [d1, d2] }
  | _ => none }
def fnTidyNotRow : OpenClaim := { program := "ytcfmelkegjpciaa", sum := "56650e0ec1d7d3206e2901bc8ed9b751c2e6d4d9e15aafe90dcab1b2fc6a015f", func := "loop.example/casket/laws.FnTidyNot", spec := "fnTidyNot", apart := false }
def FnTidyNotSaid : Prop := fnTidyNotRow.holds Try.pinned (OpenSpec.ofChange fnTidyNotSpec)

/-- ITS FALSE NEIGHBOUR: 'it returns false'. Refute it at one input. -/
def fnTidyNotWrong : ChangeSpec := { name := "fnTidyNot", fn := fun _ => fun
  | [d1, d2] => { results := [.lit (.bool false)], args := [d1, d2] }
  | _ => none }
def FnTidyNotWrongFalsely : Prop := fnTidyNotRow.holds Try.pinned (OpenSpec.ofChange fnTidyNotWrong)

/-- 'laws.FnTidyPart': WHATEVER THE INPUT: true; the input reads as it did. -/
def fnTidyPartSpec : ChangeSpec := { name := "fnTidyPart", fn := fun _ => fun
  | [d] => { results := [.lit (.bool true)], args := [d] }
  | _ => none }
def fnTidyPartRow : OpenClaim := { program := "ytcfmelkegjpciaa", sum := "56650e0ec1d7d3206e2901bc8ed9b751c2e6d4d9e15aafe90dcab1b2fc6a015f", func := "loop.example/casket/laws.FnTidyPart", spec := "fnTidyPart", apart := false }
def FnTidyPartSaid : Prop := fnTidyPartRow.holds Try.pinned (OpenSpec.ofChange fnTidyPartSpec)

/-- ITS FALSE NEIGHBOUR: 'it returns false'. Refute it at one input. -/
def fnTidyPartWrong : ChangeSpec := { name := "fnTidyPart", fn := fun _ => fun
  | [d] => { results := [.lit (.bool false)], args := [d] }
  | _ => none }
def FnTidyPartWrongFalsely : Prop := fnTidyPartRow.holds Try.pinned (OpenSpec.ofChange fnTidyPartWrong)

/-- 'laws.FnExactFlatDo': WHATEVER THE INPUT: true; the input reads as it did. -/
def fnExactFlatDoSpec : ChangeSpec := { name := "fnExactFlatDo", fn := fun _ => fun
  | [d1, d2] => { results := [.lit (.bool true)], args := [d1, d2] }
  | _ => none }
def fnExactFlatDoRow : OpenClaim := { program := "ytcfmelkegjpciaa", sum := "56650e0ec1d7d3206e2901bc8ed9b751c2e6d4d9e15aafe90dcab1b2fc6a015f", func := "loop.example/casket/laws.FnExactFlatDo", spec := "fnExactFlatDo", apart := false }
def FnExactFlatDoSaid : Prop := fnExactFlatDoRow.holds Try.pinned (OpenSpec.ofChange fnExactFlatDoSpec)

/-- ITS FALSE NEIGHBOUR: 'it returns false'. Refute it at one input. -/
def fnExactFlatDoWrong : ChangeSpec := { name := "fnExactFlatDo", fn := fun _ => fun
  | [d1, d2] => { results := [.lit (.bool false)], args := [d1, d2] }
  | _ => none }
def FnExactFlatDoWrongFalsely : Prop := fnExactFlatDoRow.holds Try.pinned (OpenSpec.ofChange fnExactFlatDoWrong)

/-- 'laws.FnFlatDo': WHATEVER THE INPUT: true; the input reads as it did. -/
def fnFlatDoSpec : ChangeSpec := { name := "fnFlatDo", fn := fun _ => fun
  | [d] => { results := [.lit (.bool true)], args := [d] }
  | _ => none }
def fnFlatDoRow : OpenClaim := { program := "ytcfmelkegjpciaa", sum := "56650e0ec1d7d3206e2901bc8ed9b751c2e6d4d9e15aafe90dcab1b2fc6a015f", func := "loop.example/casket/laws.FnFlatDo", spec := "fnFlatDo", apart := false }
def FnFlatDoSaid : Prop := fnFlatDoRow.holds Try.pinned (OpenSpec.ofChange fnFlatDoSpec)

/-- ITS FALSE NEIGHBOUR: 'it returns false'. Refute it at one input. -/
def fnFlatDoWrong : ChangeSpec := { name := "fnFlatDo", fn := fun _ => fun
  | [d] => { results := [.lit (.bool false)], args := [d] }
  | _ => none }
def FnFlatDoWrongFalsely : Prop := fnFlatDoRow.holds Try.pinned (OpenSpec.ofChange fnFlatDoWrong)

/-- 'laws.FnShadeMoved': WHATEVER THE INPUT: true; the input reads as it did. -/
def fnShadeMovedSpec : ChangeSpec := { name := "fnShadeMoved", fn := fun _ => fun
  | [d1, d2] => { results := [.lit (.bool true)], args := [d1, d2] }
  | _ => none }
def fnShadeMovedRow : OpenClaim := { program := "ytcfmelkegjpciaa", sum := "56650e0ec1d7d3206e2901bc8ed9b751c2e6d4d9e15aafe90dcab1b2fc6a015f", func := "loop.example/casket/laws.FnShadeMoved", spec := "fnShadeMoved", unfollowed := true, recurses := true, apart := false }
def FnShadeMovedSaid : Prop := fnShadeMovedRow.holds Try.pinned (OpenSpec.ofChange fnShadeMovedSpec)

/-- ITS FALSE NEIGHBOUR: 'it returns false'. Refute it at one input. -/
def fnShadeMovedWrong : ChangeSpec := { name := "fnShadeMoved", fn := fun _ => fun
  | [d1, d2] => { results := [.lit (.bool false)], args := [d1, d2] }
  | _ => none }
def FnShadeMovedWrongFalsely : Prop := fnShadeMovedRow.holds Try.pinned (OpenSpec.ofChange fnShadeMovedWrong)

/-- 'laws.FnExactFlatPlay': WHATEVER THE INPUT: true; the input reads as it did. -/
def fnExactFlatPlaySpec : ChangeSpec := { name := "fnExactFlatPlay", fn := fun _ => fun
  | [d1, d2] => { results := [.lit (.bool true)], args := [d1, d2] }
  | _ => none }
def fnExactFlatPlayRow : OpenClaim := { program := "ytcfmelkegjpciaa", sum := "56650e0ec1d7d3206e2901bc8ed9b751c2e6d4d9e15aafe90dcab1b2fc6a015f", func := "loop.example/casket/laws.FnExactFlatPlay", spec := "fnExactFlatPlay", apart := false }
def FnExactFlatPlaySaid : Prop := fnExactFlatPlayRow.holds Try.pinned (OpenSpec.ofChange fnExactFlatPlaySpec)

/-- ITS FALSE NEIGHBOUR: 'it returns false'. Refute it at one input. -/
def fnExactFlatPlayWrong : ChangeSpec := { name := "fnExactFlatPlay", fn := fun _ => fun
  | [d1, d2] => { results := [.lit (.bool false)], args := [d1, d2] }
  | _ => none }
def FnExactFlatPlayWrongFalsely : Prop := fnExactFlatPlayRow.holds Try.pinned (OpenSpec.ofChange fnExactFlatPlayWrong)

/-- 'laws.FnFlatPlay': WHATEVER THE INPUT: true; the input reads as it did. -/
def fnFlatPlaySpec : ChangeSpec := { name := "fnFlatPlay", fn := fun _ => fun
  | [d] => { results := [.lit (.bool true)], args := [d] }
  | _ => none }
def fnFlatPlayRow : OpenClaim := { program := "ytcfmelkegjpciaa", sum := "56650e0ec1d7d3206e2901bc8ed9b751c2e6d4d9e15aafe90dcab1b2fc6a015f", func := "loop.example/casket/laws.FnFlatPlay", spec := "fnFlatPlay", apart := false }
def FnFlatPlaySaid : Prop := fnFlatPlayRow.holds Try.pinned (OpenSpec.ofChange fnFlatPlaySpec)

/-- ITS FALSE NEIGHBOUR: 'it returns false'. Refute it at one input. -/
def fnFlatPlayWrong : ChangeSpec := { name := "fnFlatPlay", fn := fun _ => fun
  | [d] => { results := [.lit (.bool false)], args := [d] }
  | _ => none }
def FnFlatPlayWrongFalsely : Prop := fnFlatPlayRow.holds Try.pinned (OpenSpec.ofChange fnFlatPlayWrong)

/-- 'laws.FnExactHostSee': WHATEVER THE INPUT: true; the input reads as it did. -/
def fnExactHostSeeSpec : ChangeSpec := { name := "fnExactHostSee", fn := fun _ => fun
  | [d1, d2] => { results := [.lit (.bool true)], args := [d1, d2] }
  | _ => none }
def fnExactHostSeeRow : OpenClaim := { program := "ytcfmelkegjpciaa", sum := "56650e0ec1d7d3206e2901bc8ed9b751c2e6d4d9e15aafe90dcab1b2fc6a015f", func := "loop.example/casket/laws.FnExactHostSee", spec := "fnExactHostSee", unfollowed := true, recurses := true, apart := false }
def FnExactHostSeeSaid : Prop := fnExactHostSeeRow.holds Try.pinned (OpenSpec.ofChange fnExactHostSeeSpec)

/-- ITS FALSE NEIGHBOUR: 'it returns false'. Refute it at one input. -/
def fnExactHostSeeWrong : ChangeSpec := { name := "fnExactHostSee", fn := fun _ => fun
  | [d1, d2] => { results := [.lit (.bool false)], args := [d1, d2] }
  | _ => none }
def FnExactHostSeeWrongFalsely : Prop := fnExactHostSeeRow.holds Try.pinned (OpenSpec.ofChange fnExactHostSeeWrong)

/-- 'laws.FnExactHostForget': WHATEVER THE INPUT: true; the input reads as it did. -/
def fnExactHostForgetSpec : ChangeSpec := { name := "fnExactHostForget", fn := fun _ => fun
  | [d1, d2] => { results := [.lit (.bool true)], args := [d1, d2] }
  | _ => none }
def fnExactHostForgetRow : OpenClaim := { program := "ytcfmelkegjpciaa", sum := "56650e0ec1d7d3206e2901bc8ed9b751c2e6d4d9e15aafe90dcab1b2fc6a015f", func := "loop.example/casket/laws.FnExactHostForget", spec := "fnExactHostForget", unfollowed := true, recurses := true, apart := false }
def FnExactHostForgetSaid : Prop := fnExactHostForgetRow.holds Try.pinned (OpenSpec.ofChange fnExactHostForgetSpec)

/-- ITS FALSE NEIGHBOUR: 'it returns false'. Refute it at one input. -/
def fnExactHostForgetWrong : ChangeSpec := { name := "fnExactHostForget", fn := fun _ => fun
  | [d1, d2] => { results := [.lit (.bool false)], args := [d1, d2] }
  | _ => none }
def FnExactHostForgetWrongFalsely : Prop := fnExactHostForgetRow.holds Try.pinned (OpenSpec.ofChange fnExactHostForgetWrong)

/-- 'laws.FnHostAlone': WHATEVER THE INPUT: true; the input reads as it did. -/
def fnHostAloneSpec : ChangeSpec := { name := "fnHostAlone", fn := fun _ => fun
  | [d] => { results := [.lit (.bool true)], args := [d] }
  | _ => none }
def fnHostAloneRow : OpenClaim := { program := "ytcfmelkegjpciaa", sum := "56650e0ec1d7d3206e2901bc8ed9b751c2e6d4d9e15aafe90dcab1b2fc6a015f", func := "loop.example/casket/laws.FnHostAlone", spec := "fnHostAlone", unfollowed := true, recurses := true, apart := false }
def FnHostAloneSaid : Prop := fnHostAloneRow.holds Try.pinned (OpenSpec.ofChange fnHostAloneSpec)

/-- ITS FALSE NEIGHBOUR: 'it returns false'. Refute it at one input. -/
def fnHostAloneWrong : ChangeSpec := { name := "fnHostAlone", fn := fun _ => fun
  | [d] => { results := [.lit (.bool false)], args := [d] }
  | _ => none }
def FnHostAloneWrongFalsely : Prop := fnHostAloneRow.holds Try.pinned (OpenSpec.ofChange fnHostAloneWrong)

/- THE SECOND FORM. 'bulk': how many values and letters a reading holds, each counted each time it is reached (what is shared counts as often as it is met; a slice's spare places count too). A statement '..UptoSaid' is the law's where the arguments, and the package variables that the reading takes, are together of bulk at most 1048576: NARROWER than '..Said'. Prove '..Said' where nothing that the law and all that it calls make is longer than what came in: it says more and counts as full. Else prove '..UptoSaid'. A law counts once. -/
mutual
def uptoBulk {H : Type} : DataW H → Nat
  | .lit (.string bytes) => bytes.length + 1
  | .lit _ => 1
  | .nil => 1
  | .ptr d => uptoBulk d + 1
  | .slice elems spare => uptoBulkAll elems + uptoBulkAll spare + 1
  | .agg parts => uptoBulkAll parts + 1
  | .iface _ d => uptoBulk d + 1
  | .map entries => uptoBulkEntries entries + 1
  | .held _ => 1
def uptoBulkAll {H : Type} : List (DataW H) → Nat
  | [] => 0
  | d :: r => uptoBulk d + uptoBulkAll r
def uptoBulkEntries {H : Type} : List (Lit × DataW H) → Nat
  | [] => 0
  | x :: r => uptoBulkEntry x + uptoBulkEntries r
def uptoBulkEntry {H : Type} : Lit × DataW H → Nat
  | (.string bytes, d) => bytes.length + uptoBulk d + 1
  | (_, d) => uptoBulk d + 1
 end
def uptoSmall : (H : Type) → List (DataW H) → Bool := fun _ ds => decide (uptoBulkAll ds ≤ 1048576)
def OpenSpec.upto (s : _root_.Go.ChangeSpec) : _root_.Go.OpenSpec := { _root_.Go.OpenSpec.ofChange s with cond := some uptoSmall }

/-- 'laws.FnExactActsTidy', WHERE WHAT IT READS IS OF BULK AT MOST 1048576: true; the input reads as it did. -/
def fnExactActsTidyUptoRow : OpenClaim := { program := "ytcfmelkegjpciaa", sum := "56650e0ec1d7d3206e2901bc8ed9b751c2e6d4d9e15aafe90dcab1b2fc6a015f", func := "loop.example/casket/laws.FnExactActsTidy", spec := "fnExactActsTidy", apart := false, narrowed := true }
def FnExactActsTidyUptoSaid : Prop := fnExactActsTidyUptoRow.holds Try.pinned (OpenSpec.upto fnExactActsTidySpec)

/-- 'laws.FnTidyCut', WHERE WHAT IT READS IS OF BULK AT MOST 1048576: true; the input reads as it did. -/
def fnTidyCutUptoRow : OpenClaim := { program := "ytcfmelkegjpciaa", sum := "56650e0ec1d7d3206e2901bc8ed9b751c2e6d4d9e15aafe90dcab1b2fc6a015f", func := "loop.example/casket/laws.FnTidyCut", spec := "fnTidyCut", apart := false, narrowed := true }
def FnTidyCutUptoSaid : Prop := fnTidyCutUptoRow.holds Try.pinned (OpenSpec.upto fnTidyCutSpec)

/-- 'laws.FnTidyNot', WHERE WHAT IT READS IS OF BULK AT MOST 1048576: true; the input reads as it did. -/
def fnTidyNotUptoRow : OpenClaim := { program := "ytcfmelkegjpciaa", sum := "56650e0ec1d7d3206e2901bc8ed9b751c2e6d4d9e15aafe90dcab1b2fc6a015f", func := "loop.example/casket/laws.FnTidyNot", spec := "fnTidyNot", apart := false, narrowed := true }
def FnTidyNotUptoSaid : Prop := fnTidyNotUptoRow.holds Try.pinned (OpenSpec.upto fnTidyNotSpec)

/-- 'laws.FnTidyPart', WHERE WHAT IT READS IS OF BULK AT MOST 1048576: true; the input reads as it did. -/
def fnTidyPartUptoRow : OpenClaim := { program := "ytcfmelkegjpciaa", sum := "56650e0ec1d7d3206e2901bc8ed9b751c2e6d4d9e15aafe90dcab1b2fc6a015f", func := "loop.example/casket/laws.FnTidyPart", spec := "fnTidyPart", apart := false, narrowed := true }
def FnTidyPartUptoSaid : Prop := fnTidyPartUptoRow.holds Try.pinned (OpenSpec.upto fnTidyPartSpec)

/-- 'laws.FnExactFlatDo', WHERE WHAT IT READS IS OF BULK AT MOST 1048576: true; the input reads as it did. -/
def fnExactFlatDoUptoRow : OpenClaim := { program := "ytcfmelkegjpciaa", sum := "56650e0ec1d7d3206e2901bc8ed9b751c2e6d4d9e15aafe90dcab1b2fc6a015f", func := "loop.example/casket/laws.FnExactFlatDo", spec := "fnExactFlatDo", apart := false, narrowed := true }
def FnExactFlatDoUptoSaid : Prop := fnExactFlatDoUptoRow.holds Try.pinned (OpenSpec.upto fnExactFlatDoSpec)

/-- 'laws.FnFlatDo', WHERE WHAT IT READS IS OF BULK AT MOST 1048576: true; the input reads as it did. -/
def fnFlatDoUptoRow : OpenClaim := { program := "ytcfmelkegjpciaa", sum := "56650e0ec1d7d3206e2901bc8ed9b751c2e6d4d9e15aafe90dcab1b2fc6a015f", func := "loop.example/casket/laws.FnFlatDo", spec := "fnFlatDo", apart := false, narrowed := true }
def FnFlatDoUptoSaid : Prop := fnFlatDoUptoRow.holds Try.pinned (OpenSpec.upto fnFlatDoSpec)

/-- 'laws.FnShadeMoved', WHERE WHAT IT READS IS OF BULK AT MOST 1048576: true; the input reads as it did. -/
def fnShadeMovedUptoRow : OpenClaim := { program := "ytcfmelkegjpciaa", sum := "56650e0ec1d7d3206e2901bc8ed9b751c2e6d4d9e15aafe90dcab1b2fc6a015f", func := "loop.example/casket/laws.FnShadeMoved", spec := "fnShadeMoved", unfollowed := true, recurses := true, apart := false, narrowed := true }
def FnShadeMovedUptoSaid : Prop := fnShadeMovedUptoRow.holds Try.pinned (OpenSpec.upto fnShadeMovedSpec)

/-- 'laws.FnExactFlatPlay', WHERE WHAT IT READS IS OF BULK AT MOST 1048576: true; the input reads as it did. -/
def fnExactFlatPlayUptoRow : OpenClaim := { program := "ytcfmelkegjpciaa", sum := "56650e0ec1d7d3206e2901bc8ed9b751c2e6d4d9e15aafe90dcab1b2fc6a015f", func := "loop.example/casket/laws.FnExactFlatPlay", spec := "fnExactFlatPlay", apart := false, narrowed := true }
def FnExactFlatPlayUptoSaid : Prop := fnExactFlatPlayUptoRow.holds Try.pinned (OpenSpec.upto fnExactFlatPlaySpec)

/-- 'laws.FnFlatPlay', WHERE WHAT IT READS IS OF BULK AT MOST 1048576: true; the input reads as it did. -/
def fnFlatPlayUptoRow : OpenClaim := { program := "ytcfmelkegjpciaa", sum := "56650e0ec1d7d3206e2901bc8ed9b751c2e6d4d9e15aafe90dcab1b2fc6a015f", func := "loop.example/casket/laws.FnFlatPlay", spec := "fnFlatPlay", apart := false, narrowed := true }
def FnFlatPlayUptoSaid : Prop := fnFlatPlayUptoRow.holds Try.pinned (OpenSpec.upto fnFlatPlaySpec)

/-- 'laws.FnExactHostSee', WHERE WHAT IT READS IS OF BULK AT MOST 1048576: true; the input reads as it did. -/
def fnExactHostSeeUptoRow : OpenClaim := { program := "ytcfmelkegjpciaa", sum := "56650e0ec1d7d3206e2901bc8ed9b751c2e6d4d9e15aafe90dcab1b2fc6a015f", func := "loop.example/casket/laws.FnExactHostSee", spec := "fnExactHostSee", unfollowed := true, recurses := true, apart := false, narrowed := true }
def FnExactHostSeeUptoSaid : Prop := fnExactHostSeeUptoRow.holds Try.pinned (OpenSpec.upto fnExactHostSeeSpec)

/-- 'laws.FnExactHostForget', WHERE WHAT IT READS IS OF BULK AT MOST 1048576: true; the input reads as it did. -/
def fnExactHostForgetUptoRow : OpenClaim := { program := "ytcfmelkegjpciaa", sum := "56650e0ec1d7d3206e2901bc8ed9b751c2e6d4d9e15aafe90dcab1b2fc6a015f", func := "loop.example/casket/laws.FnExactHostForget", spec := "fnExactHostForget", unfollowed := true, recurses := true, apart := false, narrowed := true }
def FnExactHostForgetUptoSaid : Prop := fnExactHostForgetUptoRow.holds Try.pinned (OpenSpec.upto fnExactHostForgetSpec)

/-- 'laws.FnHostAlone', WHERE WHAT IT READS IS OF BULK AT MOST 1048576: true; the input reads as it did. -/
def fnHostAloneUptoRow : OpenClaim := { program := "ytcfmelkegjpciaa", sum := "56650e0ec1d7d3206e2901bc8ed9b751c2e6d4d9e15aafe90dcab1b2fc6a015f", func := "loop.example/casket/laws.FnHostAlone", spec := "fnHostAlone", unfollowed := true, recurses := true, apart := false, narrowed := true }
def FnHostAloneUptoSaid : Prop := fnHostAloneUptoRow.holds Try.pinned (OpenSpec.upto fnHostAloneSpec)

end Rows
end Go.Proofs.Ytcfmelkegjpciaa
