/-
  The statement FnHostOutSaid holds: the law returns true at every input and leaves its arguments as they were; no condition.
-/
import Derived.Test.YtkcpacgnejlpbaaCp1
set_option linter.all false
set_option maxHeartbeats 0
open Go Go.Am Go.Proofs
open Go.ChangeShapes Go.WideShapes Go.ChangeAt Go.RowKit
namespace Go.Proofs.Ytkcpacgnejlpbaa.T
set_option maxRecDepth 100000
theorem lifted4 (os : Os) (started : os.Started) (H : Type) (enc : TypeId × Value → H) :
    ReturnsInHanded {} Try.checked os 4 .any (Rows.fnHostOutSpec.pre6 enc Try.prog Try.f4 Rows.fnHostOutRow.domain false) (Rows.fnHostOutSpec.post enc Try.prog Try.f4 false true false false) := by
  refine returnsInHanded_of_change (C := Try.checked) own started (by kernel_rfl) Try.func4
    (ChangeSpec.witness6 (enc := enc) (C := Try.checked) false ⟨#[], #[.slice none 0 0], []⟩ 8 (by kernel_rfl) (by kernel_rfl) (by kernel_rfl) (by kernel_rfl)) ?_
  intro W base args ds gs before hval0 hW hcnd _
  have hval : ∀ (j : Nat) t v, Try.f4.params[j]? = some t → args[j]? = some v → Value.okWide Try.prog W .any base t v := hval0
  have hW' := hW
  obtain ⟨p, q, hA0, hV, rfl, hfz, hnd⟩ := hW
  have hA : DataW.TrodAll enc Try.prog W 0 (fun _ => true) true Try.f4.params.toList args.toList ds p := hA0
  rw [Try.params4] at hA hval
  obtain ⟨v0, vs0, d0, ds0, p0, q0, hargs, rfl, rfl, h0, r0⟩ := trodAll_cons hA
  obtain ⟨rfl, rfl, rfl⟩ := trodAll_nil r0
  obtain rfl : args = #[v0] := by cases args; simp_all
  obtain ⟨rfl, rfl⟩ := trodVars_none hV
  have lt0 : ∀ x ∈ p0, x.block < W.heap.size := by obtain ⟨m, hm⟩ := h0; exact DataW.trod_lt m _ _ _ hm
  obtain ⟨y0, hy0, w0⟩ := arg_rv (k := kU) (n := 9) (tabB_ok (fun _ => []) tabOk) (by kernel_rfl) (by kernel_rfl) (hval 0 22 v0 rfl rfl) h0
  clear hA0 hval0
  refine (Ctr.law kn_laws_FnHostOut.1 [⟨kU, y0⟩] rfl (bytes_of w0) rfl (vs := [v0]) ⟨hy0, trivial⟩).mono fun e W' ⟨he, bel⟩ => ?_
  subst he
  exact ⟨_, rfl, _, _, _, [], _, [], hW', trodAll_mk1 (shut_bool Try.underlying4 _), (trodAll_cons_mk (Below.trod laidOut (by kernel_rfl) (of_decide_eq_true (by kernel_rfl)) h0 bel lt0) trodAll_mk0), rfl, bel.frame _, fun h => by cases h⟩
theorem closed4 : joinedFacts Try.prog 4 Try.f4 Rows.fnHostOutSpec Rows.fnHostOutRow = true := by
  unfold joinedFacts
  repeat' (with_reducible apply andT)
  all_goals first
    | with_reducible exact ioEnter
    | (with_reducible refine (?_ : (_ == Program.liftsFinal _) = true); rw [ioLift]; kernel_rfl)
    | (with_reducible refine (?_ : (Program.make _ == _) = true); rw [ioMake]; kernel_rfl)
    | kernel_rfl
theorem fnHostOut_holds : Rows.FnHostOutSaid :=
  OpenClaim.holds_of_wide 4 Try.f4 rfl rfl rfl rfl rfl rfl rfl ⟨rfl, rfl, rfl, rfl, rfl⟩ rfl rfl rfl rfl rfl (by kernel_rfl) Try.func4 closed4
    (of_decide_eq_true (by kernel_rfl)) (by unfold Func.isWrapper; rw [if_neg (of_decide_eq_false (by kernel_rfl))]; exact ⟨rfl, rfl⟩)
    (fun os started H enc _ => lifted4 os started H enc)
end Go.Proofs.Ytkcpacgnejlpbaa.T
namespace Go.Proofs.Ytkcpacgnejlpbaa
theorem fnHostOut_holds : Rows.FnHostOutSaid := T.fnHostOut_holds
#print axioms fnHostOut_holds
end Go.Proofs.Ytkcpacgnejlpbaa
