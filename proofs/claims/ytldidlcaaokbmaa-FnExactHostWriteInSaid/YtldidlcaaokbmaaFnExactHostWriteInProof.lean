/-
  The statement FnExactHostWriteInSaid holds: the law returns true at every input and leaves its arguments as they were; no condition.
-/
import Derived.Test.YtldidlcaaokbmaaCp1
set_option linter.all false
set_option maxHeartbeats 0
open Go Go.Am Go.Proofs
open Go.ChangeShapes Go.WideShapes Go.ChangeAt Go.RowKit
namespace Go.Proofs.Ytldidlcaaokbmaa.T
set_option maxRecDepth 100000
theorem lifted5 (os : Os) (started : os.Started) (H : Type) (enc : TypeId × Value → H) :
    ReturnsInHanded {} Try.checked os 5 .any (Rows.fnExactHostWriteInSpec.pre6 enc Try.prog Try.f5 Rows.fnExactHostWriteInRow.domain false) (Rows.fnExactHostWriteInSpec.post enc Try.prog Try.f5 false true false false) := by
  refine returnsInHanded_of_change (C := Try.checked) own started (by kernel_rfl) Try.func5
    (ChangeSpec.witness6 (enc := enc) (C := Try.checked) false ⟨#[], #[.agg #[.slice none 0 0, .slice none 0 0, .int .i64 0], .int .i64 0, .int .i64 0, .int .i64 0, .int .i64 0], []⟩ 8 (by kernel_rfl) (by kernel_rfl) (by kernel_rfl) (by kernel_rfl)) ?_
  intro W base args ds gs before hval0 hW hcnd _
  have hval : ∀ (j : Nat) t v, Try.f5.params[j]? = some t → args[j]? = some v → Value.okWide Try.prog W .any base t v := hval0
  have hW' := hW
  obtain ⟨p, q, hA0, hV, rfl, hfz, hnd⟩ := hW
  have hA : DataW.TrodAll enc Try.prog W 0 (fun _ => true) true Try.f5.params.toList args.toList ds p := hA0
  rw [Try.params5] at hA hval
  obtain ⟨v0, vs0, d0, ds0, p0, q0, hargs, rfl, rfl, h0, r0⟩ := trodAll_cons hA
  obtain ⟨v1, vs1, d1, ds1, p1, q1, rfl, rfl, rfl, h1, r1⟩ := trodAll_cons r0
  obtain ⟨v2, vs2, d2, ds2, p2, q2, rfl, rfl, rfl, h2, r2⟩ := trodAll_cons r1
  obtain ⟨v3, vs3, d3, ds3, p3, q3, rfl, rfl, rfl, h3, r3⟩ := trodAll_cons r2
  obtain ⟨v4, vs4, d4, ds4, p4, q4, rfl, rfl, rfl, h4, r4⟩ := trodAll_cons r3
  obtain ⟨rfl, rfl, rfl⟩ := trodAll_nil r4
  obtain rfl : args = #[v0, v1, v2, v3, v4] := by cases args; simp_all
  obtain ⟨rfl, rfl⟩ := trodVars_none hV
  have lt0 : ∀ x ∈ p0, x.block < W.heap.size := by obtain ⟨m, hm⟩ := h0; exact DataW.trod_lt m _ _ _ hm
  obtain ⟨y0, hy0, w0⟩ := arg_rv (k := kH) (n := 9) (tabB_ok (fun _ => []) tabOk) (by kernel_rfl) (by kernel_rfl) (hval 0 41 v0 rfl rfl) h0
  have lt1 : ∀ x ∈ p1, x.block < W.heap.size := by obtain ⟨m, hm⟩ := h1; exact DataW.trod_lt m _ _ _ hm
  obtain ⟨y1, hy1, w1⟩ := arg_rv (k := kI) (n := 9) (tabB_ok (fun _ => []) tabOk) (by kernel_rfl) (by kernel_rfl) (hval 1 3 v1 rfl rfl) h1
  have lt2 : ∀ x ∈ p2, x.block < W.heap.size := by obtain ⟨m, hm⟩ := h2; exact DataW.trod_lt m _ _ _ hm
  obtain ⟨y2, hy2, w2⟩ := arg_rv (k := kI) (n := 9) (tabB_ok (fun _ => []) tabOk) (by kernel_rfl) (by kernel_rfl) (hval 2 3 v2 rfl rfl) h2
  have lt3 : ∀ x ∈ p3, x.block < W.heap.size := by obtain ⟨m, hm⟩ := h3; exact DataW.trod_lt m _ _ _ hm
  obtain ⟨y3, hy3, w3⟩ := arg_rv (k := kI) (n := 9) (tabB_ok (fun _ => []) tabOk) (by kernel_rfl) (by kernel_rfl) (hval 3 3 v3 rfl rfl) h3
  have lt4 : ∀ x ∈ p4, x.block < W.heap.size := by obtain ⟨m, hm⟩ := h4; exact DataW.trod_lt m _ _ _ hm
  obtain ⟨y4, hy4, w4⟩ := arg_rv (k := kI) (n := 9) (tabB_ok (fun _ => []) tabOk) (by kernel_rfl) (by kernel_rfl) (hval 4 3 v4 rfl rfl) h4
  clear hA0 hval0
  refine (Ctr.law kn_laws_FnExactHostWriteIn.1 [⟨kH, y0⟩, ⟨kI, y1⟩, ⟨kI, y2⟩, ⟨kI, y3⟩, ⟨kI, y4⟩] rfl (wfH_of w0) rfl (vs := [v0, v1, v2, v3, v4]) ⟨hy0, hy1, hy2, hy3, hy4, trivial⟩).mono fun e W' ⟨he, bel⟩ => ?_
  subst he
  exact ⟨_, rfl, _, _, _, [], _, [], hW', trodAll_mk1 (shut_bool Try.underlying4 _), (trodAll_cons_mk (Below.trod laidOut (by kernel_rfl) (of_decide_eq_true (by kernel_rfl)) h0 bel lt0) (trodAll_cons_mk (Below.trod laidOut (by kernel_rfl) (of_decide_eq_true (by kernel_rfl)) h1 bel lt1) (trodAll_cons_mk (Below.trod laidOut (by kernel_rfl) (of_decide_eq_true (by kernel_rfl)) h2 bel lt2) (trodAll_cons_mk (Below.trod laidOut (by kernel_rfl) (of_decide_eq_true (by kernel_rfl)) h3 bel lt3) (trodAll_cons_mk (Below.trod laidOut (by kernel_rfl) (of_decide_eq_true (by kernel_rfl)) h4 bel lt4) trodAll_mk0))))), rfl, bel.frame _, fun h => by cases h⟩
theorem closed5 : joinedFacts Try.prog 5 Try.f5 Rows.fnExactHostWriteInSpec Rows.fnExactHostWriteInRow = true := by
  unfold joinedFacts
  repeat' (with_reducible apply andT)
  all_goals first
    | with_reducible exact ioEnter
    | (with_reducible refine (?_ : (_ == Program.liftsFinal _) = true); rw [ioLift]; kernel_rfl)
    | (with_reducible refine (?_ : (Program.make _ == _) = true); rw [ioMake]; kernel_rfl)
    | kernel_rfl
theorem fnExactHostWriteIn_holds : Rows.FnExactHostWriteInSaid :=
  OpenClaim.holds_of_wide 5 Try.f5 rfl rfl rfl rfl rfl rfl rfl ⟨rfl, rfl, rfl, rfl, rfl⟩ rfl rfl rfl rfl rfl (by kernel_rfl) Try.func5 closed5
    (of_decide_eq_true (by kernel_rfl)) (by unfold Func.isWrapper; rw [if_neg (of_decide_eq_false (by kernel_rfl))]; exact ⟨rfl, rfl⟩)
    (fun os started H enc _ => lifted5 os started H enc)
end Go.Proofs.Ytldidlcaaokbmaa.T
namespace Go.Proofs.Ytldidlcaaokbmaa
theorem fnExactHostWriteIn_holds : Rows.FnExactHostWriteInSaid := T.fnExactHostWriteIn_holds
#print axioms fnExactHostWriteIn_holds
end Go.Proofs.Ytldidlcaaokbmaa
