/-
  For each function: its contract holds; the conditions stand in the contracts.
-/
import Derived.Test.YtkcpacgnejlpbaaVc1
import Derived.OpenShut
import Derived.ShutString
import Derived.ChangeOld
import Derived.Carry
set_option linter.all false
set_option maxHeartbeats 0
open Go Go.Am Go.Proofs
namespace Go.Proofs.Ytkcpacgnejlpbaa.T
theorem ok98 : FOk E0 Try.f57 sWithin := FOk.of3 fun (n lo hi : Int) _ => FGA.fg ((vc98 n lo hi).mpr (by simp [Cm.within]))
theorem ok107 : FOk E0 Try.f66 sWithin := FOk.of3 fun (n lo hi : Int) _ => FGA.fg ((vc107 n lo hi).mpr (by simp [Cm.within]))
set_option maxRecDepth 100000
theorem mixed : Try.prog.follows .mixedOrders = true := by kernel_rfl
theorem kn0 : AllK Try.prog [] := trivial
theorem kn_98 : Known Try.prog 57 sWithin := known_of tabOk (kn0) mixed Try.func57 (by kernel_rfl) ok98
theorem kn_107 : Known Try.prog 66 sWithin := known_of tabOk (kn0) mixed Try.func66 (by kernel_rfl) ok107
end Go.Proofs.Ytkcpacgnejlpbaa.T
open Go Go.Am Go.Proofs
open Go.Cm (R rdOk)
namespace Go.Proofs.Ytkcpacgnejlpbaa.T
end Go.Proofs.Ytkcpacgnejlpbaa.T
open Go Go.Am Go.Proofs
open Go.Cm (R rdOk)
namespace Go.Proofs.Ytkcpacgnejlpbaa.T
end Go.Proofs.Ytkcpacgnejlpbaa.T
open Go Go.Am Go.Proofs
open Go.Cm (R rdOk)
namespace Go.Proofs.Ytkcpacgnejlpbaa.T
set_option maxRecDepth 10000
end Go.Proofs.Ytkcpacgnejlpbaa.T
open Go Go.Am Go.Proofs
open Go.Cm (R rdOk)
namespace Go.Proofs.Ytkcpacgnejlpbaa.T
end Go.Proofs.Ytkcpacgnejlpbaa.T
open Go Go.Am Go.Proofs
open Go.Cm (R rdOk)
namespace Go.Proofs.Ytkcpacgnejlpbaa.T
set_option maxRecDepth 10000
end Go.Proofs.Ytkcpacgnejlpbaa.T
open Go Go.Am Go.Proofs
open Go.Cm (R rdOk)
namespace Go.Proofs.Ytkcpacgnejlpbaa.T
set_option maxRecDepth 10000
end Go.Proofs.Ytkcpacgnejlpbaa.T
open Go Go.Am Go.Proofs
open Go.Cm (R rdOk)
namespace Go.Proofs.Ytkcpacgnejlpbaa.T
end Go.Proofs.Ytkcpacgnejlpbaa.T
open Go Go.Am Go.Proofs
open Go.Cm (R rdOk)
namespace Go.Proofs.Ytkcpacgnejlpbaa.T
set_option maxRecDepth 10000
theorem wsucc {i : Nat} (h : i ≤ 16777216) : IntKind.wrap .i64 ((i : Int) + 1) = ((i + 1 : Nat) : Int) := by rw [Cm.wrap_id (by omega) (by omega)]; omega
theorem lt_of {i n : Nat} (h : decide ((i : Int) < (n : Int)) = true) : i < n := by simpa using h
theorem ge_of {i n : Nat} (h : decide ((i : Int) < (n : Int)) = false) : n ≤ i := by simpa using h
theorem bnt {b : Bool} (h : (!b) = true) : b = false := by simpa using h
theorem bnf {b : Bool} (h : (!b) = false) : b = true := by simpa using h
theorem ok_laws_szIntS : FOk E_laws_szIntS Try.f109 (sSz kI) := FOk.of2 fun (l : Cm.Pg) (n : Int) _ => FGA.fg ((vc_laws_szIntS l n).mpr (by
  simp only [ifb_iff]
  refine ⟨fun h => ⟨?_, trivial⟩, fun h => ⟨?_, trivial⟩⟩
  · rw [Cm.szL, if_pos (by simpa using h)]
  · rw [Cm.szL, if_neg (by simpa using h)]))
theorem ok_laws_szIntSS : FOk E_laws_szIntSS Try.f74 sSzM := FOk.of2 fun (m : Cm.Mm) (n : Int) hp => FGA.fg ((vc_laws_szIntSS m n).mpr (by
  obtain ⟨⟨h1, h2⟩, h3⟩ := (show Cm.wfM m ∧ 0 ≤ n ∧ n ≤ 1048576 from hp)
  simp only [ifb_iff, imp_self, true_and, and_true, implies_true]
  have hw : IntKind.wrap .i64 (n - (m.length : Int)) = n - (m.length : Int) := Cm.wrap_id (by omega) (by omega)
  simp only [hw]
  refine ⟨fun h => ?_, fun h => ⟨⟨(0, n - (m.length : Int)), ⟨by omega, by simp at h; omega, ?_⟩, rfl, rfl⟩, fun ⟨i, a⟩ ⟨g1, g2, g3⟩ => ⟨fun hl => ?_, fun hl => ?_⟩⟩⟩
  · rw [Cm.szLL, hw, if_pos (by simpa using h)]
  · rw [Cm.szLL, hw, if_neg (by simpa using h)]; rfl
  · have hl := lt_of hl
    dsimp only at g1 g2 g3 hl ⊢
    have h : ¬ n - (m.length : Int) < 0 := by simpa using h
    rw [Cm.drop_getD [] hl, Cm.szGo] at g3
    refine ⟨by omega, fun c => ?_, fun c => ⟨(i + 1, Cm.szL (m.getD i []) a), ⟨⟨by omega, ?_, ?_⟩, by dsimp only; omega⟩, rfl, (wsucc (by omega)).symm⟩⟩
    · have c : Cm.szL (m.getD i []) a < 0 := by simpa using c
      rw [g3, if_pos c]
    · have c : ¬ Cm.szL (m.getD i []) a < 0 := by simpa using c
      rw [Cm.szL_eq g2 (h2 i hl)] at c ⊢
      split at c
      · omega
      · rw [if_neg (by assumption)]; dsimp only; omega
    · have c : ¬ Cm.szL (m.getD i []) a < 0 := by simpa using c
      rw [g3, if_neg c]
  · have hl := ge_of hl
    dsimp only at hl g3 ⊢
    rw [g3, List.drop_of_length_le hl]; rfl))
theorem ok_laws_toIntS : FOk E_laws_toIntS Try.f113 sToP := FOk.of1 fun (l : Cm.Pg) hn => FGA.fg ((vc_laws_toIntS l).mpr (by
  have hn : l.length ≤ 1048576 := hn
  simp only [ifb_iff, imp_self, true_and, and_true, implies_true]
  refine ⟨⟨by omega, ?_⟩, ⟨0, by omega, rfl, Cm.fill_zero _ _⟩, fun a h1 => ⟨fun hl => ?_, fun hl => Cm.fill_all _ l (ge_of hl)⟩⟩
  · show (l.length : Int) * ((8 : Nat) : Int) ≤ _; omega
  · have hl := lt_of hl
    exact ⟨by omega, ⟨by omega, by rw [Cm.fill_len _ _ h1]; omega⟩, a + 1, by omega, (wsucc (by omega)).symm, (Cm.fill_set _ _ l hl).symm⟩))
theorem ok_laws_toIntSS : FOk E_laws_toIntSS Try.f77 sToM := FOk.of1 fun (m : Cm.Mm) hn => FGA.fg ((vc_laws_toIntSS m).mpr (by
  obtain ⟨hn, hb⟩ := (show Cm.bd m from hn)
  simp only [ifb_iff, imp_self, true_and, and_true, implies_true]
  refine ⟨⟨by omega, ?_⟩, ⟨0, by omega, rfl, Cm.fill_zero _ _⟩, fun a h1 => ⟨fun hl => ?_, fun hl => Cm.fill_all _ m (ge_of hl)⟩⟩
  · show (m.length : Int) * ((24 : Nat) : Int) ≤ _; omega
  · have hl := lt_of hl
    exact ⟨by omega, hb a hl, ⟨by omega, by rw [Cm.fill_len _ _ h1]; omega⟩, a + 1, by omega, (wsucc (by omega)).symm, (Cm.fill_set _ _ m hl).symm⟩))
theorem ok_laws_eqIntS : FOk E_laws_eqIntS Try.f115 sEqP := FOk.of2 fun (a b : Cm.Pg) hn => FGA.fg ((vc_laws_eqIntS a b).mpr (by
  have hn : a.length ≤ 1048576 := hn
  simp only [ifb_iff, imp_self, true_and, and_true, implies_true]
  refine ⟨fun h => (Cm.eqI_len (by simpa [Int.natCast_inj] using h)).symm, fun h => ⟨⟨0, ⟨by omega, rfl⟩, rfl⟩, fun i ⟨g1, g2⟩ => ⟨fun hl => ?_, fun hl => ?_⟩⟩⟩
  · have hl := lt_of hl
    have h : a.length = b.length := by simpa [Int.natCast_inj] using h
    rw [Cm.drop_getD (0 : Int) hl, Cm.drop_getD (0 : Int) (h ▸ hl : i < b.length), Cm.eqI_cons] at g2
    refine ⟨by omega, by omega, fun c => ?_, fun c => ⟨i + 1, ⟨⟨by omega, ?_⟩, by omega⟩, (wsucc (by omega)).symm⟩⟩
    · rw [g2, decide_eq_false (by simpa using c)]; rfl
    · rw [g2, decide_eq_true (by simpa using c)]; rfl
  · have hl := ge_of hl
    have h : a.length = b.length := by simpa [Int.natCast_inj] using h
    rw [g2, List.drop_of_length_le hl, List.drop_of_length_le (by omega)]; rfl))
theorem ok_laws_eqIntSS : FOk E_laws_eqIntSS Try.f79 sEqM := FOk.of2 fun (a b : Cm.Mm) hn => FGA.fg ((vc_laws_eqIntSS a b).mpr (by
  obtain ⟨hn, hb⟩ := (show Cm.bd a from hn)
  simp only [ifb_iff, imp_self, true_and, and_true, implies_true]
  refine ⟨fun h => (Cm.eqM_len (by simpa [Int.natCast_inj] using h)).symm, fun h => ⟨⟨0, ⟨by omega, rfl⟩, rfl⟩, fun i ⟨g1, g2⟩ => ⟨fun hl => ?_, fun hl => ?_⟩⟩⟩
  · have hl := lt_of hl
    have h : a.length = b.length := by simpa [Int.natCast_inj] using h
    rw [Cm.drop_getD [] hl, Cm.drop_getD [] (h ▸ hl : i < b.length), Cm.eqM_cons] at g2
    refine ⟨by omega, by omega, hb i hl, fun c => ?_, fun c => ⟨i + 1, ⟨⟨by omega, ?_⟩, by omega⟩, (wsucc (by omega)).symm⟩⟩
    · rw [g2, bnt c]; rfl
    · rw [g2, bnf c]; rfl
  · have hl := ge_of hl
    have h : a.length = b.length := by simpa [Int.natCast_inj] using h
    rw [g2, List.drop_of_length_le hl, List.drop_of_length_le (by omega)]; rfl))
theorem ok_laws_markIntS : FOk E_laws_markIntS Try.f117 sMarkP := FOk.of2 fun (a : Cm.Pg) (k : Int) hn => FGA.fg ((vc_laws_markIntS a k).mpr (by
  obtain ⟨hn, hk⟩ := (show a.length ≤ 1048576 ∧ 0 ≤ k ∧ k ≤ 1152921504606846976 from hn)
  simp only [ifb_iff, imp_self, true_and, and_true, implies_true, List.length_append, Cm.upFrom_len, List.length_drop]
  refine ⟨⟨0, by omega, ⟨by omega, rfl⟩, rfl⟩, fun i h1 => ⟨fun hl => ?_, fun hl => ?_⟩⟩
  · have hl := lt_of hl
    have hw : IntKind.wrap .i64 (k + (i : Int) + 1) = k + ((i + 1 : Nat) : Int) := by rw [Cm.wrap_id (by omega) (by omega)]; omega
    refine ⟨by omega, i + 1, by omega, ⟨hw.symm, (wsucc (by omega)).symm⟩, ?_⟩
    rw [Cm.drop_getD (0 : Int) (show i < a.length by omega), Cm.set_mid _ _ (Cm.upFrom_len k i), Cm.upFrom_succ, List.append_assoc]; rfl
  · have hl := ge_of hl
    have e : i = a.length := by omega
    subst e; simp))
theorem ok_laws_markIntSS : FOk E_laws_markIntSS Try.f81 sMarkM := FOk.of2 fun (a : Cm.Mm) (k : Int) hn => FGA.fg ((vc_laws_markIntSS a k).mpr (by
  obtain ⟨hn, hk⟩ := (show Cm.bd a ∧ 0 ≤ k ∧ k ≤ 1099511627776 from hn)
  have hla := hn.1
  simp only [ifb_iff, imp_self, true_and, and_true, implies_true, List.length_append, Cm.markM_len, List.length_drop, List.length_take]
  refine ⟨⟨0, by omega, ⟨by simp [Cm.cnt], rfl⟩, rfl⟩, fun i h1 => ⟨fun hl => ?_, fun hl => ?_⟩⟩
  · have hl := lt_of hl
    have hl' : i < a.length := by omega
    have c1 := Cm.cnt_nn (a.take i)
    have c2 := Cm.cnt_take_le hn i
    have hml : (Cm.markM (a.take i) k).length = i := by rw [Cm.markM_len, List.length_take]; omega
    have hg : (Cm.markM (a.take i) k ++ a.drop i).getD i [] = a.getD i [] := by rw [Cm.drop_getD [] hl', Cm.getD_mid _ _ hml]
    have ht := Cm.take_succ_getD [] hl'
    rw [hg]
    refine ⟨by omega, ⟨hn.2 i hl', by omega, by omega⟩, i + 1, by omega, ⟨?_, (wsucc (by omega)).symm⟩, ?_⟩
    · rw [ht, Cm.cnt_append, Cm.cnt_one]; omega
    · rw [ht, Cm.drop_getD [] hl', Cm.set_mid _ _ hml, Cm.markM_append, List.append_assoc]; rfl
  · have hl := ge_of hl
    have e : i = a.length := by omega
    subst e; simp))
theorem ok_laws_heldIntS : FOk E_laws_heldIntS Try.f120 sHeldP := FOk.of2 fun (a : Cm.Pg) (k : Int) hn => FGA.fg ((vc_laws_heldIntS a k).mpr (by
  obtain ⟨hn, hk⟩ := (show a.length ≤ 1048576 ∧ 0 ≤ k ∧ k ≤ 1152921504606846976 from hn)
  simp only [ifb_iff, imp_self, true_and, and_true, implies_true]
  refine ⟨⟨0, ⟨by omega, rfl⟩, by omega, rfl⟩, fun i ⟨h1, h2⟩ => ⟨fun hl => ?_, fun hl => ?_⟩⟩
  · have hl := lt_of hl
    have hw : IntKind.wrap .i64 (k + (i : Int) + 1) = k + ((i + 1 : Nat) : Int) := by rw [Cm.wrap_id (by omega) (by omega)]; omega
    have ht := Cm.take_succ_getD (0 : Int) hl
    refine ⟨by omega, fun c => ?_, fun c => ⟨i + 1, ⟨⟨by omega, ?_⟩, by omega⟩, hw.symm, (wsucc (by omega)).symm⟩⟩
    · have c : a.getD i 0 ≠ k + i := by simpa using c
      unfold Cm.heldI; rw [if_neg]
      intro e; apply c
      have e2 : a.take (i + 1) = Cm.upFrom k (i + 1) := by
        rw [e]
        obtain ⟨r, hr⟩ : ∃ r, a.length = (i + 1) + r := ⟨a.length - (i + 1), by omega⟩
        rw [hr]; exact Cm.upFrom_take k (i + 1) r
      rw [ht, Cm.upFrom_succ, h2] at e2
      simpa using e2
    · have c : a.getD i 0 = k + i := by simpa using c
      rw [ht, Cm.upFrom_succ, h2, c]
  · have hl := ge_of hl
    have e : i = a.length := by omega
    subst e
    rw [List.take_length] at h2
    unfold Cm.heldI; rw [if_pos h2]))
theorem mark_take (m : Cm.Mm) (k : Int) (i : Nat) : (Cm.markM m k).take i = Cm.markM (m.take i) k := by
  induction m generalizing k i with
  | nil => simp [Cm.markM]
  | cons a m ih => cases i with
    | zero => simp [Cm.markM]
    | succ i => simp only [Cm.markM, List.take_succ_cons, ih]
theorem ok_laws_heldIntSS : FOk E_laws_heldIntSS Try.f83 sHeldM := FOk.of2 fun (a : Cm.Mm) (k : Int) hn => FGA.fg ((vc_laws_heldIntSS a k).mpr (by
  obtain ⟨hn, hk⟩ := (show Cm.bd a ∧ 0 ≤ k ∧ k ≤ 1099511627776 from hn)
  have hla := hn.1
  simp only [ifb_iff, imp_self, true_and, and_true, implies_true]
  refine ⟨⟨0, ⟨by omega, rfl⟩, by simp [Cm.cnt], rfl⟩, fun i ⟨h1, h2⟩ => ⟨fun hl => ?_, fun hl => ?_⟩⟩
  · have hl := lt_of hl
    have ht := Cm.take_succ_getD [] hl
    have c1 := Cm.cnt_nn (a.take i)
    have c2 := Cm.cnt_take_le hn i
    refine ⟨by omega, ⟨hn.2 i hl, by omega, by omega⟩, fun c => ?_, fun c => ⟨i + 1, ⟨⟨by omega, ?_⟩, by omega⟩, ?_, (wsucc (by omega)).symm⟩⟩
    all_goals unfold Cm.heldI at c
    · have c : ¬ a.getD i [] = Cm.upFrom (k + Cm.cnt (a.take i)) (a.getD i []).length := by
        intro e; rw [if_pos e] at c; simp at c; omega
      unfold Cm.heldM; rw [if_neg]
      intro e; apply c
      have e2 := mark_take a k (i + 1)
      rw [← e, ht, Cm.markM_append, ← h2] at e2
      simpa [Cm.markM] using e2
    · have c : a.getD i [] = Cm.upFrom (k + Cm.cnt (a.take i)) (a.getD i []).length := by
        apply Decidable.byContradiction; intro e; rw [if_neg e] at c; simp at c
      rw [ht, Cm.markM_append, ← h2, Cm.markM, ← c]; rfl
    · have c : a.getD i [] = Cm.upFrom (k + Cm.cnt (a.take i)) (a.getD i []).length := by
        apply Decidable.byContradiction; intro e; rw [if_neg e] at c; simp at c
      rw [ht, Cm.cnt_append, Cm.cnt_one, Cm.heldI, if_pos c]; omega
  · have hl := ge_of hl
    rw [List.take_of_length_le hl] at h2 ⊢
    unfold Cm.heldM; rw [if_pos h2]))
end Go.Proofs.Ytkcpacgnejlpbaa.T
open Go Go.Am Go.Proofs
open Go.Cm (R rdOk)
namespace Go.Proofs.Ytkcpacgnejlpbaa.T
set_option maxRecDepth 10000
theorem ok_spec_l2Copy : FOk E_spec_l2Copy Try.f95 sToM := FOk.of1 fun (m : Cm.Mm) hn => FGA.fg ((vc_spec_l2Copy m).mpr (by
  obtain ⟨hn, hb⟩ := (show Cm.bd m from hn)
  simp only [ifb_iff, imp_self, true_and, and_true, implies_true]
  refine ⟨⟨0, by omega, rfl, rfl⟩, fun a h1 => ⟨fun hl => ?_, fun hl => List.take_of_length_le (ge_of hl)⟩⟩
  have hl := lt_of hl
  have := hb a hl
  refine ⟨by omega, ?_, ?_, a + 1, by omega, (wsucc (by omega)).symm, Cm.take_succ_getD [] hl⟩
  · show (0 + (m.getD a []).length) * 8 ≤ _; omega
  · show ((m.take a).length + 1) * 24 ≤ _; rw [List.length_take]; omega))
theorem ok_impl_cloneMem : FOk E_impl_cloneMem Try.f96 sToM := FOk.of1 fun (m : Cm.Mm) hn => FGA.fg ((vc_impl_cloneMem m).mpr (by
  obtain ⟨hn, hb⟩ := (show Cm.bd m from hn)
  simp only [ifb_iff, imp_self, true_and, and_true, implies_true]
  refine ⟨⟨0, by omega, rfl, rfl⟩, fun a h1 => ⟨fun hl => ?_, fun hl => List.take_of_length_le (ge_of hl)⟩⟩
  have hl := lt_of hl
  have := hb a hl
  refine ⟨by omega, ?_, ?_, a + 1, by omega, (wsucc (by omega)).symm, Cm.take_succ_getD [] hl⟩
  · show (0 + (m.getD a []).length) * 8 ≤ _; omega
  · show ((m.take a).length + 1) * 24 ≤ _; rw [List.length_take]; omega))
theorem within_iff {n lo hi : Int} : Cm.within n lo hi = true ↔ lo ≤ n ∧ n ≤ hi := by unfold Cm.within; simp
theorem okP_of {a : Cm.Pg} {i : Nat} (h : Cm.allW a = Cm.allW (a.drop i)) (hl : i < a.length) (c : Cm.within (a.getD i 0) 0 63 = false) : Cm.okP a = false := by
  rw [Cm.drop_getD (0 : Int) hl, Cm.allW, c] at h
  rw [Cm.okP, h]; rfl
theorem okP_go {a : Cm.Pg} {i : Nat} (h : Cm.allW a = Cm.allW (a.drop i)) (hl : i < a.length) (c : Cm.within (a.getD i 0) 0 63 = true) : Cm.allW a = Cm.allW (a.drop (i + 1)) := by
  rw [Cm.drop_getD (0 : Int) hl, Cm.allW, c] at h
  rw [h]; rfl
theorem okP_end {a : Cm.Pg} {i : Nat} (h : Cm.allW a = Cm.allW (a.drop i)) (hl : a.length ≤ i) : ((a.length : Int) == 4) = Cm.okP a := by
  rw [List.drop_of_length_le hl] at h
  rw [Cm.okP, h, Cm.allW, Bool.true_and]
  by_cases e : a.length = 4
  · rw [e]; rfl
  · rw [decide_eq_false e, beq_eq_false_iff_ne]; omega
theorem ok_impl_pageOk : FOk E_impl_pageOk Try.f106 sOkP := FOk.of1 fun (a : Cm.Pg) hn => FGA.fg ((vc_impl_pageOk a).mpr (by
  have hn : a.length ≤ 1048576 := hn
  simp only [ifb_iff, imp_self, true_and, and_true, implies_true]
  refine ⟨⟨0, ⟨by omega, rfl⟩, rfl⟩, fun i ⟨h1, h2⟩ => ⟨fun hl => ?_, fun hl => okP_end h2 (ge_of hl)⟩⟩
  have hl := lt_of hl
  exact ⟨by omega, fun c => (okP_of h2 hl (bnt c)).symm, fun c => ⟨i + 1, ⟨⟨by omega, okP_go h2 hl (bnf c)⟩, by omega⟩, (wsucc (by omega)).symm⟩⟩))
theorem ok_spec_l2PageOk : FOk E_spec_l2PageOk Try.f103 sOkP := FOk.of1 fun (a : Cm.Pg) hn => FGA.fg ((vc_spec_l2PageOk a).mpr (by
  have hn : a.length ≤ 1048576 := hn
  simp only [ifb_iff, imp_self, true_and, and_true, implies_true]
  refine ⟨⟨0, ⟨by omega, rfl⟩, rfl⟩, fun i ⟨h1, h2⟩ => ⟨fun hl => ?_, fun hl => okP_end h2 (ge_of hl)⟩⟩
  have hl := lt_of hl
  exact ⟨by omega, fun c => (okP_of h2 hl (bnt c)).symm, fun c => ⟨i + 1, ⟨⟨by omega, okP_go h2 hl (bnf c)⟩, by omega⟩, (wsucc (by omega)).symm⟩⟩))
theorem okM_of {a : Cm.Mm} {i : Nat} (h : Cm.okM a = Cm.okM (a.drop i)) (hl : i < a.length) (c : Cm.okP (a.getD i []) = false) : Cm.okM a = false := by
  rw [Cm.drop_getD [] hl, Cm.okM, c] at h
  rw [h]; rfl
theorem okM_go {a : Cm.Mm} {i : Nat} (h : Cm.okM a = Cm.okM (a.drop i)) (hl : i < a.length) (c : Cm.okP (a.getD i []) = true) : Cm.okM a = Cm.okM (a.drop (i + 1)) := by
  rw [Cm.drop_getD [] hl, Cm.okM, c] at h
  rw [h]; rfl
theorem ok_impl_MemOk : FOk E_impl_MemOk Try.f72 sOkM := FOk.of1 fun (a : Cm.Mm) hn => FGA.fg ((vc_impl_MemOk a).mpr (by
  obtain ⟨hn, hb⟩ := (show Cm.bd a from hn)
  simp only [ifb_iff, imp_self, true_and, and_true, implies_true]
  refine ⟨⟨0, ⟨by omega, rfl⟩, rfl⟩, fun i ⟨h1, h2⟩ => ⟨fun hl => ?_, fun hl => by rw [h2, List.drop_of_length_le (ge_of hl)]; rfl⟩⟩
  have hl := lt_of hl
  exact ⟨by omega, hb i hl, fun c => (okM_of h2 hl (bnt c)).symm, fun c => ⟨i + 1, ⟨⟨by omega, okM_go h2 hl (bnf c)⟩, by omega⟩, (wsucc (by omega)).symm⟩⟩))
theorem ok_spec_MemOk : FOk E_spec_MemOk Try.f68 sOkM := FOk.of1 fun (a : Cm.Mm) hn => FGA.fg ((vc_spec_MemOk a).mpr (by
  obtain ⟨hn, hb⟩ := (show Cm.bd a from hn)
  simp only [ifb_iff, imp_self, true_and, and_true, implies_true]
  refine ⟨⟨0, ⟨by omega, rfl⟩, rfl⟩, fun i ⟨h1, h2⟩ => ⟨fun hl => ?_, fun hl => by rw [h2, List.drop_of_length_le (ge_of hl)]; rfl⟩⟩
  have hl := lt_of hl
  exact ⟨by omega, hb i hl, fun c => (okM_of h2 hl (bnt c)).symm, fun c => ⟨i + 1, ⟨⟨by omega, okM_go h2 hl (bnf c)⟩, by omega⟩, (wsucc (by omega)).symm⟩⟩))
theorem okG_eq (a : Cm.Mm) : (Cm.okM a && (a.length : Int) == 6) = Cm.okG a := by
  rw [Cm.okG]; congr 1
  by_cases e : a.length = 6
  · rw [e]; rfl
  · rw [decide_eq_false e, beq_eq_false_iff_ne]; omega
theorem ok_impl_guestMem : FOk E_impl_guestMem Try.f107 sOkG := FOk.of1 fun (a : Cm.Mm) hn => FGA.fg ((vc_impl_guestMem a).mpr (by
  simp only [imp_self, true_and, and_true]; exact ⟨hn, okG_eq a⟩))
theorem ok_spec_l11Guest : FOk E_spec_l11Guest Try.f69 sOkG := FOk.of1 fun (a : Cm.Mm) hn => FGA.fg ((vc_spec_l11Guest a).mpr (by
  simp only [imp_self, true_and, and_true]; exact ⟨hn, okG_eq a⟩))
end Go.Proofs.Ytkcpacgnejlpbaa.T
open Go Go.Am Go.Proofs
open Go.Cm (R rdOk)
namespace Go.Proofs.Ytkcpacgnejlpbaa.T
set_option maxRecDepth 10000
end Go.Proofs.Ytkcpacgnejlpbaa.T
open Go Go.Am Go.Proofs
open Go.Cm (R rdOk)
namespace Go.Proofs.Ytkcpacgnejlpbaa.T
set_option maxRecDepth 10000
theorem bb (b : Bool) : b = false ∨ b = true := by cases b <;> simp
theorem within_f {n lo hi : Int} (h : Cm.within n lo hi = true) : lo ≤ n ∧ n ≤ hi := within_iff.mp h
theorem okG_okM {m : Cm.Mm} (h : Cm.okG m = true) : Cm.okM m = true := by unfold Cm.okG at h; rw [Bool.and_eq_true] at h; exact h.1
theorem kn_laws_szIntS : Known Try.prog 109 (sSz kI) := known_of tabOk (kn0) mixed Try.func109 (by kernel_rfl) ok_laws_szIntS
theorem kn_laws_szIntSS : Known Try.prog 74 sSzM := known_of tabOk (AllK.cons kn0 kn_laws_szIntS) mixed Try.func74 (by kernel_rfl) ok_laws_szIntSS
theorem kn_laws_toIntS : Known Try.prog 113 sToP := known_of tabOk (kn0) mixed Try.func113 (by kernel_rfl) ok_laws_toIntS
theorem kn_laws_toIntSS : Known Try.prog 77 sToM := known_of tabOk (AllK.cons kn0 kn_laws_toIntS) mixed Try.func77 (by kernel_rfl) ok_laws_toIntSS
theorem kn_laws_eqIntS : Known Try.prog 115 sEqP := known_of tabOk (kn0) mixed Try.func115 (by kernel_rfl) ok_laws_eqIntS
theorem kn_laws_eqIntSS : Known Try.prog 79 sEqM := known_of tabOk (AllK.cons kn0 kn_laws_eqIntS) mixed Try.func79 (by kernel_rfl) ok_laws_eqIntSS
theorem kn_laws_markIntS : Known Try.prog 117 sMarkP := known_of tabOk (kn0) mixed Try.func117 (by kernel_rfl) ok_laws_markIntS
theorem kn_laws_markIntSS : Known Try.prog 81 sMarkM := known_of tabOk (AllK.cons kn0 kn_laws_markIntS) mixed Try.func81 (by kernel_rfl) ok_laws_markIntSS
theorem kn_laws_heldIntS : Known Try.prog 120 sHeldP := known_of tabOk (kn0) mixed Try.func120 (by kernel_rfl) ok_laws_heldIntS
theorem kn_laws_heldIntSS : Known Try.prog 83 sHeldM := known_of tabOk (AllK.cons kn0 kn_laws_heldIntS) mixed Try.func83 (by kernel_rfl) ok_laws_heldIntSS
theorem kn_spec_l2Copy : Known Try.prog 95 sToM := known_of tabOk (kn0) mixed Try.func95 (by kernel_rfl) ok_spec_l2Copy
theorem kn_impl_cloneMem : Known Try.prog 96 sToM := known_of tabOk (kn0) mixed Try.func96 (by kernel_rfl) ok_impl_cloneMem
theorem kn_impl_pageOk : Known Try.prog 106 sOkP := known_of tabOk (AllK.cons kn0 kn_98) mixed Try.func106 (by kernel_rfl) ok_impl_pageOk
theorem kn_spec_l2PageOk : Known Try.prog 103 sOkP := known_of tabOk (AllK.cons kn0 kn_107) mixed Try.func103 (by kernel_rfl) ok_spec_l2PageOk
theorem kn_impl_MemOk : Known Try.prog 72 sOkM := known_of tabOk (AllK.cons kn0 kn_impl_pageOk) mixed Try.func72 (by kernel_rfl) ok_impl_MemOk
theorem kn_spec_MemOk : Known Try.prog 68 sOkM := known_of tabOk (AllK.cons kn0 kn_spec_l2PageOk) mixed Try.func68 (by kernel_rfl) ok_spec_MemOk
theorem kn_impl_guestMem : Known Try.prog 107 sOkG := known_of tabOk (AllK.cons kn0 kn_impl_MemOk) mixed Try.func107 (by kernel_rfl) ok_impl_guestMem
theorem kn_spec_l11Guest : Known Try.prog 69 sOkG := known_of tabOk (AllK.cons kn0 kn_spec_MemOk) mixed Try.func69 (by kernel_rfl) ok_spec_l11Guest
end Go.Proofs.Ytkcpacgnejlpbaa.T
open Go Go.Am Go.Proofs
open Go.Cm (R rdOk)
namespace Go.Proofs.Ytkcpacgnejlpbaa.T
set_option maxRecDepth 10000
end Go.Proofs.Ytkcpacgnejlpbaa.T
open Go Go.Am Go.Proofs
open Go.Cm (R rdOk)
namespace Go.Proofs.Ytkcpacgnejlpbaa.T
set_option maxRecDepth 10000
end Go.Proofs.Ytkcpacgnejlpbaa.T
open Go Go.Am Go.Proofs
open Go.Cm (R rdOk)
namespace Go.Proofs.Ytkcpacgnejlpbaa.T
set_option maxRecDepth 10000
theorem ok_laws_szMapS : FOk E_laws_szMapS Try.f136 (sSz kE) := FOk.of2 fun (l : List Cm.E) (n : Int) _ => FGA.fg ((vc_laws_szMapS l n).mpr (by
  simp only [ifb_iff]
  refine ⟨fun h => ⟨?_, trivial⟩, fun h => ⟨?_, trivial⟩⟩
  · rw [Cm.szL, if_pos (by simpa using h)]
  · rw [Cm.szL, if_neg (by simpa using h)]))
theorem ok_laws_szShadeS : FOk E_laws_szShadeS Try.f137 (sSz kS) := FOk.of2 fun (l : List Cm.Sh) (n : Int) _ => FGA.fg ((vc_laws_szShadeS l n).mpr (by
  simp only [ifb_iff]
  refine ⟨fun h => ⟨?_, trivial⟩, fun h => ⟨?_, trivial⟩⟩
  · rw [Cm.szL, if_pos (by simpa using h)]
  · rw [Cm.szL, if_neg (by simpa using h)]))
theorem dneg {a : Int} (h : decide (a < 0) = true) : a < 0 := of_decide_eq_true h
theorem dpos {a : Int} (h : decide (a < 0) = false) : ¬ a < 0 := of_decide_eq_false h
theorem szn {t n : Int} (h : decide (Cm.szT t n < 0) = false) : ¬ n - t < 0 := fun x => of_decide_eq_false h (Cm.szT_neg.mpr x)
theorem ok_laws_szGuest : FOk E_laws_szGuest Try.f110 sSzG := FOk.of2 fun (g : Cm.Gt) (n : Int) hp => FGA.fg ((vc_laws_szGuest g n).mpr (by
  obtain ⟨⟨h1, h2, h3⟩, h4⟩ := (show Cm.wfG g ∧ 0 ≤ n ∧ n ≤ 1048576 from hp)
  have c := Cm.totM_nn g.2.1
  rw [Cm.szL_szT h4 h1]
  simp only [ifb_iff, true_and, and_true]
  refine ⟨fun h => ?_, fun h => ?_⟩
  · have h := Cm.szT_neg.mp (dneg h)
    unfold Cm.szT Cm.totG; rw [if_pos (by omega)]
  · have e := Cm.szT_pos (dpos h)
    have h := szn h
    have b : 0 ≤ n - (g.1.length : Int) ∧ n - (g.1.length : Int) ≤ 1048576 := by omega
    rw [e, Cm.szLL_szT b h2]
    refine ⟨⟨h2, b⟩, fun h' => ?_, fun h' => ?_⟩
    · have h' := Cm.szT_neg.mp (dneg h')
      unfold Cm.szT Cm.totG; rw [if_pos (by omega)]
    · have e' := Cm.szT_pos (dpos h')
      have h' := szn h'
      rw [e', Cm.szL_szT (by omega) h3]
      refine ⟨fun h'' => ?_, fun h'' => ?_⟩
      · have h'' := Cm.szT_neg.mp (dneg h'')
        unfold Cm.szT Cm.totG; rw [if_pos (by omega)]
      · have h'' := szn h''
        unfold Cm.szT Cm.totG; rw [if_neg (by omega), if_neg (by omega)]; omega))
theorem ok_laws_szGuestS : FOk E_laws_szGuestS Try.f75 sSzGs := FOk.of2 fun (l : List Cm.Gt) (n : Int) hp => FGA.fg ((vc_laws_szGuestS l n).mpr (by
  obtain ⟨⟨h1, h2⟩, h3⟩ := (show Cm.wfGs l ∧ 0 ≤ n ∧ n ≤ 1048576 from hp)
  have c := Cm.totS_nn l
  have hw : IntKind.wrap .i64 (n - (l.length : Int)) = n - (l.length : Int) := Cm.wrap_id (by omega) (by omega)
  simp only [ifb_iff, imp_self, true_and, and_true, implies_true, hw]
  refine ⟨fun h => ?_, fun h => ?_⟩
  · have h := dneg h
    unfold Cm.szT Cm.totGs; rw [if_pos (by omega)]
  · have h := dpos h
    refine ⟨⟨(0, n - (l.length : Int)), ⟨by omega, by dsimp only; omega, ?_⟩, rfl, rfl⟩, ?_⟩
    · unfold Cm.szT Cm.totGs; rw [List.drop_zero]; split <;> split <;> omega
    rintro ⟨i, a⟩ ⟨g1, g2, g3⟩
    dsimp only at g1 g2 g3 ⊢
    refine ⟨fun hl => ?_, fun hl => ?_⟩
    · have hl := lt_of hl
      have d := Cm.totS_nn (l.drop (i + 1))
      have e := Cm.totG_nn (l.getD i Cm.g0)
      rw [Cm.drop_getD Cm.g0 hl, Cm.totS] at g3
      refine ⟨by omega, ⟨h2 i hl, g2⟩, fun x => ?_, fun x => ?_⟩
      · have x := Cm.szT_neg.mp (dneg x)
        rw [g3]; unfold Cm.szT; rw [if_pos (by omega)]
      · have y := Cm.szT_pos (dpos x)
        have x := szn x
        refine ⟨(i + 1, a - Cm.totG (l.getD i Cm.g0)), ⟨⟨by omega, by dsimp only; omega, ?_⟩, by dsimp only; omega⟩, y.symm, (wsucc (by omega)).symm⟩
        rw [g3]; unfold Cm.szT; dsimp only; split <;> split <;> omega
    · have hl := ge_of hl
      rw [g3, List.drop_of_length_le hl]
      unfold Cm.szT Cm.totS; rw [if_neg (by omega)]; omega))
theorem ok_laws_szHost : FOk E_laws_szHost Try.f26 sSzH := FOk.of2 fun (h : Cm.Ho) (n : Int) hp => FGA.fg ((vc_laws_szHost h n).mpr (by
  obtain ⟨⟨h1, h2⟩, h3⟩ := (show Cm.wfH h ∧ 0 ≤ n ∧ n ≤ 1048576 from hp)
  have c := Cm.totM_nn h.1
  have d := Cm.totS_nn h.2.1
  have d' : 0 ≤ Cm.totGs h.2.1 := by unfold Cm.totGs; omega
  rw [Cm.szLL_szT h3 h1]
  simp only [ifb_iff, true_and, and_true]
  refine ⟨⟨h1, h3⟩, fun h => ?_, fun h => ?_⟩
  · have h := Cm.szT_neg.mp (dneg h)
    unfold Cm.szT Cm.totH; rw [if_pos (by omega)]
  · have e := Cm.szT_pos (dpos h)
    have h := szn h
    rw [e]
    refine ⟨⟨h2, by omega, by omega⟩, fun h' => ?_, fun h' => ?_⟩
    · have h' := Cm.szT_neg.mp (dneg h')
      unfold Cm.szT Cm.totH; rw [if_pos (by omega)]
    · have h' := szn h'
      unfold Cm.szT Cm.totH; rw [if_neg (by omega), if_neg (by omega)]; omega))
theorem ok_laws_toMap : FOk E_laws_toMap Try.f152 (sId kE) := FOk.of1 fun a _ => FGA.fg ((vc_laws_toMap a).mpr (by simp only [true_and, and_true]))
theorem ok_laws_toShade : FOk E_laws_toShade Try.f153 (sId kS) := FOk.of1 fun a _ => FGA.fg ((vc_laws_toShade a).mpr (by simp only [true_and, and_true]))
theorem ok_laws_toMapS : FOk E_laws_toMapS Try.f139 (sToL kE) := FOk.of1 fun (l : List Cm.E) hn => FGA.fg ((vc_laws_toMapS l).mpr (by
  have hn : l.length ≤ 1048576 := hn
  simp only [ifb_iff, imp_self, true_and, and_true, implies_true]
  refine ⟨⟨by omega, ?_⟩, ⟨0, by omega, rfl, Cm.fill_zero _ _⟩, fun a h1 => ⟨fun hl => ?_, fun hl => Cm.fill_all _ l (ge_of hl)⟩⟩
  · show (l.length : Int) * ((24 : Nat) : Int) ≤ _; omega
  · have hl := lt_of hl
    exact ⟨by omega, ⟨by omega, by rw [Cm.fill_len _ _ h1]; omega⟩, a + 1, by omega, (wsucc (by omega)).symm, (Cm.fill_set _ _ l hl).symm⟩))
theorem ok_laws_toShadeS : FOk E_laws_toShadeS Try.f140 (sToL kS) := FOk.of1 fun (l : List Cm.Sh) hn => FGA.fg ((vc_laws_toShadeS l).mpr (by
  have hn : l.length ≤ 1048576 := hn
  simp only [ifb_iff, imp_self, true_and, and_true, implies_true]
  refine ⟨⟨by omega, ?_⟩, ⟨0, by omega, rfl, Cm.fill_zero _ _⟩, fun a h1 => ⟨fun hl => ?_, fun hl => Cm.fill_all _ l (ge_of hl)⟩⟩
  · show (l.length : Int) * ((32 : Nat) : Int) ≤ _; omega
  · have hl := lt_of hl
    exact ⟨by omega, ⟨by omega, by rw [Cm.fill_len _ _ h1]; omega⟩, a + 1, by omega, (wsucc (by omega)).symm, (Cm.fill_set _ _ l hl).symm⟩))
theorem ok_laws_toGuest : FOk E_laws_toGuest Try.f114 sToG := FOk.of1 fun (g : Cm.Gt) hn => FGA.fg ((vc_laws_toGuest g).mpr (by
  obtain ⟨h1, h2, h3⟩ := (show Cm.bdG g from hn)
  exact ⟨h1, h2, h3, rfl, trivial⟩))
theorem ok_laws_toGuestS : FOk E_laws_toGuestS Try.f78 sToGs := FOk.of1 fun (l : List Cm.Gt) hn => FGA.fg ((vc_laws_toGuestS l).mpr (by
  obtain ⟨hn, hb⟩ := (show Cm.bdGs l from hn)
  simp only [ifb_iff, imp_self, true_and, and_true, implies_true]
  refine ⟨⟨by omega, ?_⟩, ⟨0, by omega, rfl, Cm.fill_zero _ _⟩, fun a h1 => ⟨fun hl => ?_, fun hl => Cm.fill_all _ l (ge_of hl)⟩⟩
  · show (l.length : Int) * ((72 : Nat) : Int) ≤ _; omega
  · have hl := lt_of hl
    exact ⟨by omega, hb a hl, ⟨by omega, by rw [Cm.fill_len _ _ h1]; omega⟩, a + 1, by omega, (wsucc (by omega)).symm, (Cm.fill_set _ _ l hl).symm⟩))
theorem ok_laws_toHost : FOk E_laws_toHost Try.f28 sToH := FOk.of1 fun (h : Cm.Ho) hn => FGA.fg ((vc_laws_toHost h).mpr (by
  obtain ⟨h1, h2⟩ := (show Cm.bdH h from hn)
  exact ⟨h1, h2, rfl, trivial⟩))
theorem ok_laws_eqMap : FOk E_laws_eqMap Try.f154 sEqE := FOk.of2 fun (a b : Cm.E) _ => FGA.fg ((vc_laws_eqMap a b).mpr (by
  obtain ⟨a1, a2, a3⟩ := a; obtain ⟨b1, b2, b3⟩ := b
  simp only [ifb_iff, Cm.eqE, and_true]
  by_cases h2 : a2 = b2 <;> cases a1 <;> cases b1 <;> cases a3 <;> cases b3 <;> simp [h2]))
theorem ok_laws_eqShade : FOk E_laws_eqShade Try.f155 sEqS := FOk.of2 fun (a b : Cm.Sh) _ => FGA.fg ((vc_laws_eqShade a b).mpr (by
  obtain ⟨a1, a2, a3, a4⟩ := a; obtain ⟨b1, b2, b3, b4⟩ := b
  simp only [ifb_iff, Cm.eqS, and_true]
  by_cases h2 : a2 = b2 <;> by_cases h3 : a3 = b3 <;> cases a1 <;> cases b1 <;> cases a4 <;> cases b4 <;> simp [h2, h3]))
theorem ok_laws_eqMapS : FOk E_laws_eqMapS Try.f141 sEqEs := FOk.of2 fun (a b : List Cm.E) hn => FGA.fg ((vc_laws_eqMapS a b).mpr (by
  have hn : a.length ≤ 1048576 := hn
  simp only [ifb_iff, imp_self, true_and, and_true, implies_true]
  refine ⟨fun h => (Cm.eqEs_len (by simpa [Int.natCast_inj] using h)).symm, fun h => ⟨⟨0, ⟨by omega, rfl⟩, rfl⟩, fun i ⟨g1, g2⟩ => ⟨fun hl => ?_, fun hl => ?_⟩⟩⟩
  · have hl := lt_of hl
    have h : a.length = b.length := by simpa [Int.natCast_inj] using h
    rw [Cm.drop_getD Cm.e0 hl, Cm.drop_getD Cm.e0 (h ▸ hl : i < b.length), Cm.eqEs_cons] at g2
    refine ⟨by omega, by omega, fun c => ?_, fun c => ⟨i + 1, ⟨⟨by omega, ?_⟩, by omega⟩, (wsucc (by omega)).symm⟩⟩
    · rw [g2, bnt c]; rfl
    · rw [g2, bnf c]; rfl
  · have hl := ge_of hl
    have h : a.length = b.length := by simpa [Int.natCast_inj] using h
    rw [g2, List.drop_of_length_le hl, List.drop_of_length_le (by omega)]; rfl))
theorem ok_laws_eqShadeS : FOk E_laws_eqShadeS Try.f142 sEqSs := FOk.of2 fun (a b : List Cm.Sh) hn => FGA.fg ((vc_laws_eqShadeS a b).mpr (by
  have hn : a.length ≤ 1048576 := hn
  simp only [ifb_iff, imp_self, true_and, and_true, implies_true]
  refine ⟨fun h => (Cm.eqSs_len (by simpa [Int.natCast_inj] using h)).symm, fun h => ⟨⟨0, ⟨by omega, rfl⟩, rfl⟩, fun i ⟨g1, g2⟩ => ⟨fun hl => ?_, fun hl => ?_⟩⟩⟩
  · have hl := lt_of hl
    have h : a.length = b.length := by simpa [Int.natCast_inj] using h
    rw [Cm.drop_getD Cm.s0 hl, Cm.drop_getD Cm.s0 (h ▸ hl : i < b.length), Cm.eqSs_cons] at g2
    refine ⟨by omega, by omega, fun c => ?_, fun c => ⟨i + 1, ⟨⟨by omega, ?_⟩, by omega⟩, (wsucc (by omega)).symm⟩⟩
    · rw [g2, bnt c]; rfl
    · rw [g2, bnf c]; rfl
  · have hl := ge_of hl
    have h : a.length = b.length := by simpa [Int.natCast_inj] using h
    rw [g2, List.drop_of_length_le hl, List.drop_of_length_le (by omega)]; rfl))
theorem ok_laws_eqGuest : FOk E_laws_eqGuest Try.f116 sEqG := FOk.of2 fun (a b : Cm.Gt) hn => FGA.fg ((vc_laws_eqGuest a b).mpr (by
  obtain ⟨h1, h2, h3⟩ := (show Cm.bdG a from hn)
  simp only [ifb_iff, Cm.eqG_eq, and_true]
  cases e1 : Cm.eqEs a.1 b.1 <;> cases e2 : Cm.eqM a.2.1 b.2.1 <;> cases e3 : Cm.eqSs a.2.2 b.2.2 <;> simp [h1, h2, h3]))
theorem ok_laws_eqGuestS : FOk E_laws_eqGuestS Try.f80 sEqGs := FOk.of2 fun (a b : List Cm.Gt) hn => FGA.fg ((vc_laws_eqGuestS a b).mpr (by
  obtain ⟨hn, hb⟩ := (show Cm.bdGs a from hn)
  simp only [ifb_iff, imp_self, true_and, and_true, implies_true]
  refine ⟨fun h => (Cm.eqGs_len (by simpa [Int.natCast_inj] using h)).symm, fun h => ⟨⟨0, ⟨by omega, rfl⟩, rfl⟩, fun i ⟨g1, g2⟩ => ⟨fun hl => ?_, fun hl => ?_⟩⟩⟩
  · have hl := lt_of hl
    have h : a.length = b.length := by simpa [Int.natCast_inj] using h
    rw [Cm.drop_getD Cm.g0 hl, Cm.drop_getD Cm.g0 (h ▸ hl : i < b.length), Cm.eqGs_cons] at g2
    refine ⟨by omega, by omega, hb i hl, fun c => ?_, fun c => ⟨i + 1, ⟨⟨by omega, ?_⟩, by omega⟩, (wsucc (by omega)).symm⟩⟩
    · rw [g2, bnt c]; rfl
    · rw [g2, bnf c]; rfl
  · have hl := ge_of hl
    have h : a.length = b.length := by simpa [Int.natCast_inj] using h
    rw [g2, List.drop_of_length_le hl, List.drop_of_length_le (by omega)]; unfold Cm.eqGs; simp))
theorem ok_laws_eqHost : FOk E_laws_eqHost Try.f29 sEqH := FOk.of2 fun (a b : Cm.Ho) hn => FGA.fg ((vc_laws_eqHost a b).mpr (by
  obtain ⟨h1, h2⟩ := (show Cm.bdH a from hn)
  simp only [ifb_iff, Cm.eqH_eq, and_true]
  cases e1 : Cm.eqM a.1 b.1 <;> cases e2 : Cm.eqGs a.2.1 b.2.1 <;> by_cases e3 : a.2.2 = b.2.2 <;> simp [h1, h2, e3]))
theorem ok_laws_markMapS : FOk E_laws_markMapS Try.f118 sMarkEs := FOk.of2 fun (a : List Cm.E) (k : Int) hn => FGA.fg ((vc_laws_markMapS a k).mpr (by
  obtain ⟨hn, hk⟩ := (show a.length ≤ 1048576 ∧ 0 ≤ k ∧ k ≤ 1099511627776 from hn)
  simp only [ifb_iff, imp_self, true_and, and_true, implies_true, Cm.modAt_len, List.length_append, Cm.mkEs_len, List.length_drop]
  refine ⟨⟨0, by omega, ⟨by omega, rfl⟩, rfl⟩, fun i h1 => ⟨fun hl => ?_, fun hl => ?_⟩⟩
  · have hl := lt_of hl
    have hl' : i < a.length := by omega
    have w1 : IntKind.wrap .i64 (k + 3 * (i : Int) + 1) = k + 3 * (i : Int) + 1 := Cm.wrap_id (by omega) (by omega)
    have w2 : IntKind.wrap .i64 (k + 3 * (i : Int) + 1 + 1) = k + 3 * (i : Int) + 1 + 1 := Cm.wrap_id (by omega) (by omega)
    have w3 : IntKind.wrap .i64 (k + 3 * (i : Int) + 1 + 1 + 1) = k + 3 * (i : Int) + 1 + 1 + 1 := Cm.wrap_id (by omega) (by omega)
    simp only [w1, w2, w3]
    rw [Cm.drop_getD Cm.e0 hl']
    simp only [Cm.modAt_mid _ _ _ (Cm.mkEs_len k i)]
    refine ⟨by decide, by omega, by omega, by decide, by omega, i + 1, by omega, ⟨by omega, (wsucc (by omega)).symm⟩, ?_⟩
    rw [Cm.mkEs_snoc, List.append_assoc, Cm.tmod3 (by omega), Cm.tmod3 (by omega)]
    simp only [Int.add_assoc]; rfl
  · have hl := ge_of hl
    have e : i = a.length := by omega
    subst e; simp))
theorem ok_laws_markShadeS : FOk E_laws_markShadeS Try.f119 sMarkSs := FOk.of2 fun (a : List Cm.Sh) (k : Int) hn => FGA.fg ((vc_laws_markShadeS a k).mpr (by
  obtain ⟨hn, hk⟩ := (show a.length ≤ 1048576 ∧ 0 ≤ k ∧ k ≤ 1099511627776 from hn)
  simp only [ifb_iff, imp_self, true_and, and_true, implies_true, Cm.modAt_len, List.length_append, Cm.mkSs_len, List.length_drop]
  refine ⟨⟨0, by omega, ⟨by omega, rfl⟩, rfl⟩, fun i h1 => ⟨fun hl => ?_, fun hl => ?_⟩⟩
  · have hl := lt_of hl
    have hl' : i < a.length := by omega
    have w1 : IntKind.wrap .i64 (k + 4 * (i : Int) + 1) = k + 4 * (i : Int) + 1 := Cm.wrap_id (by omega) (by omega)
    have w2 : IntKind.wrap .i64 (k + 4 * (i : Int) + 1 + 1) = k + 4 * (i : Int) + 1 + 1 := Cm.wrap_id (by omega) (by omega)
    have w3 : IntKind.wrap .i64 (k + 4 * (i : Int) + 1 + 1 + 1) = k + 4 * (i : Int) + 1 + 1 + 1 := Cm.wrap_id (by omega) (by omega)
    have w4 : IntKind.wrap .i64 (k + 4 * (i : Int) + 1 + 1 + 1 + 1) = k + 4 * (i : Int) + 1 + 1 + 1 + 1 := Cm.wrap_id (by omega) (by omega)
    simp only [w1, w2, w3, w4]
    rw [Cm.drop_getD Cm.s0 hl']
    simp only [Cm.modAt_mid _ _ _ (Cm.mkSs_len k i)]
    refine ⟨by decide, by omega, by omega, by omega, by decide, by omega, i + 1, by omega, ⟨by omega, (wsucc (by omega)).symm⟩, ?_⟩
    rw [Cm.mkSs_snoc, List.append_assoc, Cm.tmod3 (by omega), Cm.tmod3 (by omega)]
    simp only [Int.add_assoc]; rfl
  · have hl := ge_of hl
    have e : i = a.length := by omega
    subst e; simp))
theorem ok_laws_heldMapS : FOk E_laws_heldMapS Try.f121 sHeldEs := FOk.of2 fun (a : List Cm.E) (k : Int) hn => FGA.fg ((vc_laws_heldMapS a k).mpr (by
  obtain ⟨⟨hn, ha⟩, hk⟩ := (show (a.length ≤ 1048576 ∧ a = Cm.mkEs k a.length) ∧ 0 ≤ k ∧ k ≤ 1099511627776 from hn)
  simp only [ifb_iff, imp_self, true_and, and_true, implies_true]
  refine ⟨⟨0, by omega, by omega, rfl⟩, fun i h1 => ⟨fun hl => ?_, fun hl => ?_⟩⟩
  · have hl := lt_of hl
    have w1 : IntKind.wrap .i64 (k + 3 * (i : Int) + 1) = k + 3 * (i : Int) + 1 := Cm.wrap_id (by omega) (by omega)
    have w2 : IntKind.wrap .i64 (k + 3 * (i : Int) + 1 + 1) = k + 3 * (i : Int) + 1 + 1 := Cm.wrap_id (by omega) (by omega)
    have w3 : IntKind.wrap .i64 (k + 3 * (i : Int) + 1 + 1 + 1) = k + 3 * (i : Int) + 1 + 1 + 1 := Cm.wrap_id (by omega) (by omega)
    have hg : a.getD i Cm.e0 = (Cm.m3 (k + 3 * i), k + 3 * i + 1, Cm.m3 (k + 3 * i + 2)) := by rw [ha, Cm.mkEs_get hl]
    simp only [w1, w2, w3]
    rw [hg, Cm.tmod3 (by omega), Cm.tmod3 (by omega)]
    simp only [Int.add_assoc, Int.reduceAdd, bne_self_eq_false, beq_self_eq_true, Bool.not_true, Bool.false_eq_true, false_implies, true_and, forall_const]
    refine ⟨by omega, by decide, by omega, by omega, by decide, i + 1, by omega, by omega, (wsucc (by omega)).symm⟩
  · have hl := ge_of hl
    have e : i = a.length := by omega
    subst e; rfl))
theorem ok_laws_heldShadeS : FOk E_laws_heldShadeS Try.f122 sHeldSs := FOk.of2 fun (a : List Cm.Sh) (k : Int) hn => FGA.fg ((vc_laws_heldShadeS a k).mpr (by
  obtain ⟨⟨hn, ha⟩, hk⟩ := (show (a.length ≤ 1048576 ∧ a = Cm.mkSs k a.length) ∧ 0 ≤ k ∧ k ≤ 1099511627776 from hn)
  simp only [ifb_iff, imp_self, true_and, and_true, implies_true]
  refine ⟨⟨0, by omega, by omega, rfl⟩, fun i h1 => ⟨fun hl => ?_, fun hl => ?_⟩⟩
  · have hl := lt_of hl
    have w1 : IntKind.wrap .i64 (k + 4 * (i : Int) + 1) = k + 4 * (i : Int) + 1 := Cm.wrap_id (by omega) (by omega)
    have w2 : IntKind.wrap .i64 (k + 4 * (i : Int) + 1 + 1) = k + 4 * (i : Int) + 1 + 1 := Cm.wrap_id (by omega) (by omega)
    have w3 : IntKind.wrap .i64 (k + 4 * (i : Int) + 1 + 1 + 1) = k + 4 * (i : Int) + 1 + 1 + 1 := Cm.wrap_id (by omega) (by omega)
    have w4 : IntKind.wrap .i64 (k + 4 * (i : Int) + 1 + 1 + 1 + 1) = k + 4 * (i : Int) + 1 + 1 + 1 + 1 := Cm.wrap_id (by omega) (by omega)
    have hg : a.getD i Cm.s0 = (Cm.m3 (k + 4 * i), k + 4 * i + 1, k + 4 * i + 2, Cm.m3 (k + 4 * i + 3)) := by rw [ha, Cm.mkSs_get hl]
    simp only [w1, w2, w3, w4]
    rw [hg, Cm.tmod3 (by omega), Cm.tmod3 (by omega)]
    simp only [Int.add_assoc, Int.reduceAdd, bne_self_eq_false, beq_self_eq_true, Bool.not_true, Bool.false_eq_true, false_implies, true_and, forall_const]
    refine ⟨by omega, by decide, by omega, by omega, by omega, by decide, i + 1, by omega, by omega, (wsucc (by omega)).symm⟩
  · have hl := ge_of hl
    have e : i = a.length := by omega
    subst e; rfl))
end Go.Proofs.Ytkcpacgnejlpbaa.T
open Go Go.Am Go.Proofs
open Go.Cm (R rdOk)
namespace Go.Proofs.Ytkcpacgnejlpbaa.T
set_option maxRecDepth 10000
theorem ok_laws_markGuestS : FOk E_laws_markGuestS Try.f82 sMarkGs := FOk.of2 fun (a : List Cm.Gt) (k : Int) hn => FGA.fg ((vc_laws_markGuestS a k).mpr (by
  obtain ⟨⟨hb, ht⟩, hk⟩ := (show (Cm.bdGs a ∧ Cm.totGs a ≤ 1048576) ∧ 0 ≤ k ∧ k ≤ 1073741824 from hn)
  have hn := hb.1
  simp only [ifb_iff, imp_self, true_and, and_true, implies_true, Cm.modAt_len, List.length_append, Cm.mkGs_len, List.length_drop, List.length_take]
  refine ⟨⟨0, by omega, ⟨by simp [Cm.cntS], rfl⟩, rfl⟩, fun i h1 => ⟨fun hl => ?_, fun hl => ?_⟩⟩
  · have hl := lt_of hl
    have hl' : i < a.length := by omega
    have hml : (Cm.mkGs (a.take i) k).length = i := by rw [Cm.mkGs_len, List.length_take]; omega
    have c1 := Cm.cntS_nn (a.take i)
    have c2 := Cm.cntS_take a ht i
    obtain ⟨b1, b2, b3⟩ := hb.2 i hl'
    have c3 := Cm.totS_get hl'
    have hta := Cm.take_succ_getD Cm.g0 hl'
    have hda := Cm.drop_getD Cm.g0 hl'
    generalize a.getD i Cm.g0 = g at b1 b2 b3 c3 hta hda
    have c4 := Cm.cnt_nn g.2.1
    unfold Cm.totGs at ht
    unfold Cm.totG Cm.totM at c3
    rw [hda]
    simp only [Cm.modAt_mid _ _ _ hml, Cm.getD_mid _ _ hml]
    refine ⟨by omega, ⟨b1, by omega, by omega⟩, by omega, ⟨b2, by omega, by omega⟩, by omega, ⟨b3, by omega, by omega⟩, i + 1, by omega, ⟨?_, (wsucc (by omega)).symm⟩, ?_⟩
    · rw [hta, Cm.cntS_append, Cm.cntS_one]; unfold Cm.cntG; omega
    · rw [hta, Cm.mkGs_append, List.append_assoc]; rfl
  · have hl := ge_of hl
    have e : i = a.length := by omega
    subst e; simp))
theorem ok_laws_heldGuestS : FOk E_laws_heldGuestS Try.f84 sHeldGs := FOk.of2 fun (a : List Cm.Gt) (k : Int) hn => FGA.fg ((vc_laws_heldGuestS a k).mpr (by
  obtain ⟨⟨⟨hb, ht⟩, ha⟩, hk⟩ := (show ((Cm.bdGs a ∧ Cm.totGs a ≤ 1048576) ∧ a = Cm.mkGs a k) ∧ 0 ≤ k ∧ k ≤ 1073741824 from hn)
  have hn := hb.1
  simp only [ifb_iff, imp_self, true_and, and_true, implies_true]
  refine ⟨⟨0, by omega, by simp [Cm.cntS], rfl⟩, fun i h1 => ⟨fun hl => ?_, fun hl => ?_⟩⟩
  · have hl := lt_of hl
    have c1 := Cm.cntS_nn (a.take i)
    have c2 := Cm.cntS_take a ht i
    obtain ⟨b1, b2, b3⟩ := hb.2 i hl
    have c3 := Cm.totS_get hl
    have hta := Cm.take_succ_getD Cm.g0 hl
    have hg : a.getD i Cm.g0 = Cm.mkG (a.getD i Cm.g0) (k + Cm.cntS (a.take i)) := by
      have := Cm.mkGs_get (k := k) hl
      rw [← ha] at this; exact this
    generalize a.getD i Cm.g0 = g at b1 b2 b3 c3 hta hg ⊢
    generalize hc : Cm.cntS (a.take i) = c at c1 c2 hg ⊢
    have c4 := Cm.cnt_nn g.2.1
    unfold Cm.totGs at ht
    unfold Cm.totG Cm.totM at c3
    have e1 : g.1 = Cm.mkEs (k + c) g.1.length := congrArg Prod.fst hg
    have e2 : g.2.1 = Cm.markM g.2.1 (k + c + 3 * (g.1.length : Int)) := congrArg (fun x => x.2.1) hg
    have e3 : g.2.2 = Cm.mkSs (k + c + 3 * (g.1.length : Int) + Cm.cnt g.2.1) g.2.2.length := congrArg (fun x => x.2.2) hg
    have eh : Cm.heldM g.2.1 (k + c + 3 * (g.1.length : Int)) = k + c + 3 * (g.1.length : Int) + Cm.cnt g.2.1 := by unfold Cm.heldM; rw [if_pos e2]
    rw [eh]
    refine ⟨by omega, ⟨⟨b1, e1⟩, by omega, by omega⟩, fun x => absurd (dneg x) (by omega), fun _ => ⟨by omega, ⟨b2, by omega, by omega⟩, fun x => absurd (dneg x) (by omega), fun _ => ⟨by omega, ⟨⟨b3, e3⟩, by omega, by omega⟩, fun x => absurd (dneg x) (by omega), fun _ => ⟨i + 1, by omega, ?_, (wsucc (by omega)).symm⟩⟩⟩⟩
    rw [hta, Cm.cntS_append, Cm.cntS_one, hc]; unfold Cm.cntG; omega
  · have hl := ge_of hl
    rw [List.take_of_length_le hl]))
theorem ok_laws_markHost : FOk E_laws_markHost Try.f30 sMarkH := FOk.of2 fun (a : Cm.Ho) (k : Int) hn => FGA.fg ((vc_laws_markHost a k).mpr (by
  obtain ⟨⟨⟨h1, h2⟩, ht⟩, hk⟩ := (show (Cm.bdH a ∧ Cm.totH a ≤ 1048576) ∧ 0 ≤ k ∧ k ≤ 1048576 from hn)
  have c := Cm.cnt_nn a.1
  have d := Cm.totS_nn a.2.1
  unfold Cm.totH Cm.totM Cm.totGs at ht
  refine ⟨⟨h1, by omega, by omega⟩, ⟨⟨h2, by unfold Cm.totGs; omega⟩, by omega, by omega⟩, by unfold Cm.cntH; omega, rfl, rfl, trivial⟩))
theorem ok_laws_heldHost : FOk E_laws_heldHost Try.f31 sHeldH := FOk.of2 fun (a : Cm.Ho) (k : Int) hn => FGA.fg ((vc_laws_heldHost a k).mpr (by
  obtain ⟨⟨⟨⟨h1, h2⟩, ht⟩, ha⟩, hk⟩ := (show ((Cm.bdH a ∧ Cm.totH a ≤ 1048576) ∧ a = Cm.mkH a k) ∧ 0 ≤ k ∧ k ≤ 1048576 from hn)
  have c := Cm.cnt_nn a.1
  have d := Cm.totS_nn a.2.1
  have f := Cm.cntS_nn a.2.1
  unfold Cm.totH Cm.totM Cm.totGs at ht
  have e1 : a.1 = Cm.markM a.1 k := congrArg Prod.fst ha
  have e2 : a.2.1 = Cm.mkGs a.2.1 (k + Cm.cnt a.1) := congrArg (fun x => x.2.1) ha
  have eh : Cm.heldM a.1 k = k + Cm.cnt a.1 := by unfold Cm.heldM; rw [if_pos e1]
  rw [eh]
  simp only [ifb_iff, and_true]
  refine ⟨⟨h1, by omega, by omega⟩, fun x => absurd (dneg x) (by omega), fun _ => ⟨⟨⟨⟨h2, by unfold Cm.totGs; omega⟩, e2⟩, by omega, by omega⟩, fun x => absurd (dneg x) (by omega), fun _ => by unfold Cm.cntH; omega⟩⟩))
theorem use_step {m : Cm.E} {f : Int} (l : List Cm.E) (c : (m.1 && m.2.1 == f) = true) : Cm.useM f (m :: l) = 1 + Cm.useM f l := by
  rw [Bool.and_eq_true, beq_iff_eq] at c; rw [Cm.useM, if_pos c]
theorem use_skip {m : Cm.E} {f : Int} (l : List Cm.E) (c : (m.1 && m.2.1 == f) = false) : Cm.useM f (m :: l) = Cm.useM f l := by
  rw [Cm.useM, if_neg]
  · omega
  · intro h; rw [h.1, h.2] at c; simp at c
theorem ok_impl_Host_many : FOk E_impl_Host_many Try.f54 sUsers := FOk.of2 fun (h : Cm.Ho) (f : Int) hn => FGA.fg ((vc_impl_Host_many h f).mpr (by
  obtain ⟨_, hb1, hb2⟩ := (show Cm.bdH h from hn)
  simp only [ifb_iff, imp_self, true_and, and_true, implies_true]
  refine ⟨⟨(0, 0), ⟨by omega, by omega, by simp⟩, rfl, rfl⟩, ?_⟩
  rintro ⟨i, n⟩ ⟨g1, g2, g3⟩
  dsimp only at g1 g2 g3 ⊢
  refine ⟨fun hl => ?_, fun hl => ?_⟩
  · have hl := lt_of hl
    have hbi := (hb2 i hl).1
    rw [Cm.drop_getD Cm.g0 hl, Cm.useG] at g3
    generalize h.2.1.getD i Cm.g0 = g at g3 hbi ⊢
    refine ⟨by omega, ⟨(0, n), ⟨by omega, by dsimp only; omega, by rw [g3]; simp; omega⟩, rfl, rfl⟩, ?_⟩
    rintro ⟨j, q⟩ ⟨r1, r2, r3⟩
    dsimp only at r1 r2 r3 ⊢
    refine ⟨fun hj => ?_, fun hj => ?_⟩
    · have hj := lt_of hj
      rw [Cm.drop_getD Cm.e0 hj] at r3
      generalize g.1.getD j Cm.e0 = m at r3 ⊢
      have hw : IntKind.wrap .i64 (q + 1) = q + 1 := Cm.wrap_id (by omega) (by omega)
      refine ⟨by omega, fun c => ?_, fun c => ?_⟩
      · rw [use_step _ c] at r3
        exact ⟨(j + 1, q + 1), ⟨⟨by omega, by dsimp only; omega, by dsimp only; omega⟩, by dsimp only; omega⟩, hw.symm, (wsucc (by omega)).symm⟩
      · rw [use_skip _ c] at r3
        exact ⟨(j + 1, q), ⟨⟨by omega, by dsimp only; omega, by dsimp only; omega⟩, by dsimp only; omega⟩, rfl, (wsucc (by omega)).symm⟩
    · have hj := ge_of hj
      rw [List.drop_of_length_le hj, Cm.useM] at r3
      exact ⟨(i + 1, q), ⟨⟨by omega, by dsimp only; omega, by dsimp only; omega⟩, by dsimp only; omega⟩, rfl, (wsucc (by omega)).symm⟩
  · have hl := ge_of hl
    rw [List.drop_of_length_le hl, Cm.useG] at g3
    unfold Cm.users; omega))
theorem ok_spec_l12Users : FOk E_spec_l12Users Try.f105 sUsers := FOk.of2 fun (h : Cm.Ho) (f : Int) hn => FGA.fg ((vc_spec_l12Users h f).mpr (by
  obtain ⟨_, hb1, hb2⟩ := (show Cm.bdH h from hn)
  simp only [ifb_iff, imp_self, true_and, and_true, implies_true]
  refine ⟨⟨(0, 0), ⟨by omega, by omega, by simp [Cm.users]⟩, rfl, rfl⟩, ?_⟩
  rintro ⟨i, n⟩ ⟨g1, g2, g3⟩
  dsimp only at g1 g2 g3 ⊢
  refine ⟨fun hl => ?_, fun hl => ?_⟩
  · have hl := lt_of hl
    have hbi := (hb2 i hl).1
    rw [Cm.drop_getD Cm.g0 hl, Cm.useG] at g3
    generalize h.2.1.getD i Cm.g0 = g at g3 hbi ⊢
    refine ⟨⟨(0, n), ⟨⟨by omega, by omega⟩, by dsimp only; omega, by rw [g3]; simp; omega⟩, rfl, rfl⟩, ?_⟩
    rintro ⟨j, q⟩ ⟨⟨r0, r1⟩, r2, r3⟩
    dsimp only at r1 r2 r3 ⊢
    refine ⟨by omega, fun hj => ?_, fun hj => ?_⟩
    · have hj := lt_of hj
      rw [Cm.drop_getD Cm.e0 hj] at r3
      generalize g.1.getD j Cm.e0 = m at r3 ⊢
      have hw : IntKind.wrap .i64 (q + 1) = q + 1 := Cm.wrap_id (by omega) (by omega)
      refine ⟨by omega, by omega, fun _ => by omega, fun _ => by omega, fun c => ?_, fun c => ?_⟩
      · rw [use_step _ c] at r3
        exact ⟨(j + 1, q + 1), ⟨⟨⟨by omega, by omega⟩, by dsimp only; omega, by dsimp only; omega⟩, by dsimp only; omega⟩, hw.symm, (wsucc (by omega)).symm⟩
      · rw [use_skip _ c] at r3
        exact ⟨(j + 1, q), ⟨⟨⟨by omega, by omega⟩, by dsimp only; omega, by dsimp only; omega⟩, by dsimp only; omega⟩, rfl, (wsucc (by omega)).symm⟩
    · have hj := ge_of hj
      rw [List.drop_of_length_le hj, Cm.useM] at r3
      exact ⟨(i + 1, q), ⟨⟨by omega, by dsimp only; omega, by dsimp only; omega⟩, by dsimp only; omega⟩, rfl, (wsucc (by omega)).symm⟩
  · have hl := ge_of hl
    rw [List.drop_of_length_le hl, Cm.useG] at g3
    omega))
theorem ok_impl_zeros_1 : FOk E_impl_zeros_1 Try.f135 sNZ := FOk.of1 fun (w : Int) _ => FGA.fg ((vc_impl_zeros_1 w).mpr (by simp only [and_true]))
theorem ok_slices_IndexFunc_int_int : FOk E_slices_IndexFunc_int_int Try.f151 (sIndex 135) := FOk.of1 fun (a : Cm.Pg) hn => FGA.fg ((vc_slices_IndexFunc_int_int a).mpr (by
  have hn : a.length ≤ 1048576 := hn
  simp only [ifb_iff, imp_self, true_and, and_true, implies_true]
  refine ⟨⟨0, ⟨by omega, rfl⟩, rfl⟩, fun i ⟨h1, h2⟩ => ⟨fun hl => ?_, fun hl => ?_⟩⟩
  · have hl := lt_of hl
    rw [Cm.drop_getD (0 : Int) hl, Cm.idxNZ] at h2
    refine ⟨by omega, fun c => ?_, fun c => ⟨i + 1, ⟨⟨by omega, ?_⟩, by omega⟩, (wsucc (by omega)).symm⟩⟩
    · rw [h2, if_neg (by simpa using c)]
    · rw [h2, if_pos (by simpa using c)]; rfl
  · have hl := ge_of hl
    rw [h2, List.drop_of_length_le hl]; rfl))
theorem idx_blank : ∀ (a : Cm.Pg) (i : Int), 0 ≤ i → decide (Cm.idxNZ a i ≥ 0) = !Cm.blank a
  | [], i, _ => rfl
  | w :: a, i, h => by
    rw [Cm.idxNZ, Cm.blank]
    by_cases c : w = 0
    · rw [if_pos c, idx_blank a (i + 1) (by omega), c]; rfl
    · rw [if_neg c, decide_eq_true h, beq_eq_false_iff_ne.mpr c]; rfl
theorem ok_slices_ContainsFunc_int_int : FOk E_slices_ContainsFunc_int_int Try.f134 (sContains 135) := FOk.of1 fun (a : Cm.Pg) hn => FGA.fg ((vc_slices_ContainsFunc_int_int a).mpr ⟨hn, idx_blank a 0 (by omega), trivial⟩)
theorem ok_impl_zeros : FOk E_impl_zeros Try.f108 sBlank := FOk.of1 fun (a : Cm.Pg) hn => FGA.fg ((vc_impl_zeros a).mpr ⟨hn, by simp, trivial⟩)
theorem ok_spec_l12Blank : FOk E_spec_l12Blank Try.f104 sBlank := FOk.of1 fun (a : Cm.Pg) hn => FGA.fg ((vc_spec_l12Blank a).mpr (by
  have hn : a.length ≤ 1048576 := hn
  simp only [ifb_iff, imp_self, true_and, and_true, implies_true]
  refine ⟨⟨0, ⟨by omega, rfl⟩, rfl⟩, fun i ⟨h1, h2⟩ => ⟨fun hl => ?_, fun hl => ?_⟩⟩
  · have hl := lt_of hl
    rw [Cm.drop_getD (0 : Int) hl, Cm.blank] at h2
    refine ⟨by omega, fun c => ?_, fun c => ⟨i + 1, ⟨⟨by omega, ?_⟩, by omega⟩, (wsucc (by omega)).symm⟩⟩
    · rw [h2, beq_eq_false_iff_ne.mpr (by simpa using c)]; rfl
    · rw [h2, beq_iff_eq.mpr (by simpa using c)]; rfl
  · have hl := ge_of hl
    rw [h2, List.drop_of_length_le hl]; rfl))
theorem ok_spec_l12MapOk : FOk E_spec_l12MapOk Try.f70 sMapOk := FOk.of3 fun (h : Cm.Ho) (m : Cm.E) (d : Cm.Pg) hn => FGA.fg ((vc_spec_l12MapOk h m d).mpr (by
  obtain ⟨hb, hd, hu⟩ := (show Cm.bdH h ∧ d.length ≤ 1048576 ∧ (m.1 = true → 1 ≤ Cm.users h m.2.1) from hn)
  obtain ⟨a, f, w⟩ := m
  simp only [ifb_iff, Cm.mapOk]
  cases a
  · simp [Cm.eqE, Cm.e0]
    cases w <;> by_cases e : f = 0 <;> simp [e]
  · have hu : 1 ≤ Cm.users h f := hu rfl
    have e : (Cm.users h f == 1) = decide (Cm.users h f ≤ 1) := by
      by_cases c : Cm.users h f = 1
      · rw [c]; rfl
      · rw [beq_eq_false_iff_ne.mpr c, decide_eq_false (by omega)]
    simp only [e]
    rcases bb (Cm.within f 0 7) with e1 | e1 <;> rcases bb (Cm.blank d) with e2 | e2 <;> cases w <;> simp [e1, e2, hd, hb]))
theorem ok_spec_l12ShadeOk : FOk E_spec_l12ShadeOk Try.f71 sShOk := FOk.of2 fun (g : Cm.Gt) (s : Cm.Sh) hn => FGA.fg ((vc_spec_l12ShadeOk g s).mpr (by
  have hn : g.1.length = 6 := hn
  obtain ⟨a, p, f, w⟩ := s
  simp only [ifb_iff, Cm.shOk]
  cases a
  · simp [Cm.eqS, Cm.s0]
    cases w <;> by_cases e : p = 0 <;> by_cases e' : f = 0 <;> simp [e, e']
  · rcases bb (Cm.within p 2 5) with e1 | e1
    · simp [e1]
    · have h1 := within_f e1
      simp only [e1, hn]
      generalize List.getD g.1 p.toNat Cm.e0 = m
      obtain ⟨x, y, z⟩ := m
      by_cases e2 : y = f <;> cases x <;> cases z <;> cases w <;> simp [e2] <;> omega))
end Go.Proofs.Ytkcpacgnejlpbaa.T
open Go Go.Am Go.Proofs
open Go.Cm (R rdOk)
namespace Go.Proofs.Ytkcpacgnejlpbaa.T
set_option maxRecDepth 10000
theorem ne_dec (n k : Nat) : (((n : Int) != (k : Int)) : Bool) = !decide (n = k) := by
  by_cases c : n = k
  · rw [c]; simp
  · rw [decide_eq_false c]; simp; omega
theorem ne6 (n : Nat) : (((n : Int) != 6) : Bool) = !decide (n = 6) := ne_dec n 6
theorem ne8 (n : Nat) : (((n : Int) != 8) : Bool) = !decide (n = 8) := ne_dec n 8
theorem szOk_get {g : Cm.Gt} (h : Cm.szOk g = true) : g.1.length = 6 ∧ g.2.2.length = 6 ∧ Cm.okG g.2.1 = true := by
  unfold Cm.szOk at h; simp at h; exact ⟨h.1.1, h.1.2, h.2⟩
theorem mapF (u : Int → Int) (f : Int) (w : Bool) (d : Cm.Pg) : Cm.mapOk u (false, f, w) d = (false == false && (f == 0 && w == false)) := by
  rw [Cm.mapOk, if_pos rfl]; unfold Cm.eqE Cm.e0
  by_cases e : f = 0 <;> cases w <;> simp [e]
theorem mapT (u : Int → Int) (f : Int) (w : Bool) (d : Cm.Pg) : Cm.mapOk u (true, f, w) d = !(!Cm.within f 0 7 || !Cm.blank d || w && decide (u f > 1)) := by
  rw [Cm.mapOk, if_neg (by simp)]; dsimp only
  have e : decide (u f ≤ 1) = !decide (u f > 1) := by by_cases c : u f > 1 <;> simp [c] <;> omega
  rw [e]
  cases Cm.within f 0 7 <;> cases Cm.blank d <;> cases w <;> cases decide (u f > 1) <;> rfl
theorem shF (ms : List Cm.E) (p f : Int) (w : Bool) : Cm.shOk ms (false, p, f, w) = (false == false && (p == 0 && (f == 0 && w == false))) := by
  rw [Cm.shOk, if_pos rfl]; unfold Cm.eqS Cm.s0
  by_cases e : p = 0 <;> by_cases e' : f = 0 <;> cases w <;> simp [e, e']
theorem shT (ms : List Cm.E) (p f : Int) (w : Bool) (h : Cm.within p 2 5 = true) {x : Bool} {y : Int} {z : Bool} (e : ms.getD p.toNat Cm.e0 = (x, y, z)) : Cm.shOk ms (true, p, f, w) = !(!x || y != f || w && !z) := by
  rw [Cm.shOk, if_neg (by simp)]; dsimp only; rw [h, e]
  by_cases c : y = f <;> cases x <;> cases w <;> cases z <;> simp [c]
theorem ok_impl_Host_guestOk : FOk E_impl_Host_guestOk Try.f73 sGOk := FOk.of2 fun (h : Cm.Ho) (g : Cm.Gt) hn => FGA.fg (an := an_gOk h g) ((vc_impl_Host_guestOk h g).mpr (by
  obtain ⟨hb, b1, b2, b3⟩ := (show Cm.bdH h ∧ Cm.bdG g from hn)
  simp only [ifb_iff, imp_self, true_and, and_true, implies_true, ne6]
  refine ⟨fun _ => b2, fun x => by rw [x]; rfl, fun x => by rw [x]; rfl, fun x => ?_, fun x => ?_⟩
  · unfold Cm.gOk Cm.szOk
    cases e1 : decide (g.1.length = 6) <;> cases e2 : Cm.okG g.2.1 <;> cases e3 : decide (g.2.2.length = 6) <;> simp_all
  · have hs : Cm.szOk g = true := by
      unfold Cm.szOk
      cases e1 : decide (g.1.length = 6) <;> cases e2 : Cm.okG g.2.1 <;> cases e3 : decide (g.2.2.length = 6) <;> simp_all
    obtain ⟨l1, l2, l3⟩ := szOk_get hs
    have l4 := Cm.okG_len l3
    refine ⟨⟨0, ⟨⟨by omega, hs⟩, rfl⟩, rfl⟩, fun i ⟨⟨r1, _⟩, r3⟩ => ⟨fun hl => ?_, fun hl => ?_⟩⟩
    · have hl := lt_of hl
      rw [Cm.drop_getD Cm.e0 hl, Cm.drop_getD (l := g.2.1) [] (by omega), Cm.mapsOk] at r3
      have bd := b2.2 i (by omega)
      generalize hd : g.2.1.getD i [] = d at r3 bd ⊢
      have hfail : ∀ m, Cm.mapsOk (Cm.users h) g.1 g.2.1 = (Cm.mapOk (Cm.users h) m d && Cm.mapsOk (Cm.users h) (g.1.drop (i + 1)) (g.2.1.drop (i + 1))) → Cm.mapOk (Cm.users h) m d = false → false = Cm.gOk (Cm.users h) g := fun m r e => by
        rw [e] at r; unfold Cm.gOk; rw [r]; simp
      have hgo : ∀ m, Cm.mapsOk (Cm.users h) g.1 g.2.1 = (Cm.mapOk (Cm.users h) m d && Cm.mapsOk (Cm.users h) (g.1.drop (i + 1)) (g.2.1.drop (i + 1))) → Cm.mapOk (Cm.users h) m d = true →
          ∃ a', (((a' ≤ g.1.length ∧ Cm.szOk g = true) ∧ Cm.mapsOk (Cm.users h) g.1 g.2.1 = Cm.mapsOk (Cm.users h) (List.drop a' g.1) (List.drop a' g.2.1)) ∧ g.1.length - a' < g.1.length - i) ∧ (a' : Int) = IntKind.wrap .i64 ((i : Int) + 1) := fun m r e => by
        rw [e] at r
        exact ⟨i + 1, ⟨⟨⟨by omega, hs⟩, r⟩, by omega⟩, (wsucc (by omega)).symm⟩
      generalize g.1.getD i Cm.e0 = m at r3 ⊢
      obtain ⟨a, f, w⟩ := m
      dsimp only
      cases a
      · refine ⟨by omega, fun _ => ⟨fun c => hfail _ r3 ?_, fun c => hgo _ r3 ?_⟩, fun c => by cases c⟩
        · rw [mapF]; exact bnt c
        · rw [mapF]; exact bnf c
      · refine ⟨by omega, fun c => (by cases c), fun _ => ⟨fun _ => by omega, fun _ => bd, fun x => by rw [x]; rfl, fun _ => hb, fun x y => by rw [x, y]; rfl, fun x => by rw [x]; rfl, fun c => hfail _ r3 ?_, fun c => hgo _ r3 ?_⟩⟩
        · rw [mapT, c]; rfl
        · rw [mapT, c]; rfl
    · have hl := ge_of hl
      rw [List.drop_of_length_le hl] at r3
      have hm : Cm.mapsOk (Cm.users h) g.1 g.2.1 = true := by rw [r3]; unfold Cm.mapsOk; rfl
      refine ⟨⟨0, ⟨⟨by omega, hs, hm⟩, rfl⟩, rfl⟩, fun j ⟨⟨q1, _⟩, q3⟩ => ⟨fun hj => ?_, fun hj => ?_⟩⟩
      · have hj := lt_of hj
        rw [Cm.drop_getD Cm.s0 hj, Cm.shsOk] at q3
        have hfail : ∀ s, Cm.shsOk g.1 g.2.2 = (Cm.shOk g.1 s && Cm.shsOk g.1 (g.2.2.drop (j + 1))) → Cm.shOk g.1 s = false → false = Cm.gOk (Cm.users h) g := fun s r e => by
          rw [e] at r; unfold Cm.gOk; rw [r]; simp
        have hgo : ∀ s, Cm.shsOk g.1 g.2.2 = (Cm.shOk g.1 s && Cm.shsOk g.1 (g.2.2.drop (j + 1))) → Cm.shOk g.1 s = true →
            ∃ a', (((a' ≤ g.2.2.length ∧ Cm.szOk g = true ∧ Cm.mapsOk (Cm.users h) g.1 g.2.1 = true) ∧ Cm.shsOk g.1 g.2.2 = Cm.shsOk g.1 (List.drop a' g.2.2)) ∧ g.2.2.length - a' < g.2.2.length - j) ∧ (a' : Int) = IntKind.wrap .i64 ((j : Int) + 1) := fun s r e => by
          rw [e] at r
          exact ⟨j + 1, ⟨⟨⟨by omega, hs, hm⟩, r⟩, by omega⟩, (wsucc (by omega)).symm⟩
        generalize g.2.2.getD j Cm.s0 = s at q3 ⊢
        obtain ⟨a, p, f, w⟩ := s
        dsimp only
        cases a
        · refine ⟨by omega, fun _ => ⟨fun c => hfail _ q3 ?_, fun c => hgo _ q3 ?_⟩, fun c => by cases c⟩
          · rw [shF]; exact bnt c
          · rw [shF]; exact bnf c
        · refine ⟨by omega, fun c => (by cases c), fun _ => ⟨fun c => hfail _ q3 ?_, fun c => ?_⟩⟩
          · rw [Cm.shOk, if_neg (by simp)]; dsimp only; rw [bnt c]; rfl
          · have hw := within_f (bnf c)
            have hsh := fun x y z => shT g.1 p f w (bnf c) (x := x) (y := y) (z := z)
            generalize g.1.getD p.toNat Cm.e0 = m at hsh ⊢
            obtain ⟨x, y, z⟩ := m
            have hsh := hsh x y z rfl
            dsimp only
            refine ⟨⟨by omega, by omega⟩, fun x => by rw [x]; rfl, fun x y => by rw [x, y]; rfl, fun x => by rw [x]; rfl, fun c => hfail _ q3 ?_, fun c => hgo _ q3 ?_⟩
            · rw [hsh, c]; rfl
            · rw [hsh, c]; rfl
      · have hj := ge_of hj
        rw [List.drop_of_length_le hj] at q3
        have q3 : Cm.shsOk g.1 g.2.2 = true := q3
        unfold Cm.gOk; rw [hs, hm, q3]; rfl))
theorem ok_impl_HostOk : FOk E_impl_HostOk Try.f25 sHOk := FOk.of1 fun (h : Cm.Ho) hn => FGA.fg ((vc_impl_HostOk h).mpr (by
  have hb : Cm.bdH h := hn
  obtain ⟨b1, b2, b3⟩ := id hb
  simp only [ifb_iff, imp_self, true_and, and_true, implies_true, ne8]
  refine ⟨fun _ => b1, fun x => by rw [x]; rfl, fun x => by rw [x]; rfl, fun x => by rw [x]; rfl, fun x => ?_, fun x => ?_⟩
  · unfold Cm.hOk Cm.preOk
    rcases bb (decide (h.1.length = 8)) with e1 | e1 <;> rcases bb (Cm.okM h.1) with e2 | e2 <;> rcases bb (Cm.within (h.2.1.length : Int) 1 2) with e3 | e3 <;> rcases bb (Cm.within h.2.2 0 7) with e4 | e4 <;> simp_all
  · have hp : Cm.preOk h = true := by
      unfold Cm.preOk
      rcases bb (decide (h.1.length = 8)) with e1 | e1 <;> rcases bb (Cm.okM h.1) with e2 | e2 <;> rcases bb (Cm.within (h.2.1.length : Int) 1 2) with e3 | e3 <;> rcases bb (Cm.within h.2.2 0 7) with e4 | e4 <;> simp_all
    refine ⟨⟨0, ⟨by omega, rfl⟩, rfl⟩, fun i ⟨r1, r2⟩ => ⟨fun hl => ?_, fun hl => ?_⟩⟩
    · have hl := lt_of hl
      rw [Cm.drop_getD Cm.g0 hl, Cm.gsOk] at r2
      refine ⟨by omega, ⟨hb, b3 i hl⟩, fun c => ?_, fun c => ⟨i + 1, ⟨⟨by omega, ?_⟩, by omega⟩, (wsucc (by omega)).symm⟩⟩
      · unfold Cm.hOk; rw [r2, bnt c]; simp
      · rw [r2, bnf c]; rfl
    · have hl := ge_of hl
      rw [List.drop_of_length_le hl] at r2
      unfold Cm.hOk; rw [hp, r2]; rfl))
theorem gsOk_szs {u : Int → Int} : ∀ {l : List Cm.Gt}, Cm.gsOk u l = true → Cm.szsOk l = true
  | [], _ => rfl
  | g :: l, h => by
    rw [Cm.gsOk, Bool.and_eq_true] at h
    have h1 := h.1
    unfold Cm.gOk at h1; rw [Bool.and_eq_true] at h1
    rw [Cm.szsOk, h1.1, gsOk_szs h.2]; rfl
theorem szsOk_get : ∀ {l : List Cm.Gt}, Cm.szsOk l = true → ∀ i, i < l.length → Cm.szOk (l.getD i Cm.g0) = true
  | [], _, i, hi => by simp at hi
  | g :: l, h, i, hi => by
    rw [Cm.szsOk, Bool.and_eq_true] at h
    cases i with
    | zero => exact h.1
    | succ i => exact szsOk_get h.2 i (by simpa using hi)
theorem users_pos {h : Cm.Ho} {i j : Nat} (hi : i < h.2.1.length) (hj : j < (h.2.1.getD i Cm.g0).1.length) (e : ((h.2.1.getD i Cm.g0).1.getD j Cm.e0).1 = true) : 1 ≤ Cm.users h ((h.2.1.getD i Cm.g0).1.getD j Cm.e0).2.1 :=
  Cm.useG_pos hi (Cm.useM_pos hj e rfl)
theorem ok_spec_HostOk : FOk E_spec_HostOk Try.f24 sHOk := FOk.of1 fun (h : Cm.Ho) hn => FGA.fg (an := an_hOkS h) ((vc_spec_HostOk h).mpr (by
  have hb : Cm.bdH h := hn
  obtain ⟨b1, b2, b3⟩ := id hb
  simp only [ifb_iff, imp_self, true_and, and_true, implies_true, ne8, ne6]
  refine ⟨b1, fun x => by rw [x]; rfl, fun x => by rw [x]; rfl, fun x => by rw [x]; rfl, fun x => ?_, fun x => ?_⟩
  · unfold Cm.hOk Cm.preOk
    rcases bb (decide (h.1.length = 8)) with e1 | e1 <;> rcases bb (Cm.okM h.1) with e2 | e2 <;> rcases bb (Cm.within (h.2.1.length : Int) 1 2) with e3 | e3 <;> rcases bb (Cm.within h.2.2 0 7) with e4 | e4 <;> simp_all
  · have hp : Cm.preOk h = true := by
      unfold Cm.preOk
      rcases bb (decide (h.1.length = 8)) with e1 | e1 <;> rcases bb (Cm.okM h.1) with e2 | e2 <;> rcases bb (Cm.within (h.2.1.length : Int) 1 2) with e3 | e3 <;> rcases bb (Cm.within h.2.2 0 7) with e4 | e4 <;> simp_all
    refine ⟨⟨0, ⟨by omega, rfl⟩, rfl⟩, fun i ⟨r1, r2⟩ => ⟨fun hl => ?_, fun hl => ?_⟩⟩
    · have hl := lt_of hl
      have bi := b3 i hl
      rw [Cm.drop_getD Cm.g0 hl, Cm.szsOk] at r2
      generalize h.2.1.getD i Cm.g0 = g at r2 bi ⊢
      refine ⟨by omega, fun x => by rw [x]; rfl, fun _ => bi.2.1, fun x => by rw [x]; rfl, fun c => ?_, fun c => ⟨i + 1, ⟨⟨by omega, ?_⟩, by omega⟩, (wsucc (by omega)).symm⟩⟩
      · have e : Cm.szOk g = false := by
          unfold Cm.szOk
          cases e1 : decide (g.1.length = 6) <;> cases e2 : Cm.okG g.2.1 <;> cases e3 : decide (g.2.2.length = 6) <;> simp_all
        rw [e] at r2
        unfold Cm.hOk
        cases e' : Cm.gsOk (Cm.users h) h.2.1
        · simp
        · have := gsOk_szs e'; rw [r2] at this; cases this
      · have e : Cm.szOk g = true := by
          unfold Cm.szOk
          cases e1 : decide (g.1.length = 6) <;> cases e2 : Cm.okG g.2.1 <;> cases e3 : decide (g.2.2.length = 6) <;> simp_all
        rw [r2, e]; rfl
    · have hl := ge_of hl
      rw [List.drop_of_length_le hl] at r2
      have hz : Cm.szsOk h.2.1 = true := r2
      refine ⟨⟨0, ⟨⟨by omega, hz⟩, rfl⟩, rfl⟩, fun i ⟨⟨q1, _⟩, q2⟩ => ⟨fun hi => ?_, fun hi => ?_⟩⟩
      · have hi := lt_of hi
        obtain ⟨l1, l2, l3⟩ := szOk_get (szsOk_get hz i hi)
        have l4 := Cm.okG_len l3
        have bi := b3 i hi
        rw [Cm.drop_getD Cm.g0 hi, Cm.gsOk, Cm.gOk, szsOk_get hz i hi, Bool.true_and] at q2
        have up := fun j => users_pos (h := h) (j := j) hi
        generalize h.2.1.getD i Cm.g0 = g at q2 bi l1 l2 l3 l4 up ⊢
        refine ⟨by omega, ⟨0, ⟨⟨by omega, hi, hz⟩, by simpa using q2⟩, rfl⟩, fun j ⟨⟨s1, _⟩, s2⟩ => ⟨fun hj => ?_, fun hj => ?_⟩⟩
        · have hj : (j : Int) < 6 := of_decide_eq_true hj
          have bj := bi.2.1.2 j (by omega)
          have upj := up j (by omega)
          rw [Cm.drop_getD Cm.e0 (show j < g.1.length by omega), Cm.drop_getD (l := g.2.1) [] (by omega), Cm.drop_getD Cm.s0 (show j < g.2.2.length by omega), Cm.mapsOk, Cm.shsOk] at s2
          refine ⟨by omega, by omega, ⟨hb, bj, upj⟩, fun _ => by omega, fun _ => l1, fun x => by rw [x]; rfl, fun c => ?_, fun c => ⟨j + 1, ⟨⟨⟨by omega, hi, hz⟩, ?_⟩, by omega⟩, (wsucc (by omega)).symm⟩⟩
          · unfold Cm.hOk; rw [s2]
            rcases bb (Cm.mapOk (Cm.users h) (g.1.getD j Cm.e0) (g.2.1.getD j [])) with e1 | e1
            · rw [e1]; simp
            · rw [e1] at c
              have c : Cm.shOk g.1 (g.2.2.getD j Cm.s0) = false := by simpa using c
              rw [c]; simp
          · rw [Bool.or_eq_false_iff] at c
            rw [s2, bnf c.1, bnf c.2]; simp
        · have hj : ¬ (j : Int) < 6 := of_decide_eq_false hj
          rw [List.drop_of_length_le (l := g.1) (by omega), List.drop_of_length_le (l := g.2.2) (by omega)] at s2
          refine ⟨i + 1, ⟨⟨⟨by omega, hz⟩, ?_⟩, by omega⟩, (wsucc (by omega)).symm⟩
          rw [s2]; unfold Cm.mapsOk Cm.shsOk; rfl
      · have hi := ge_of hi
        rw [List.drop_of_length_le hi] at q2
        unfold Cm.hOk; rw [hp, q2]; rfl))
end Go.Proofs.Ytkcpacgnejlpbaa.T
open Go Go.Am Go.Proofs
open Go.Cm (R rdOk)
namespace Go.Proofs.Ytkcpacgnejlpbaa.T
set_option maxRecDepth 10000
theorem gsOk_get {u : Int → Int} : ∀ {l : List Cm.Gt}, Cm.gsOk u l = true → ∀ i, i < l.length → Cm.gOk u (l.getD i Cm.g0) = true
  | [], _, i, hi => by simp at hi
  | g :: l, h, i, hi => by
    rw [Cm.gsOk, Bool.and_eq_true] at h
    cases i with
    | zero => exact h.1
    | succ i => exact gsOk_get h.2 i (by simpa using hi)
theorem mapsOk_get {u : Int → Int} : ∀ {l : List Cm.E} {d : Cm.Mm}, Cm.mapsOk u l d = true → ∀ i, i < l.length → Cm.mapOk u (l.getD i Cm.e0) (d.getD i []) = true
  | [], _, _, i, hi => by simp at hi
  | m :: l, [], h, i, hi => by
    rw [Cm.mapsOk, Bool.and_eq_true] at h
    cases i with
    | zero => exact h.1
    | succ i => have := mapsOk_get h.2 i (by simpa using hi); simpa using this
  | m :: l, d :: k, h, i, hi => by
    rw [Cm.mapsOk, Bool.and_eq_true] at h
    cases i with
    | zero => exact h.1
    | succ i => exact mapsOk_get h.2 i (by simpa using hi)
theorem mapOk_in {u : Int → Int} {m : Cm.E} {d : Cm.Pg} (h : Cm.mapOk u m d = true) (e : m.1 = true) : 0 ≤ m.2.1 ∧ m.2.1 ≤ 7 := by
  rw [Cm.mapOk, if_neg (by rw [e]; simp), Bool.and_eq_true, Bool.and_eq_true] at h
  exact within_f h.1.1
theorem gOk_get {u : Int → Int} {g : Cm.Gt} (e : Cm.gOk u g = true) : (g.1.length = 6 ∧ g.2.2.length = 6 ∧ Cm.okG g.2.1 = true) ∧ Cm.mapsOk u g.1 g.2.1 = true ∧ Cm.shsOk g.1 g.2.2 = true := by
  unfold Cm.gOk at e
  simp only [Bool.and_eq_true] at e
  exact ⟨szOk_get e.1, e.2⟩
theorem shsOk_get {ms : List Cm.E} : ∀ {l : List Cm.Sh}, Cm.shsOk ms l = true → ∀ i, i < l.length → Cm.shOk ms (l.getD i Cm.s0) = true
  | [], _, i, hi => by simp at hi
  | s :: l, h, i, hi => by
    rw [Cm.shsOk, Bool.and_eq_true] at h
    cases i with
    | zero => exact h.1
    | succ i => exact shsOk_get h.2 i (by simpa using hi)
theorem hOk_shH {h : Cm.Ho} (e : Cm.hOk h = true) : Cm.shH h := by
  have e' := e
  unfold Cm.hOk at e'
  rw [Bool.and_eq_true] at e'
  refine ⟨e'.1, fun i hi => ?_⟩
  have hg := gsOk_get e'.2 i hi
  obtain ⟨⟨g1, g2, g3⟩, g4, g5⟩ := gOk_get hg
  unfold Cm.gOk at hg
  rw [Bool.and_eq_true] at hg
  refine ⟨hg.1, fun j hj c => mapOk_in (mapsOk_get g4 j (by omega)) c, fun j hj c => ?_⟩
  have hs := shsOk_get g5 j (by omega)
  generalize (h.2.1.getD i Cm.g0).2.2.getD j Cm.s0 = s at hs c ⊢
  rw [Cm.shOk, if_neg (by rw [c]; simp)] at hs
  simp only [Bool.and_eq_true, decide_eq_true_eq] at hs
  have hw := within_f hs.1
  have := mapOk_in (mapsOk_get g4 s.2.1.toNat (by omega)) hs.2.1.1
  rw [hs.2.1.2] at this; exact this
theorem shH_get {h : Cm.Ho} (e : Cm.shH h) : (h.1.length = 8 ∧ Cm.okM h.1 = true) ∧ (1 ≤ h.2.1.length ∧ h.2.1.length ≤ 2) ∧ 0 ≤ h.2.2 ∧ h.2.2 ≤ 7 := by
  have e := e.1
  unfold Cm.preOk at e
  simp only [Bool.and_eq_true, decide_eq_true_eq] at e
  have := within_f e.1.2
  exact ⟨⟨e.1.1.2, e.1.1.1⟩, by omega, within_f e.2⟩
theorem shH_row {h : Cm.Ho} (e : Cm.shH h) {i : Nat} (hi : i < 8) : Cm.okP (h.1.getD i []) = true := by
  obtain ⟨⟨h1, h2⟩, _⟩ := shH_get e
  exact Cm.okM_get h2 i (by omega)
theorem shH_bd {h : Cm.Ho} (e : Cm.shH h) : Cm.bdH h := by
  obtain ⟨⟨h1, h2⟩, h3, _⟩ := shH_get e
  refine ⟨⟨by omega, fun i hi => ?_⟩, by omega, fun i hi => ?_⟩
  · have := Cm.okP_len (shH_row e (i := i) (by omega)); omega
  · obtain ⟨l1, l2, l3⟩ := szOk_get (e.2 i hi).1
    have l4 := Cm.okG_len l3
    exact ⟨by omega, ⟨by omega, fun j hj => by have := Cm.okG_row l3 (i := j) (by omega); omega⟩, by omega⟩
theorem ok_impl_cloneHost : FOk E_impl_cloneHost Try.f49 sToH := FOk.of1 fun (h : Cm.Ho) hn => FGA.fg ((vc_impl_cloneHost h).mpr (by
  obtain ⟨b1, b2, b3⟩ := (show Cm.bdH h from hn)
  simp only [ifb_iff, imp_self, true_and, and_true, implies_true]
  refine ⟨b1, ⟨0, by omega, rfl, rfl, rfl, rfl, rfl⟩, fun i h1 => ⟨fun hl => ?_, fun hl => by rw [List.take_of_length_le (ge_of hl)]⟩⟩
  have hl := lt_of hl
  obtain ⟨c1, c2, c3⟩ := b3 i hl
  refine ⟨by omega, ?_, c2, ?_, ?_, i + 1, by omega, (wsucc (by omega)).symm, Cm.take_succ_getD Cm.g0 hl⟩
  · show (0 + (h.2.1.getD i Cm.g0).1.length) * 24 ≤ _; omega
  · show (0 + (h.2.1.getD i Cm.g0).2.2.length) * 32 ≤ _; omega
  · show ((List.take i h.2.1).length + 1) * 72 ≤ _; rw [List.length_take]; omega))
theorem ok_spec_l12Copy : FOk E_spec_l12Copy Try.f46 sToH := FOk.of1 fun (h : Cm.Ho) hn => FGA.fg ((vc_spec_l12Copy h).mpr (by
  obtain ⟨b1, b2, b3⟩ := (show Cm.bdH h from hn)
  simp only [ifb_iff, imp_self, true_and, and_true, implies_true]
  refine ⟨b1, ⟨fun hl => ?_, fun hl => ?_⟩, fun i h1 => ⟨fun hl => ?_, fun hl => by rw [List.take_of_length_le (ge_of hl)]⟩⟩
  · have hl : 0 < h.2.1.length := by have := of_decide_eq_true hl; omega
    obtain ⟨c1, c2, c3⟩ := b3 0 hl
    refine ⟨by omega, ?_, c2, ?_, by decide, 1, by omega, rfl, Cm.take_succ_getD Cm.g0 hl, rfl, rfl, rfl⟩
    · show (0 + (h.2.1.getD 0 Cm.g0).1.length) * 24 ≤ _; omega
    · show (0 + (h.2.1.getD 0 Cm.g0).2.2.length) * 32 ≤ _; omega
  · have hl : h.2.1.length = 0 := by have := of_decide_eq_false hl; omega
    obtain ⟨x, y, z⟩ := h
    have : y = [] := List.eq_nil_of_length_eq_zero hl
    subst this; rfl
  · have hl := lt_of hl
    obtain ⟨c1, c2, c3⟩ := b3 i hl
    refine ⟨by omega, ?_, c2, ?_, ?_, i + 1, by omega, (wsucc (by omega)).symm, Cm.take_succ_getD Cm.g0 hl⟩
    · show (0 + (h.2.1.getD i Cm.g0).1.length) * 24 ≤ _; omega
    · show (0 + (h.2.1.getD i Cm.g0).2.2.length) * 32 ≤ _; omega
    · show ((List.take i h.2.1).length + 1) * 72 ≤ _; rw [List.length_take]; omega))
theorem modAt_get {α : Type} (l : List α) (n : Nat) (d : α) (f : α → α) (i : Nat) (hi : i < l.length) : (Cm.modAt l n d f).getD i d = if n = i then f (l.getD i d) else l.getD i d := by
  unfold Cm.modAt
  simp only [List.getD_eq_getElem?_getD, List.getElem?_set]
  split
  · rename_i e; subst e; simp [hi]
  · rfl
end Go.Proofs.Ytkcpacgnejlpbaa.T
open Go Go.Am Go.Proofs
open Go.Cm (R rdOk)
namespace Go.Proofs.Ytkcpacgnejlpbaa.T
set_option maxRecDepth 10000
theorem mkH_eta (h : Cm.Ho) (k : Int) : ((Cm.mkH h k).1, (Cm.mkH h k).2.1, h.2.2) = Cm.mkH h k := rfl
theorem wfH_of {y : Cm.Ho} (h : Wf kH y) : Cm.wfH y :=
  ⟨⟨h.1.1, fun i hi => (h.1.2 i hi).1⟩, h.2.1.1, fun i hi => ⟨(h.2.1.2 i hi).1.1, ⟨(h.2.1.2 i hi).2.1.1, fun j hj => ((h.2.1.2 i hi).2.1.2 j hj).1⟩, (h.2.1.2 i hi).2.2.1⟩⟩
theorem kn_laws_szMapS : Known Try.prog 136 (sSz kE) := known_of tabOk (kn0) mixed Try.func136 (by kernel_rfl) ok_laws_szMapS
theorem kn_laws_szShadeS : Known Try.prog 137 (sSz kS) := known_of tabOk (kn0) mixed Try.func137 (by kernel_rfl) ok_laws_szShadeS
theorem kn_laws_szGuest : Known Try.prog 110 sSzG := known_of tabOk (AllK.cons (AllK.cons (AllK.cons kn0 kn_laws_szShadeS) kn_laws_szMapS) kn_laws_szIntSS) mixed Try.func110 (by kernel_rfl) ok_laws_szGuest
theorem kn_laws_szGuestS : Known Try.prog 75 sSzGs := known_of tabOk (AllK.cons kn0 kn_laws_szGuest) mixed Try.func75 (by kernel_rfl) ok_laws_szGuestS
theorem kn_laws_szHost : Known Try.prog 26 sSzH := known_of tabOk (AllK.cons (AllK.cons kn0 kn_laws_szGuestS) kn_laws_szIntSS) mixed Try.func26 (by kernel_rfl) ok_laws_szHost
theorem kn_laws_toMap : Known Try.prog 152 (sId kE) := known_of tabOk (kn0) mixed Try.func152 (by kernel_rfl) ok_laws_toMap
theorem kn_laws_toShade : Known Try.prog 153 (sId kS) := known_of tabOk (kn0) mixed Try.func153 (by kernel_rfl) ok_laws_toShade
theorem kn_laws_toMapS : Known Try.prog 139 (sToL kE) := known_of tabOk (AllK.cons kn0 kn_laws_toMap) mixed Try.func139 (by kernel_rfl) ok_laws_toMapS
theorem kn_laws_toShadeS : Known Try.prog 140 (sToL kS) := known_of tabOk (AllK.cons kn0 kn_laws_toShade) mixed Try.func140 (by kernel_rfl) ok_laws_toShadeS
theorem kn_laws_toGuest : Known Try.prog 114 sToG := known_of tabOk (AllK.cons (AllK.cons (AllK.cons kn0 kn_laws_toShadeS) kn_laws_toMapS) kn_laws_toIntSS) mixed Try.func114 (by kernel_rfl) ok_laws_toGuest
theorem kn_laws_toGuestS : Known Try.prog 78 sToGs := known_of tabOk (AllK.cons kn0 kn_laws_toGuest) mixed Try.func78 (by kernel_rfl) ok_laws_toGuestS
theorem kn_laws_toHost : Known Try.prog 28 sToH := known_of tabOk (AllK.cons (AllK.cons kn0 kn_laws_toGuestS) kn_laws_toIntSS) mixed Try.func28 (by kernel_rfl) ok_laws_toHost
theorem kn_laws_eqMap : Known Try.prog 154 sEqE := known_of tabOk (kn0) mixed Try.func154 (by kernel_rfl) ok_laws_eqMap
theorem kn_laws_eqShade : Known Try.prog 155 sEqS := known_of tabOk (kn0) mixed Try.func155 (by kernel_rfl) ok_laws_eqShade
theorem kn_laws_eqMapS : Known Try.prog 141 sEqEs := known_of tabOk (AllK.cons kn0 kn_laws_eqMap) mixed Try.func141 (by kernel_rfl) ok_laws_eqMapS
theorem kn_laws_eqShadeS : Known Try.prog 142 sEqSs := known_of tabOk (AllK.cons kn0 kn_laws_eqShade) mixed Try.func142 (by kernel_rfl) ok_laws_eqShadeS
theorem kn_laws_eqGuest : Known Try.prog 116 sEqG := known_of tabOk (AllK.cons (AllK.cons (AllK.cons kn0 kn_laws_eqShadeS) kn_laws_eqMapS) kn_laws_eqIntSS) mixed Try.func116 (by kernel_rfl) ok_laws_eqGuest
theorem kn_laws_eqGuestS : Known Try.prog 80 sEqGs := known_of tabOk (AllK.cons kn0 kn_laws_eqGuest) mixed Try.func80 (by kernel_rfl) ok_laws_eqGuestS
theorem kn_laws_eqHost : Known Try.prog 29 sEqH := known_of tabOk (AllK.cons (AllK.cons kn0 kn_laws_eqGuestS) kn_laws_eqIntSS) mixed Try.func29 (by kernel_rfl) ok_laws_eqHost
theorem kn_laws_markMapS : Known Try.prog 118 sMarkEs := known_of tabOk (kn0) mixed Try.func118 (by kernel_rfl) ok_laws_markMapS
theorem kn_laws_markShadeS : Known Try.prog 119 sMarkSs := known_of tabOk (kn0) mixed Try.func119 (by kernel_rfl) ok_laws_markShadeS
theorem kn_laws_markGuestS : Known Try.prog 82 sMarkGs := known_of tabOk (AllK.cons (AllK.cons (AllK.cons kn0 kn_laws_markShadeS) kn_laws_markMapS) kn_laws_markIntSS) mixed Try.func82 (by kernel_rfl) ok_laws_markGuestS
theorem kn_laws_markHost : Known Try.prog 30 sMarkH := known_of tabOk (AllK.cons (AllK.cons kn0 kn_laws_markGuestS) kn_laws_markIntSS) mixed Try.func30 (by kernel_rfl) ok_laws_markHost
theorem kn_laws_heldMapS : Known Try.prog 121 sHeldEs := known_of tabOk (kn0) mixed Try.func121 (by kernel_rfl) ok_laws_heldMapS
theorem kn_laws_heldShadeS : Known Try.prog 122 sHeldSs := known_of tabOk (kn0) mixed Try.func122 (by kernel_rfl) ok_laws_heldShadeS
theorem kn_laws_heldGuestS : Known Try.prog 84 sHeldGs := known_of tabOk (AllK.cons (AllK.cons (AllK.cons kn0 kn_laws_heldShadeS) kn_laws_heldMapS) kn_laws_heldIntSS) mixed Try.func84 (by kernel_rfl) ok_laws_heldGuestS
theorem kn_laws_heldHost : Known Try.prog 31 sHeldH := known_of tabOk (AllK.cons (AllK.cons kn0 kn_laws_heldGuestS) kn_laws_heldIntSS) mixed Try.func31 (by kernel_rfl) ok_laws_heldHost
theorem kn_impl_Host_many : Known Try.prog 54 sUsers := known_of tabOk (kn0) mixed Try.func54 (by kernel_rfl) ok_impl_Host_many
theorem kn_spec_l12Users : Known Try.prog 105 sUsers := known_of tabOk (kn0) mixed Try.func105 (by kernel_rfl) ok_spec_l12Users
theorem kn_impl_zeros_1 : Known Try.prog 135 sNZ := known_of tabOk (kn0) mixed Try.func135 (by kernel_rfl) ok_impl_zeros_1
theorem kn_slices_IndexFunc_int_int : Known Try.prog 151 (sIndex 135) := known_of tabOk (AllK.cons kn0 kn_impl_zeros_1) mixed Try.func151 (by kernel_rfl) ok_slices_IndexFunc_int_int
theorem kn_slices_ContainsFunc_int_int : Known Try.prog 134 (sContains 135) := known_of tabOk (AllK.cons kn0 kn_slices_IndexFunc_int_int) mixed Try.func134 (by kernel_rfl) ok_slices_ContainsFunc_int_int
theorem kn_impl_zeros : Known Try.prog 108 sBlank := known_of tabOk (AllK.cons (AllK.cons kn0 kn_impl_zeros_1) kn_slices_ContainsFunc_int_int) mixed Try.func108 (by kernel_rfl) ok_impl_zeros
theorem kn_spec_l12Blank : Known Try.prog 104 sBlank := known_of tabOk (kn0) mixed Try.func104 (by kernel_rfl) ok_spec_l12Blank
theorem kn_spec_l12MapOk : Known Try.prog 70 sMapOk := known_of tabOk (AllK.cons (AllK.cons (AllK.cons kn0 kn_spec_l12Users) kn_spec_l12Blank) kn_107) mixed Try.func70 (by kernel_rfl) ok_spec_l12MapOk
theorem kn_spec_l12ShadeOk : Known Try.prog 71 sShOk := known_of tabOk (AllK.cons kn0 kn_107) mixed Try.func71 (by kernel_rfl) ok_spec_l12ShadeOk
theorem kn_impl_Host_guestOk : Known Try.prog 73 sGOk := known_of tabOk (AllK.cons (AllK.cons (AllK.cons (AllK.cons kn0 kn_impl_zeros) kn_impl_guestMem) kn_98) kn_impl_Host_many) mixed Try.func73 (by kernel_rfl) ok_impl_Host_guestOk
theorem kn_impl_HostOk : Known Try.prog 25 sHOk := known_of tabOk (AllK.cons (AllK.cons (AllK.cons kn0 kn_impl_Host_guestOk) kn_impl_MemOk) kn_98) mixed Try.func25 (by kernel_rfl) ok_impl_HostOk
theorem kn_spec_HostOk : Known Try.prog 24 sHOk := known_of tabOk (AllK.cons (AllK.cons (AllK.cons (AllK.cons (AllK.cons kn0 kn_spec_l12ShadeOk) kn_spec_l12MapOk) kn_spec_l11Guest) kn_spec_MemOk) kn_107) mixed Try.func24 (by kernel_rfl) ok_spec_HostOk
theorem kn_spec_l12Copy : Known Try.prog 46 sToH := known_of tabOk (AllK.cons kn0 kn_spec_l2Copy) mixed Try.func46 (by kernel_rfl) ok_spec_l12Copy
theorem kn_impl_cloneHost : Known Try.prog 49 sToH := known_of tabOk (AllK.cons kn0 kn_impl_cloneMem) mixed Try.func49 (by kernel_rfl) ok_impl_cloneHost
end Go.Proofs.Ytkcpacgnejlpbaa.T
open Go Go.Am Go.Proofs
open Go.Cm (R rdOk)
namespace Go.Proofs.Ytkcpacgnejlpbaa.T
set_option maxRecDepth 10000
theorem getD_set {α : Type} (l : List α) (n : Nat) (v d : α) (i : Nat) : (l.set n v).getD i d = if n = i ∧ i < l.length then v else l.getD i d := by
  simp only [List.getD_eq_getElem?_getD, List.getElem?_set]
  by_cases e : n = i
  · by_cases c : i < l.length <;> simp [e, c]
  · simp [e]
theorem modAt_modAt {α : Type} (l : List α) (n : Nat) (d : α) (f k : α → α) : Cm.modAt (Cm.modAt l n d f) n d k = Cm.modAt l n d fun x => k (f x) := by
  unfold Cm.modAt
  by_cases c : n < l.length
  · rw [List.set_set, getD_set, if_pos ⟨rfl, c⟩]
  · rw [List.set_eq_of_length_le (by simp; omega), List.set_eq_of_length_le (by omega), List.set_eq_of_length_le (by omega)]
theorem upG_len (h : Cm.Ho) (g : Nat) (f : Cm.Gt → Cm.Gt) : (Cm.upG h g f).2.1.length = h.2.1.length := Cm.modAt_len _ _ _ _
theorem upG_get (h : Cm.Ho) (g : Nat) (f : Cm.Gt → Cm.Gt) {i : Nat} (hi : i < h.2.1.length) : (Cm.upG h g f).2.1.getD i Cm.g0 = if g = i then f (h.2.1.getD i Cm.g0) else h.2.1.getD i Cm.g0 := modAt_get _ _ _ _ _ hi
theorem shH_upG {h : Cm.Ho} (hs : Cm.shH h) {g : Nat} {f : Cm.Gt → Cm.Gt} (hf : g < h.2.1.length → Cm.shG (Cm.gAt h g) → Cm.shG (f (Cm.gAt h g))) : Cm.shH (Cm.upG h g f) := by
  refine ⟨?_, fun i hi => ?_⟩
  · have := hs.1
    unfold Cm.preOk at this ⊢
    rw [upG_len]; exact this
  · rw [upG_len] at hi
    rw [upG_get h g f hi]
    split
    · rename_i e; subst e; exact hf hi (hs.2 g hi)
    · exact hs.2 i hi
theorem szOk_mk {a : List Cm.E} {d : Cm.Mm} {s : List Cm.Sh} (h1 : a.length = 6) (h2 : Cm.okG d = true) (h3 : s.length = 6) : Cm.szOk (a, d, s) = true := by
  unfold Cm.szOk; simp [h1, h2, h3]
theorem clr_frame (p : Int) (s : Cm.Sh) (h : s.1 = true → 0 ≤ s.2.2.1 ∧ s.2.2.1 ≤ 7) : (Cm.clr p s).1 = true → 0 ≤ (Cm.clr p s).2.2.1 ∧ (Cm.clr p s).2.2.1 ≤ 7 := by
  unfold Cm.clr; split
  · intro c; cases c
  · exact h
theorem map_getD (p : Int) (l : List Cm.Sh) {i : Nat} (hi : i < l.length) : (l.map (Cm.clr p)).getD i Cm.s0 = Cm.clr p (l.getD i Cm.s0) := by
  simp [List.getD_eq_getElem?_getD, hi]
/-- The parts of a guest's shape. -/
theorem shG_mk {a : List Cm.E} {d : Cm.Mm} {s : List Cm.Sh} (h1 : a.length = 6) (h2 : Cm.okG d = true) (h3 : s.length = 6)
    (h4 : ∀ i, i < 6 → (a.getD i Cm.e0).1 = true → 0 ≤ (a.getD i Cm.e0).2.1 ∧ (a.getD i Cm.e0).2.1 ≤ 7) (h5 : ∀ i, i < 6 → (s.getD i Cm.s0).1 = true → 0 ≤ (s.getD i Cm.s0).2.2.1 ∧ (s.getD i Cm.s0).2.2.1 ≤ 7) : Cm.shG (a, d, s) := ⟨szOk_mk h1 h2 h3, h4, h5⟩
theorem maps_set {a : List Cm.E} (h1 : a.length = 6) (h4 : ∀ i, i < 6 → (a.getD i Cm.e0).1 = true → 0 ≤ (a.getD i Cm.e0).2.1 ∧ (a.getD i Cm.e0).2.1 ≤ 7) (p : Nat) {m : Cm.E} (hm : m.1 = true → 0 ≤ m.2.1 ∧ m.2.1 ≤ 7) :
    (a.set p m).length = 6 ∧ ∀ i, i < 6 → ((a.set p m).getD i Cm.e0).1 = true → 0 ≤ ((a.set p m).getD i Cm.e0).2.1 ∧ ((a.set p m).getD i Cm.e0).2.1 ≤ 7 := by
  refine ⟨by simpa using h1, fun i hi => ?_⟩
  rw [getD_set]; split
  · exact hm
  · exact h4 i hi
theorem shs_clr {s : List Cm.Sh} (h3 : s.length = 6) (h5 : ∀ i, i < 6 → (s.getD i Cm.s0).1 = true → 0 ≤ (s.getD i Cm.s0).2.2.1 ∧ (s.getD i Cm.s0).2.2.1 ≤ 7) (p : Int) :
    (s.map (Cm.clr p)).length = 6 ∧ ∀ i, i < 6 → ((s.map (Cm.clr p)).getD i Cm.s0).1 = true → 0 ≤ ((s.map (Cm.clr p)).getD i Cm.s0).2.2.1 ∧ ((s.map (Cm.clr p)).getD i Cm.s0).2.2.1 ≤ 7 := by
  refine ⟨by simpa using h3, fun i hi => ?_⟩
  rw [map_getD p s (by omega)]
  exact clr_frame p _ (h5 i hi)
theorem page_ok {h : Cm.Ho} (hs : Cm.shH h) {g p : Nat} (hg : g < h.2.1.length) (hp : p < 6) : Cm.okP (Cm.pageG h.1 (Cm.gAt h g) p) = true := by
  obtain ⟨h1, h2, h3⟩ := hs.2 g hg
  obtain ⟨l1, l2, l3⟩ := szOk_get h1
  unfold Cm.pageG
  split
  · rename_i c
    have := h2 p hp c
    exact shH_row hs (by show (List.getD (Cm.gAt h g).1 p Cm.e0).2.1.toNat < 8; unfold Cm.gAt; omega)
  · exact Cm.okG_okP l3 hp
theorem forgetP_len (h : Cm.Ho) (g : Nat) (p : Int) : (Cm.forgetP h g p).2.1.length = h.2.1.length := upG_len _ _ _
end Go.Proofs.Ytkcpacgnejlpbaa.T
open Go Go.Am Go.Proofs
open Go.Cm (R rdOk)
namespace Go.Proofs.Ytkcpacgnejlpbaa.T
set_option maxRecDepth 10000
theorem modAt_congr {α : Type} (l : List α) (n : Nat) (d : α) {F G : α → α} (e : F (l.getD n d) = G (l.getD n d)) : Cm.modAt l n d F = Cm.modAt l n d G := by
  unfold Cm.modAt; rw [e]
theorem modAt_id {α : Type} (l : List α) (n : Nat) (d : α) {F : α → α} (e : F (l.getD n d) = l.getD n d) : Cm.modAt l n d F = l := by
  unfold Cm.modAt; rw [e]
  by_cases c : n < l.length
  · simp [List.getD, c]
  · rw [List.set_eq_of_length_le (by omega)]
theorem ok_spec_l13Forget : FOk E_spec_l13Forget Try.f138 sForgetPT := FOk.of3 fun (h : Cm.Ho) (g p : Int) hn => FGA.fg ((vc_spec_l13Forget h g p).mpr (by
  obtain ⟨hs, hg, hp⟩ := (show inS h g p from hn)
  have hgn : g.toNat < h.2.1.length := by omega
  obtain ⟨l1, l2, l3⟩ := szOk_get (hs.2 _ hgn).1
  simp only [ifb_iff, imp_self, true_and, and_true, implies_true, upG_len, upG_get h g.toNat _ hgn, if_pos]
  have key1 : ∀ (L : List Cm.Sh) (i : Nat), L.length = 6 → i < 6 → (List.map (Cm.clr p) (L.take i) ++ L.drop i).getD i Cm.s0 = L.getD i Cm.s0 := fun L i hL hi => by
    rw [Cm.drop_getD Cm.s0 (show i < L.length by omega)]
    exact Cm.getD_mid _ _ (by simp; omega)
  have key2 : ∀ (L : List Cm.Sh) (i : Nat), L.length = 6 → i < 6 → List.map (Cm.clr p) (L.take (i + 1)) ++ L.drop (i + 1) = List.map (Cm.clr p) (L.take i) ++ Cm.clr p (L.getD i Cm.s0) :: L.drop (i + 1) := fun L i hL hi => by
    rw [Cm.take_succ_getD Cm.s0 (show i < L.length by omega), List.map_append, List.append_assoc]; rfl
  have key3 : ∀ (L : List Cm.Sh) (i : Nat), L.length = 6 → i < 6 → (List.map (Cm.clr p) (L.take i) ++ L.drop i).set i Cm.s0 = List.map (Cm.clr p) (L.take i) ++ Cm.s0 :: L.drop (i + 1) := fun L i hL hi => by
    rw [Cm.drop_getD Cm.s0 (show i < L.length by omega)]
    exact Cm.set_mid _ _ (by simp; omega)
  refine ⟨⟨0, by omega, rfl, ⟨rfl, by unfold Cm.upG; dsimp only; refine modAt_id _ _ _ ?_; simp⟩, rfl, rfl, rfl⟩, fun i h1 => ⟨fun hi => ?_, fun hi => ?_⟩⟩
  · have hi : (i : Int) < 6 := of_decide_eq_true hi
    have hi : i < 6 := by omega
    have hlen : (List.map (Cm.clr p) ((h.2.1.getD g.toNat Cm.g0).2.2.take i) ++ (h.2.1.getD g.toNat Cm.g0).2.2.drop i).length = 6 := by rw [List.length_append, List.length_map, List.length_take, List.length_drop]; omega
    rw [hlen, key1 _ i l2 hi]
    refine ⟨hg, by omega, fun _ => hg, fun _ => by omega, fun c => ⟨hg, by omega, i + 1, by omega, (wsucc (by omega)).symm, rfl, ?_⟩, fun c => ⟨i + 1, by omega, (wsucc (by omega)).symm, rfl, ?_⟩⟩
    · unfold Cm.upG; dsimp only
      rw [modAt_modAt]
      refine modAt_congr _ _ _ ?_
      dsimp only
      rw [key2 _ i l2 hi, key3 _ i l2 hi]
      rw [Bool.and_eq_true, beq_iff_eq] at c
      unfold Cm.clr; rw [if_pos c]
    · unfold Cm.upG; dsimp only
      refine modAt_congr _ _ _ ?_
      rw [key2 _ i l2 hi]
      have hd := Cm.drop_getD Cm.s0 (show i < (h.2.1.getD g.toNat Cm.g0).2.2.length by omega)
      have e : Cm.clr p ((h.2.1.getD g.toNat Cm.g0).2.2.getD i Cm.s0) = (h.2.1.getD g.toNat Cm.g0).2.2.getD i Cm.s0 := by
        unfold Cm.clr; rw [if_neg]; intro x; rw [x.1, x.2] at c; simp at c
      rw [e, hd]
  · have hi : ¬ (i : Int) < 6 := of_decide_eq_false hi
    unfold Cm.forgetP Cm.upG; dsimp only
    congr 2
    refine modAt_congr _ _ _ ?_
    rw [List.take_of_length_le (by omega), List.drop_of_length_le (by omega), List.append_nil]))
end Go.Proofs.Ytkcpacgnejlpbaa.T
open Go Go.Am Go.Proofs
open Go.Cm (R rdOk)
namespace Go.Proofs.Ytkcpacgnejlpbaa.T
set_option maxRecDepth 10000
theorem ok_spec_l13Same : FOk E_spec_l13Same Try.f111 sSame := FOk.of2 fun (a b : Cm.Pg) hn => FGA.fg ((vc_spec_l13Same a b).mpr (by
  obtain ⟨ha, hb⟩ := (show a.length = 4 ∧ b.length = 4 from hn)
  simp only [ifb_iff, imp_self, true_and, and_true, implies_true]
  refine ⟨⟨0, ⟨by omega, rfl⟩, rfl⟩, fun i ⟨g1, g2⟩ => ⟨fun hl => ?_, fun hl => ?_⟩⟩
  · have hl := lt_of hl
    rw [Cm.drop_getD (0 : Int) hl, Cm.drop_getD (0 : Int) (show i < b.length by omega), Cm.eqI_cons] at g2
    refine ⟨by omega, by omega, fun c => ?_, fun c => ⟨i + 1, ⟨⟨by omega, ?_⟩, by omega⟩, (wsucc (by omega)).symm⟩⟩
    · rw [g2, decide_eq_false (by simpa using c)]; rfl
    · rw [g2, decide_eq_true (by simpa using c)]; rfl
  · have hl := ge_of hl
    rw [g2, List.drop_of_length_le hl, List.drop_of_length_le (by omega)]; rfl))
theorem see_okG {h : Cm.Ho} (hs : Cm.shH h) {g : Int} (hg : 0 ≤ g ∧ g < (h.2.1.length : Int)) : Cm.okG (Cm.see h g) = true := by
  have hgn : g.toNat < h.2.1.length := by omega
  have k := fun p hp => page_ok hs hgn (p := p) hp
  unfold Cm.gAt at k
  unfold Cm.okG Cm.see Cm.seeG Cm.okM Cm.okM Cm.okM Cm.okM Cm.okM Cm.okM Cm.okM
  rw [k 0 (by omega), k 1 (by omega), k 2 (by omega), k 3 (by omega), k 4 (by omega), k 5 (by omega)]
  rfl
end Go.Proofs.Ytkcpacgnejlpbaa.T
open Go Go.Am Go.Proofs
open Go.Cm (R rdOk)
namespace Go.Proofs.Ytkcpacgnejlpbaa.T
set_option maxRecDepth 10000
set_option maxHeartbeats 0
end Go.Proofs.Ytkcpacgnejlpbaa.T
open Go Go.Am Go.Proofs
open Go.Cm (R rdOk)
namespace Go.Proofs.Ytkcpacgnejlpbaa.T
set_option maxRecDepth 10000
/-- A page is put to a frame, its shades are forgotten. -/
theorem sh_put {h : Cm.Ho} (hs : Cm.shH h) (g p : Nat) {m : Cm.E → Cm.E} (q : Int) (hm : ∀ x : Cm.E, (m x).1 = true → 0 ≤ (m x).2.1 ∧ (m x).2.1 ≤ 7) : Cm.shH (Cm.upG h g fun x => (Cm.modAt x.1 p Cm.e0 m, x.2.1, x.2.2.map (Cm.clr q))) := shH_upG hs fun _ hx => by
  obtain ⟨h1, h2, h3⟩ := hx
  obtain ⟨l1, l2, l3⟩ := szOk_get h1
  obtain ⟨c1, c2⟩ := shs_clr l2 h3 q
  obtain ⟨d1, d2⟩ := maps_set l1 h2 p (hm ((Cm.gAt h g).1.getD p Cm.e0))
  exact shG_mk d1 l3 c1 d2 c2
theorem sh_put1 {h : Cm.Ho} (hs : Cm.shH h) (g p : Nat) {m : Cm.E → Cm.E} (hm : ∀ x : Cm.E, (m x).1 = true → 0 ≤ (m x).2.1 ∧ (m x).2.1 ≤ 7) : Cm.shH (Cm.upG h g fun x => (Cm.modAt x.1 p Cm.e0 m, x.2)) := shH_upG hs fun _ hx => by
  obtain ⟨h1, h2, h3⟩ := hx
  obtain ⟨l1, l2, l3⟩ := szOk_get h1
  obtain ⟨d1, d2⟩ := maps_set l1 h2 p (hm ((Cm.gAt h g).1.getD p Cm.e0))
  exact shG_mk d1 l3 l2 d2 h3
theorem put_forget (h : Cm.Ho) (g p : Nat) (m : Cm.E → Cm.E) : Cm.forgetP (Cm.upG h g fun x => (Cm.modAt x.1 p Cm.e0 m, x.2)) g (p : Int) = Cm.upG h g fun x => (Cm.modAt x.1 p Cm.e0 m, x.2.1, x.2.2.map (Cm.clr (p : Int))) := by
  unfold Cm.forgetP Cm.upG; dsimp only; rw [modAt_modAt]
theorem ok_spec_l13Share : FOk E_spec_l13Share Try.f112 sShareT := FOk.of3 fun (h : Cm.Ho) (x y : Int) hn => FGA.fg ((vc_spec_l13Share h x y).mpr (by
  obtain ⟨hs, hx, hy⟩ := (show Cm.shH h ∧ (0 ≤ x ∧ x ≤ 7) ∧ 0 ≤ y ∧ y ≤ 7 from hn)
  have hl2 := (shH_get hs).2.1
  simp only [ifb_iff, imp_self, true_and, and_true, implies_true, Cm.modAt_len]
  refine ⟨⟨(0, h), ⟨⟨by omega, hs⟩, rfl, rfl⟩, rfl, ⟨rfl, rfl⟩, rfl, rfl, rfl, rfl⟩, ?_⟩
  rintro ⟨g, z⟩ ⟨⟨h1, h2⟩, h3, h4⟩
  dsimp only at h1 h2 h3 h4 ⊢
  refine ⟨fun hg => ?_, fun hg => ?_⟩
  · have hg := lt_of hg
    rw [show h.2.1.length - g = (h.2.1.length - (g + 1)) + 1 by omega, Cm.shareG] at h4
    refine ⟨⟨(0, z), ⟨⟨by omega, h2⟩, ⟨hg, h3⟩, h4⟩, rfl, ⟨rfl, rfl⟩, rfl⟩, ?_⟩
    rintro ⟨p, w⟩ ⟨⟨q1, q2⟩, ⟨q3, q4⟩, q5⟩
    dsimp only at q1 q2 q3 q4 q5 ⊢
    refine ⟨fun hp => ?_, fun hp => ?_⟩
    · have hp : (p : Int) < 6 := of_decide_eq_true hp
      obtain ⟨l1, l2, l3⟩ := szOk_get (q2.2 g q3).1
      rw [show 6 - p = (6 - (p + 1)) + 1 by omega, Cm.shareP] at q5
      have k1 := sh_put1 q2 g p (m := fun _ => (true, y, false)) (fun _ _ => hy)
      have k2 := sh_put q2 g p (m := fun _ => (true, y, false)) (p : Int) (fun _ _ => hy)
      have k3 := put_forget w g p (fun _ => (true, y, false))
      have k4 : (Cm.upG w g fun x => (x.1.set p (true, y, false), x.2.1, x.2.2.map (Cm.clr (p : Int)))) = Cm.forgetP (Cm.upG w g fun x => (x.1.set p (true, y, false), x.2)) g (p : Int) := k3.symm
      rw [k4] at q5
      refine ⟨by omega, by omega, fun a b => ?_, fun c => ⟨by omega, by omega, ⟨k1, by omega, by omega, by omega⟩, (p + 1, Cm.forgetP (Cm.upG w g fun x => (x.1.set p (true, y, false), x.2)) g (p : Int)), ⟨⟨⟨by omega, ?_⟩, ⟨by rw [forgetP_len, upG_len]; exact q3, by rw [forgetP_len, upG_len]; exact q4⟩, ?_⟩, by dsimp only; omega⟩, (wsucc (by omega)).symm, ⟨rfl, rfl⟩, rfl⟩,
        fun c => ⟨(p + 1, w), ⟨⟨⟨by omega, q2⟩, ⟨q3, q4⟩, ?_⟩, by dsimp only; omega⟩, (wsucc (by omega)).symm, ⟨rfl, rfl⟩, rfl⟩⟩
      · rw [a, b]; rfl
      · rw [← k4]; exact k2
      · rw [Bool.and_eq_true, Bool.or_eq_true, beq_iff_eq, beq_iff_eq] at c
        have c : (Cm.mAt w g p).1 = true ∧ ((Cm.mAt w g p).2.1 = x ∨ (Cm.mAt w g p).2.1 = y) := c
        rw [if_pos c] at q5; exact q5
      · rw [if_neg] at q5
        · exact q5
        · intro e; unfold Cm.mAt Cm.gAt at e; rw [e.1] at c
          rcases e.2 with k | k <;> · rw [k] at c; simp at c
    · have hp : ¬ (p : Int) < 6 := of_decide_eq_false hp
      rw [show 6 - p = 0 by omega, Cm.shareP] at q5
      exact ⟨(g + 1, w), ⟨⟨⟨by omega, q2⟩, q4, q5⟩, by dsimp only; omega⟩, (wsucc (by omega)).symm, ⟨rfl, rfl⟩, rfl⟩
  · have hg := ge_of hg
    rw [h4, show h.2.1.length - g = 0 by omega]; rfl))
theorem joinGo_step (h : Cm.Ho) {a : Nat} (c : a < 8) : Cm.joinGo h (8 - a) a = match Cm.joinIn h a (8 - (a + 1)) (a + 1) with
    | some x => some x
    | none => Cm.joinGo h (8 - (a + 1)) (a + 1) := by
  rw [show 8 - a = (8 - (a + 1)) + 1 by omega, Cm.joinGo]
  rfl
theorem ok_spec_l13Join : FOk E_spec_l13Join Try.f76 sJoinT := FOk.of1 fun (h : Cm.Ho) hn => FGA.fg ((vc_spec_l13Join h).mpr (by
  have hs : Cm.shH h := hn
  have hb := shH_bd hs
  obtain ⟨⟨f1, f2⟩, _⟩ := shH_get hs
  simp only [ifb_iff, imp_self, true_and, and_true, implies_true]
  refine ⟨⟨0, ⟨by omega, rfl⟩, rfl, rfl, rfl, rfl⟩, fun a ⟨h1, h2⟩ => ⟨fun ha => ?_, fun ha => ?_⟩⟩
  · have ha : (a : Int) < 8 := of_decide_eq_true ha
    refine ⟨⟨a + 1, ⟨⟨by omega, by omega⟩, rfl, h2⟩, (wsucc (by omega)).symm⟩, fun b ⟨⟨h3, h4⟩, h5, _⟩ => ⟨fun hb' => ?_, fun hb' => ?_⟩⟩
    · have hb' : (b : Int) < 8 := of_decide_eq_true hb'
      have c1 := Cm.okP_len (shH_row hs (i := a) (by omega))
      have c2 := Cm.okP_len (shH_row hs (i := b) (by omega))
      rw [joinGo_step h h3, h5, show 8 - b = (8 - (b + 1)) + 1 by omega, Cm.joinIn] at h2
      refine ⟨hb, fun _ => hb, fun _ => by omega, fun _ => by omega, fun _ => ⟨c1, c2⟩, fun c => ⟨⟨hs, by omega, by omega⟩, ?_⟩, fun c => ⟨b + 1, ⟨⟨⟨by omega, by omega⟩, ?_, by assumption⟩, by omega⟩, (wsucc (by omega)).symm⟩⟩
      · have c : Cm.canJoin h a b = true := c
        rw [if_pos c] at h2
        unfold Cm.join; rw [h2]; exact ⟨rfl, rfl⟩
      · have c : Cm.canJoin h a b = false := c
        rw [h5, show 8 - b = (8 - (b + 1)) + 1 by omega, Cm.joinIn, if_neg (by rw [c]; simp)]
    · have hb' : ¬ (b : Int) < 8 := of_decide_eq_false hb'
      rw [show 8 - b = 0 by omega, Cm.joinIn] at h5
      rw [joinGo_step h h3, h5] at h2
      exact ⟨a + 1, ⟨⟨by omega, h2⟩, by omega⟩, (wsucc (by omega)).symm⟩
  · have ha : ¬ (a : Int) < 8 := of_decide_eq_false ha
    rw [show 8 - a = 0 by omega, Cm.joinGo] at h2
    unfold Cm.join; rw [h2]; exact ⟨rfl, rfl⟩))
end Go.Proofs.Ytkcpacgnejlpbaa.T
open Go Go.Am Go.Proofs
open Go.Cm (R rdOk)
namespace Go.Proofs.Ytkcpacgnejlpbaa.T
set_option maxRecDepth 10000
abbrev keeps (h x : Cm.Ho) : Prop := Cm.shH x ∧ x.2.1.length = h.2.1.length
theorem keeps_refl {h : Cm.Ho} (hs : Cm.shH h) : keeps h h := ⟨hs, rfl⟩
theorem sh_shareP (a b : Int) (hb : 0 ≤ b ∧ b ≤ 7) (g : Nat) : ∀ (n p : Nat) {h : Cm.Ho}, Cm.shH h → keeps h (Cm.shareP a b g n p h)
  | 0, _, _, hs => ⟨hs, rfl⟩
  | n + 1, p, h, hs => by
    rw [Cm.shareP]
    split
    · obtain ⟨x, y⟩ := sh_shareP a b hb g n (p + 1) (sh_put hs g p (m := fun _ => (true, b, false)) (p : Int) (fun _ _ => hb))
      exact ⟨x, by rw [upG_len] at y; exact y⟩
    · exact sh_shareP a b hb g n (p + 1) hs
theorem sh_shareG (a b : Int) (hb : 0 ≤ b ∧ b ≤ 7) : ∀ (n g : Nat) {h : Cm.Ho}, Cm.shH h → keeps h (Cm.shareG a b n g h)
  | 0, _, _, hs => ⟨hs, rfl⟩
  | n + 1, g, h, hs => by
    rw [Cm.shareG]
    obtain ⟨x, y⟩ := sh_shareP a b hb g 6 0 hs
    obtain ⟨u, v⟩ := sh_shareG a b hb n (g + 1) x
    exact ⟨u, by rw [v, y]⟩
theorem sh_joinIn {h : Cm.Ho} (hs : Cm.shH h) (a : Nat) (ha : a < 8) : ∀ (n b : Nat) {x : Cm.Ho}, Cm.joinIn h a n b = some x → keeps h x
  | 0, _, _, e => by cases e
  | n + 1, b, x, e => by
    rw [Cm.joinIn] at e
    split at e
    · rw [← Option.some.inj e]; exact sh_shareG _ _ (by omega) _ _ hs
    · exact sh_joinIn hs a ha n (b + 1) e
theorem sh_joinGo {h : Cm.Ho} (hs : Cm.shH h) : ∀ (n a : Nat) {x : Cm.Ho}, n + a ≤ 8 → Cm.joinGo h n a = some x → keeps h x
  | 0, _, _, _, e => by cases e
  | n + 1, a, x, hn, e => by
    rw [Cm.joinGo] at e
    split at e
    · rename_i z hz
      rw [← Option.some.inj e]; exact sh_joinIn hs a (by omega) _ _ hz
    · exact sh_joinGo hs n (a + 1) (by omega) e
theorem sh_join {h : Cm.Ho} (hs : Cm.shH h) : keeps h (Cm.join h).1 := by
  unfold Cm.join
  split
  · rename_i x hx; exact sh_joinGo hs 8 0 (by omega) hx
  · exact keeps_refl hs
end Go.Proofs.Ytkcpacgnejlpbaa.T
open Go Go.Am Go.Proofs
open Go.Cm (R rdOk)
namespace Go.Proofs.Ytkcpacgnejlpbaa.T
set_option maxRecDepth 10000
structure PlOk (pl : R → R × Int × List Cm.A) : Prop where
  rd : ∀ r, rdOk r 137438953472 → (pl r).1.1 = r.1 ∧ r.2 ≤ (pl r).1.2 ∧ (pl r).1.2 ≤ r.2 + 1200
  num : ∀ r, rdOk r 137438953472 → 1 ≤ (pl r).2.1 ∧ (pl r).2.1 ≤ 2
  len : ∀ r, rdOk r 137438953472 → (pl r).2.2.length ≤ 60
end Go.Proofs.Ytkcpacgnejlpbaa.T
open Go Go.Am Go.Proofs
open Go.Cm (R rdOk)
namespace Go.Proofs.Ytkcpacgnejlpbaa.T
set_option maxRecDepth 10000
end Go.Proofs.Ytkcpacgnejlpbaa.T
open Go Go.Am Go.Proofs
open Go.Cm (R rdOk)
namespace Go.Proofs.Ytkcpacgnejlpbaa.T
set_option maxRecDepth 10000
theorem ok_impl_Guest_unshade : FOk E_impl_Guest_unshade Try.f61 sUnshade := FOk.of2 fun (g : Cm.Gt) (p : Int) hn => FGA.fg ((vc_impl_Guest_unshade g p).mpr (by
  have hl : g.2.2.length ≤ 1048576 := hn
  simp only [ifb_iff, imp_self, true_and, and_true, implies_true]
  refine ⟨⟨0, by omega, rfl, by simp⟩, fun i hi => ⟨fun c => ?_, fun c => ?_⟩⟩
  · have c := lt_of c
    have hlen : (List.map (Cm.clr p) (List.take i g.2.2) ++ List.drop i g.2.2).length = g.2.2.length := by simp; omega
    have hd : List.getD (List.map (Cm.clr p) (List.take i g.2.2) ++ List.drop i g.2.2) i Cm.s0 = g.2.2.getD i Cm.s0 := by
      rw [List.getD_eq_getElem?_getD, List.getElem?_append_right (by simp; omega), List.getElem?_drop, List.getD_eq_getElem?_getD]
      congr 2; simp; omega
    have hs : ∀ v : Cm.Sh, (List.map (Cm.clr p) (List.take i g.2.2) ++ List.drop i g.2.2).set i v = List.map (Cm.clr p) (List.take i g.2.2) ++ v :: List.drop (i + 1) g.2.2 := by
      intro v
      rw [List.drop_eq_getElem_cons c]
      exact Cm.set_mid _ _ (by simp; omega)
    have ht : List.map (Cm.clr p) (List.take (i + 1) g.2.2) ++ List.drop (i + 1) g.2.2 = List.map (Cm.clr p) (List.take i g.2.2) ++ Cm.clr p (g.2.2.getD i Cm.s0) :: List.drop (i + 1) g.2.2 := by
      rw [Cm.take_succ_getD Cm.s0 c, List.map_append, List.append_assoc]; rfl
    rw [hlen]
    refine ⟨by omega, fun d => ⟨by omega, i + 1, ⟨by omega, by omega⟩, (wsucc (by omega)).symm, ?_⟩, fun d => ⟨i + 1, ⟨by omega, by omega⟩, (wsucc (by omega)).symm, ?_⟩⟩
    · rw [hs, ht]
      have : Cm.clr p (g.2.2.getD i Cm.s0) = Cm.s0 := by
        rw [hd, Bool.and_eq_true, beq_iff_eq] at d
        unfold Cm.clr; rw [if_pos d]
      rw [this]
    · rw [ht]
      have : Cm.clr p (g.2.2.getD i Cm.s0) = g.2.2.getD i Cm.s0 := by
        rw [hd] at d
        unfold Cm.clr; rw [if_neg]; intro e; rw [e.1, e.2] at d; simp at d
      rw [this]
      congr 1
      rw [List.drop_eq_getElem_cons c]
      simp [List.getD, c]
  · have c := ge_of c
    rw [List.take_of_length_le (by omega), List.drop_of_length_le (by omega), List.append_nil]))
end Go.Proofs.Ytkcpacgnejlpbaa.T
open Go Go.Am Go.Proofs
open Go.Cm (R rdOk)
namespace Go.Proofs.Ytkcpacgnejlpbaa.T
set_option maxRecDepth 10000
end Go.Proofs.Ytkcpacgnejlpbaa.T
open Go Go.Am Go.Proofs
open Go.Cm (R rdOk)
namespace Go.Proofs.Ytkcpacgnejlpbaa.T
set_option maxRecDepth 10000
set_option maxHeartbeats 0
theorem ok_spec_PageJoin : FOk E_spec_PageJoin Try.f27 sPgJoin := FOk.of1 fun (h : Cm.Ho) hn => FGA.fg ((vc_spec_PageJoin h).mpr (by
  have hb : Cm.bdH h := hn
  simp only [ifb_iff, imp_self, true_and, and_true, implies_true]
  unfold Cm.pgJoin
  refine ⟨hb, fun c => ?_, fun c => ?_⟩
  · rw [if_neg (by rw [bnt c]; simp)]; exact ⟨rfl, rfl⟩
  · rw [if_pos (bnf c)]; exact ⟨hb, hOk_shH (bnf c), rfl, rfl⟩))
end Go.Proofs.Ytkcpacgnejlpbaa.T
open Go Go.Am Go.Proofs
open Go.Cm (R rdOk)
namespace Go.Proofs.Ytkcpacgnejlpbaa.T
set_option maxRecDepth 10000
set_option maxHeartbeats 0
end Go.Proofs.Ytkcpacgnejlpbaa.T
open Go Go.Am Go.Proofs
open Go.Cm (R rdOk)
namespace Go.Proofs.Ytkcpacgnejlpbaa.T
set_option maxRecDepth 10000
set_option maxHeartbeats 0
end Go.Proofs.Ytkcpacgnejlpbaa.T
open Go Go.Am Go.Proofs
open Go.Cm (R rdOk)
namespace Go.Proofs.Ytkcpacgnejlpbaa.T
set_option maxRecDepth 10000
set_option maxHeartbeats 0
theorem cnt_ok : ∀ {m : Cm.Mm}, Cm.okM m = true → Cm.cnt m = 4 * (m.length : Int)
  | [], _ => rfl
  | a :: m, h => by
    rw [Cm.okM, Bool.and_eq_true] at h
    have := Cm.okP_len h.1
    rw [Cm.cnt, cnt_ok h.2, List.length_cons]; omega
theorem totG_sh {g : Cm.Gt} (h : Cm.shG g) : Cm.totG g = 42 := by
  obtain ⟨l1, l2, l3⟩ := szOk_get h.1
  have l4 := Cm.okG_len l3
  unfold Cm.totG Cm.totM; rw [cnt_ok (okG_okM l3)]; omega
theorem totS_sh : ∀ {l : List Cm.Gt}, (∀ i, i < l.length → Cm.shG (l.getD i Cm.g0)) → Cm.totS l = 42 * (l.length : Int)
  | [], _ => rfl
  | g :: l, h => by
    have h0 := h 0 (by simp)
    have := totS_sh (l := l) fun i hi => h (i + 1) (by simpa using hi)
    rw [Cm.totS, this, totG_sh (show Cm.shG g from h0), List.length_cons]; omega
theorem sh_tot {h : Cm.Ho} (hs : Cm.shH h) : Cm.totH h ≤ 1048576 := by
  obtain ⟨⟨a, b⟩, c, d⟩ := shH_get hs
  unfold Cm.totH Cm.totM Cm.totGs; rw [cnt_ok b, totS_sh hs.2]; omega
theorem h0_tot : Cm.totH Cm.h0 ≤ 1048576 := by decide
theorem pgJoin_sh (h : Cm.Ho) : (Cm.pgJoin h).1 = Cm.h0 ∨ (Cm.hOk h = true ∧ keeps h (Cm.pgJoin h).1) := by
  unfold Cm.pgJoin; split
  · rename_i c
    exact .inr ⟨c, sh_join (hOk_shH c)⟩
  · exact .inl rfl
theorem tot_of {x h : Cm.Ho} {P : Prop} (e : x = Cm.h0 ∨ (P ∧ keeps h x)) : Cm.totH x ≤ 1048576 := by
  rcases e with e | e
  · rw [e]; exact h0_tot
  · exact sh_tot e.2.1
theorem ok_laws_FnExactPageJoin : FOk E_laws_FnExactPageJoin Try.f5 sLawH := FOk.of1 fun (h : Cm.Ho) hn => FGA.fg ((vc_laws_FnExactPageJoin h).mpr (by
  have hw : Cm.wfH h := hn
  simp only [ifb_iff, imp_self, true_and, and_true, implies_true, mkH_eta]
  refine ⟨⟨hw, by decide, by decide⟩, fun c => ?_⟩
  have ht : Cm.totH h ≤ 1048576 := by have := szn c; omega
  have hb := Cm.totH_bd ht
  have ht2 := tot_of (pgJoin_sh h)
  have hd := Cm.totH_bd ht2
  have ht3 : Cm.totH (Cm.mkH ((Cm.pgJoin h).1) 1) ≤ 1048576 := by rw [Cm.totH_mk]; exact ht2
  have hm := Cm.totH_bd ht3
  have c1 := Cm.cntH_nn h
  have c2 := Cm.cntH_nn ((Cm.pgJoin h).1)
  have n1 : ¬ 1 + Cm.cntH h < 0 := by omega
  have n2 : ¬ 1 + Cm.cntH ((Cm.pgJoin h).1) < 0 := by omega
  simp [hb, hd, hm, ht, ht2, ht3, Cm.eqH_refl, Cm.mkH_mkH, Cm.cntH_mk, n1, n2]))
end Go.Proofs.Ytkcpacgnejlpbaa.T
open Go Go.Am Go.Proofs
open Go.Cm (R rdOk)
namespace Go.Proofs.Ytkcpacgnejlpbaa.T
set_option maxRecDepth 10000
theorem kn_spec_l13Forget : Known Try.prog 138 sForgetPT := known_of tabOk (kn0) mixed Try.func138 (by kernel_rfl) ok_spec_l13Forget
theorem kn_spec_l13Share : Known Try.prog 112 sShareT := known_of tabOk (AllK.cons kn0 kn_spec_l13Forget) mixed Try.func112 (by kernel_rfl) ok_spec_l13Share
theorem kn_spec_l13Same : Known Try.prog 111 sSame := known_of tabOk (kn0) mixed Try.func111 (by kernel_rfl) ok_spec_l13Same
theorem kn_spec_l13Join : Known Try.prog 76 sJoinT := known_of tabOk (AllK.cons (AllK.cons (AllK.cons kn0 kn_spec_l13Share) kn_spec_l13Same) kn_spec_l12Users) mixed Try.func76 (by kernel_rfl) ok_spec_l13Join
theorem kn_impl_Guest_unshade : Known Try.prog 61 sUnshade := known_of tabOk (kn0) mixed Try.func61 (by kernel_rfl) ok_impl_Guest_unshade
theorem kn_spec_PageJoin : Known Try.prog 27 sPgJoin := known_of tabOk (AllK.cons (AllK.cons (AllK.cons kn0 kn_spec_l13Join) kn_spec_l12Copy) kn_spec_HostOk) mixed Try.func27 (by kernel_rfl) ok_spec_PageJoin
end Go.Proofs.Ytkcpacgnejlpbaa.T
open Go Go.Am Go.Proofs
open Go.Cm (R rdOk)
namespace Go.Proofs.Ytkcpacgnejlpbaa.T
set_option maxRecDepth 10000
set_option maxHeartbeats 0
end Go.Proofs.Ytkcpacgnejlpbaa.T
open Go Go.Am Go.Proofs
open Go.Cm (R rdOk)
namespace Go.Proofs.Ytkcpacgnejlpbaa.T
set_option maxRecDepth 10000
set_option maxHeartbeats 0
end Go.Proofs.Ytkcpacgnejlpbaa.T
open Go Go.Am Go.Proofs
open Go.Cm (R rdOk)
namespace Go.Proofs.Ytkcpacgnejlpbaa.T
set_option maxRecDepth 10000
set_option maxHeartbeats 0
def dAt (h : Cm.Ho) (g p : Nat) : Cm.Pg := List.getD (Cm.gAt h g).2.1 p []
def EOk (h : Cm.Ho) (g p : Nat) : Prop := ((Cm.mAt h g p).1 = false → Cm.mAt h g p = Cm.e0) ∧
  ((Cm.mAt h g p).1 = true → (0 ≤ (Cm.mAt h g p).2.1 ∧ (Cm.mAt h g p).2.1 ≤ 7) ∧ Cm.blank (dAt h g p) = true ∧
    ((Cm.mAt h g p).2.2 = true → ∀ k q, k < h.2.1.length → q < 6 → (Cm.mAt h k q).1 = true → (Cm.mAt h k q).2.1 = (Cm.mAt h g p).2.1 → k = g ∧ q = p))
def SOk (h : Cm.Ho) (g i : Nat) : Prop := ((Cm.sAt h g i).1 = false → Cm.sAt h g i = Cm.s0) ∧
  ((Cm.sAt h g i).1 = true → (2 ≤ (Cm.sAt h g i).2.1 ∧ (Cm.sAt h g i).2.1 ≤ 5) ∧ (Cm.mAt h g (Cm.sAt h g i).2.1.toNat).1 = true ∧ (Cm.mAt h g (Cm.sAt h g i).2.1.toNat).2.1 = (Cm.sAt h g i).2.2.1 ∧
    ((Cm.sAt h g i).2.2.2 = true → (Cm.mAt h g (Cm.sAt h g i).2.1.toNat).2.2 = true))
structure Ok (h : Cm.Ho) : Prop where
  sh : Cm.shH h
  e : ∀ g p, g < h.2.1.length → p < 6 → EOk h g p
  s : ∀ g i, g < h.2.1.length → i < 6 → SOk h g i
theorem gAt_len {h : Cm.Ho} (hs : Cm.shH h) {g : Nat} (hg : g < h.2.1.length) : (Cm.gAt h g).1.length = 6 ∧ (Cm.gAt h g).2.1.length = 6 ∧ (Cm.gAt h g).2.2.length = 6 := by
  obtain ⟨l1, l2, l3⟩ := szOk_get (hs.2 g hg).1
  exact ⟨l1, Cm.okG_len l3, l2⟩
end Go.Proofs.Ytkcpacgnejlpbaa.T
open Go Go.Am Go.Proofs
open Go.Cm (R rdOk)
namespace Go.Proofs.Ytkcpacgnejlpbaa.T
set_option maxRecDepth 10000
set_option maxHeartbeats 0
theorem gAt_up {h : Cm.Ho} {g : Nat} {f : Cm.Gt → Cm.Gt} {k : Nat} (hk : k < h.2.1.length) : Cm.gAt (Cm.upG h g f) k = if g = k then f (Cm.gAt h k) else Cm.gAt h k := upG_get h g f hk
def pgA (h : Cm.Ho) (k q : Nat) : Cm.Pg := if (Cm.mAt h k q).1 = true then h.1.getD (Cm.mAt h k q).2.1.toNat [] else dAt h k q
theorem see_ext {h x : Cm.Ho} {k : Nat} (e : ∀ q, q < 6 → pgA h k q = pgA x k q) : Cm.see h (k : Int) = Cm.see x (k : Int) := by
  have a : ∀ y : Cm.Ho, Cm.see y (k : Int) = [pgA y k 0, pgA y k 1, pgA y k 2, pgA y k 3, pgA y k 4, pgA y k 5] := fun y => rfl
  rw [a, a, e 0 (by omega), e 1 (by omega), e 2 (by omega), e 3 (by omega), e 4 (by omega), e 5 (by omega)]
theorem see_get (h : Cm.Ho) (k : Nat) {q : Nat} (hq : q < 6) : (Cm.see h (k : Int)).getD q [] = pgA h k q := by
  have a : Cm.see h (k : Int) = [pgA h k 0, pgA h k 1, pgA h k 2, pgA h k 3, pgA h k 4, pgA h k 5] := rfl
  rw [a]
  have : q = 0 ∨ q = 1 ∨ q = 2 ∨ q = 3 ∨ q = 4 ∨ q = 5 := by omega
  rcases this with rfl | rfl | rfl | rfl | rfl | rfl <;> rfl
/-- Nobody sees a difference. -/
structure Same (h x : Cm.Ho) : Prop where
  len : x.2.1.length = h.2.1.length
  pg : ∀ k q, k < h.2.1.length → q < 6 → pgA x k q = pgA h k q
theorem Same.refl (h : Cm.Ho) : Same h h := ⟨rfl, fun _ _ _ _ => rfl⟩
theorem Same.trans {h x y : Cm.Ho} (a : Same h x) (b : Same x y) : Same h y := ⟨b.len.trans a.len, fun k q hk hq => (b.pg k q (by rw [a.len]; exact hk) hq).trans (a.pg k q hk hq)⟩
section
variable {h : Cm.Ho} (hs : Cm.shH h) {g p : Nat} (hg : g < h.2.1.length) (hp : p < 6)
include hs hg hp
end
theorem clr_cases (p : Int) (s : Cm.Sh) : (Cm.clr p s = Cm.s0 ∧ s.1 = true ∧ s.2.1 = p) ∨ (Cm.clr p s = s ∧ ¬ (s.1 = true ∧ s.2.1 = p)) := by
  unfold Cm.clr
  by_cases c : s.1 = true ∧ s.2.1 = p
  · rw [if_pos c]; exact .inl ⟨rfl, c⟩
  · rw [if_neg c]; exact .inr ⟨rfl, c⟩
end Go.Proofs.Ytkcpacgnejlpbaa.T
open Go Go.Am Go.Proofs
open Go.Cm (R rdOk)
namespace Go.Proofs.Ytkcpacgnejlpbaa.T
set_option maxRecDepth 10000
set_option maxHeartbeats 0
section
variable {h : Cm.Ho} (hs : Cm.shH h) {g p : Nat} {f : Int}
include hs
omit hs in
end
end Go.Proofs.Ytkcpacgnejlpbaa.T
open Go Go.Am Go.Proofs
open Go.Cm (R rdOk)
namespace Go.Proofs.Ytkcpacgnejlpbaa.T
set_option maxRecDepth 10000
set_option maxHeartbeats 0
end Go.Proofs.Ytkcpacgnejlpbaa.T
open Go Go.Am Go.Proofs
open Go.Cm (R rdOk)
namespace Go.Proofs.Ytkcpacgnejlpbaa.T
set_option maxRecDepth 10000
set_option maxHeartbeats 0
end Go.Proofs.Ytkcpacgnejlpbaa.T
open Go Go.Am Go.Proofs
open Go.Cm (R rdOk)
namespace Go.Proofs.Ytkcpacgnejlpbaa.T
set_option maxRecDepth 10000
set_option maxHeartbeats 0
def inL : List Cm.E → Int
  | [] => 0
  | m :: l => (if m.1 = true then 1 else 0) + inL l
def inS : List Cm.Gt → Int
  | [] => 0
  | g :: l => inL g.1 + inS l
end Go.Proofs.Ytkcpacgnejlpbaa.T
open Go Go.Am Go.Proofs
open Go.Cm (R rdOk)
namespace Go.Proofs.Ytkcpacgnejlpbaa.T
set_option maxRecDepth 10000
set_option maxHeartbeats 0
end Go.Proofs.Ytkcpacgnejlpbaa.T
open Go Go.Am Go.Proofs
open Go.Cm (R rdOk)
namespace Go.Proofs.Ytkcpacgnejlpbaa.T
set_option maxRecDepth 10000
set_option maxHeartbeats 0
end Go.Proofs.Ytkcpacgnejlpbaa.T
open Go Go.Am Go.Proofs
open Go.Cm (R rdOk)
namespace Go.Proofs.Ytkcpacgnejlpbaa.T
set_option maxRecDepth 10000
set_option maxHeartbeats 0
section
variable {h : Cm.Ho} {g i : Nat} {s : Cm.Sh}
end
end Go.Proofs.Ytkcpacgnejlpbaa.T
open Go Go.Am Go.Proofs
open Go.Cm (R rdOk)
namespace Go.Proofs.Ytkcpacgnejlpbaa.T
set_option maxRecDepth 10000
set_option maxHeartbeats 0
end Go.Proofs.Ytkcpacgnejlpbaa.T
open Go Go.Am Go.Proofs
open Go.Cm (R rdOk)
namespace Go.Proofs.Ytkcpacgnejlpbaa.T
set_option maxRecDepth 10000
set_option maxHeartbeats 0
section
variable {x : Cm.Ho} (o : Ok x) {g p : Nat} (hg : g < x.2.1.length) (hp : p < 6)
include o hg hp
end
end Go.Proofs.Ytkcpacgnejlpbaa.T
open Go Go.Am Go.Proofs
open Go.Cm (R rdOk)
namespace Go.Proofs.Ytkcpacgnejlpbaa.T
set_option maxRecDepth 10000
set_option maxHeartbeats 0
end Go.Proofs.Ytkcpacgnejlpbaa.T
open Go Go.Am Go.Proofs
open Go.Cm (R rdOk)
namespace Go.Proofs.Ytkcpacgnejlpbaa.T
set_option maxRecDepth 10000
set_option maxHeartbeats 0
/-- A page was written. -/
def Wr (h : Cm.Ho) (r : Cm.Ho × Int) (g q n : Nat) (w : Int) : Prop :=
  r.2 = (pgA h g q).getD n 0 ∧ ∀ k j, k < h.2.1.length → j < 6 → pgA r.1 k j = if k = g ∧ j = q then (pgA h g q).set n w else pgA h k j
theorem Wr.nn {h : Cm.Ho} (o : Ok h) {r : Cm.Ho × Int} {g q n : Nat} {w : Int} (hg : g < h.2.1.length) (hq : q < 6) (W : Wr h r g q n w) : 0 ≤ r.2 := by
  have := Cm.okP_get (Cm.okG_okP (see_okG o.sh (g := ((g : Nat) : Int)) (by omega)) hq) n
  rw [see_get _ _ hq] at this
  rw [W.1]; exact this.1
end Go.Proofs.Ytkcpacgnejlpbaa.T
open Go Go.Am Go.Proofs
open Go.Cm (R rdOk)
namespace Go.Proofs.Ytkcpacgnejlpbaa.T
set_option maxRecDepth 10000
set_option maxHeartbeats 0
end Go.Proofs.Ytkcpacgnejlpbaa.T
open Go Go.Am Go.Proofs
open Go.Cm (R rdOk)
namespace Go.Proofs.Ytkcpacgnejlpbaa.T
set_option maxRecDepth 10000
set_option maxHeartbeats 0
end Go.Proofs.Ytkcpacgnejlpbaa.T
open Go Go.Am Go.Proofs
open Go.Cm (R rdOk)
namespace Go.Proofs.Ytkcpacgnejlpbaa.T
set_option maxRecDepth 10000
set_option maxHeartbeats 0
theorem Wr.see {h : Cm.Ho} {r : Cm.Ho × Int} {g q n : Nat} {w : Int} (W : Wr h r g q n w) (hg : g < h.2.1.length) (hq : q < 6) : Cm.see r.1 (g : Int) = Cm.set2 (Cm.see h (g : Int)) (q : Int) (n : Int) w := by
  have e : ∀ j, j < 6 → pgA r.1 g j = if j = q then (pgA h g q).set n w else pgA h g j := fun j hj => by rw [W.2 g j hg hj]; simp
  have a : ∀ y : Cm.Ho, Cm.see y (g : Int) = [pgA y g 0, pgA y g 1, pgA y g 2, pgA y g 3, pgA y g 4, pgA y g 5] := fun y => rfl
  rw [a, a, e 0 (by omega), e 1 (by omega), e 2 (by omega), e 3 (by omega), e 4 (by omega), e 5 (by omega)]
  unfold Cm.set2
  rw [Int.toNat_natCast, Int.toNat_natCast]
  have : q = 0 ∨ q = 1 ∨ q = 2 ∨ q = 3 ∨ q = 4 ∨ q = 5 := by omega
  rcases this with rfl | rfl | rfl | rfl | rfl | rfl <;> rfl
theorem Wr.other {h : Cm.Ho} {r : Cm.Ho × Int} {g q n : Nat} {w : Int} (W : Wr h r g q n w) {k : Nat} (hk : k < h.2.1.length) (ne : k ≠ g) : Cm.see r.1 (k : Int) = Cm.see h (k : Int) :=
  see_ext fun j hj => by rw [W.2 k j hk hj, if_neg (fun x => ne x.1)]
end Go.Proofs.Ytkcpacgnejlpbaa.T
open Go Go.Am Go.Proofs
open Go.Cm (R rdOk)
namespace Go.Proofs.Ytkcpacgnejlpbaa.T
set_option maxRecDepth 10000
set_option maxHeartbeats 0
end Go.Proofs.Ytkcpacgnejlpbaa.T
open Go Go.Am Go.Proofs
open Go.Cm (R rdOk)
namespace Go.Proofs.Ytkcpacgnejlpbaa.T
set_option maxRecDepth 10000
set_option maxHeartbeats 0
end Go.Proofs.Ytkcpacgnejlpbaa.T
open Go Go.Am Go.Proofs
open Go.Cm (R rdOk)
namespace Go.Proofs.Ytkcpacgnejlpbaa.T
set_option maxRecDepth 10000
set_option maxHeartbeats 0
end Go.Proofs.Ytkcpacgnejlpbaa.T
open Go Go.Am Go.Proofs
open Go.Cm (R rdOk)
namespace Go.Proofs.Ytkcpacgnejlpbaa.T
set_option maxRecDepth 10000
set_option maxHeartbeats 0
structure Rm (c : Cm.E → Prop) (nm : Cm.E → Cm.E) (V : Nat → Nat → Prop) (h x : Cm.Ho) : Prop where
  sh : Cm.shH x
  len : x.2.1.length = h.2.1.length
  fr : x.1 = h.1
  hd : x.2.2 = h.2.2
  m1 : ∀ {k q}, k < h.2.1.length → q < 6 → V k q → c (Cm.mAt h k q) → Cm.mAt x k q = nm (Cm.mAt h k q)
  m0 : ∀ {k q}, k < h.2.1.length → q < 6 → ¬ (V k q ∧ c (Cm.mAt h k q)) → Cm.mAt x k q = Cm.mAt h k q
  d : ∀ {k q}, k < h.2.1.length → q < 6 → dAt x k q = dAt h k q
  s : ∀ {k i}, k < h.2.1.length → i < 6 → Cm.sAt x k i = Cm.s0 ∨ Cm.sAt x k i = Cm.sAt h k i
  z : ∀ {k i j}, k < h.2.1.length → i < 6 → j < 6 → V k j → c (Cm.mAt h k j) → (Cm.sAt h k i).1 = true → (Cm.sAt h k i).2.1 = (j : Int) → Cm.sAt x k i = Cm.s0
  n : ∀ {k i}, k < h.2.1.length → i < 6 → (∀ j, j < 6 → V k j → c (Cm.mAt h k j) → ¬ ((Cm.sAt h k i).1 = true ∧ (Cm.sAt h k i).2.1 = (j : Int))) → Cm.sAt x k i = Cm.sAt h k i
theorem Rm.refl {c : Cm.E → Prop} {nm : Cm.E → Cm.E} {V : Nat → Nat → Prop} {h : Cm.Ho} (hs : Cm.shH h) (hv : ∀ k q, q < 6 → ¬ V k q) : Rm c nm V h h :=
  ⟨hs, rfl, rfl, rfl, fun _ hq v _ => absurd v (hv _ _ hq), fun _ _ _ => rfl, fun _ _ => rfl, fun _ _ => .inr rfl, fun _ _ hj v _ _ _ => absurd v (hv _ _ hj), fun _ _ _ => rfl⟩
theorem Rm.comp {c : Cm.E → Prop} {nm : Cm.E → Cm.E} {V W U : Nat → Nat → Prop} {h x y : Cm.Ho} (a : Rm c nm V h x) (b : Rm c nm W x y) (dis : ∀ k q, q < 6 → V k q → W k q → False) (hu : ∀ k q, q < 6 → (U k q ↔ V k q ∨ W k q)) : Rm c nm U h y := by
  refine ⟨b.sh, b.len.trans a.len, b.fr.trans a.fr, b.hd.trans a.hd, fun {k q} hk hq u e => ?_, fun {k q} hk hq u => ?_, fun hk hq => (b.d (by rw [a.len]; exact hk) hq).trans (a.d hk hq), fun {k i} hk hi => ?_, fun {k i j} hk hi hj u e t p => ?_, fun {k i} hk hi u => ?_⟩
  · have hk' : k < x.2.1.length := by rw [a.len]; exact hk
    rcases (hu k q hq).mp u with v | v
    · rw [b.m0 hk' hq (fun w => dis k q hq v w.1), a.m1 hk hq v e]
    · have m := a.m0 hk hq (fun w => dis k q hq w.1 v)
      rw [b.m1 hk' hq v (by rw [m]; exact e), m]
  · have hk' : k < x.2.1.length := by rw [a.len]; exact hk
    have m := a.m0 hk hq (fun w => u ⟨(hu k q hq).mpr (.inl w.1), w.2⟩)
    rw [b.m0 hk' hq (fun w => u ⟨(hu k q hq).mpr (.inr w.1), by rw [← m]; exact w.2⟩), m]
  · have hk' : k < x.2.1.length := by rw [a.len]; exact hk
    rcases b.s hk' hi with w | w
    · exact .inl w
    · rw [w]; exact a.s hk hi
  · have hk' : k < x.2.1.length := by rw [a.len]; exact hk
    rcases (hu k j hj).mp u with v | v
    · have w := a.z hk hi hj v e t p
      rcases b.s hk' hi with r | r
      · exact r
      · rw [r]; exact w
    · have m := a.m0 hk hj (fun w => dis k j hj w.1 v)
      rcases a.s hk hi with w | w
      · rcases b.s hk' hi with r | r
        · exact r
        · rw [r]; exact w
      · exact b.z hk' hi hj v (by rw [m]; exact e) (by rw [w]; exact t) (by rw [w]; exact p)
  · have hk' : k < x.2.1.length := by rw [a.len]; exact hk
    have w := a.n hk hi (fun j hj v e => u j hj ((hu k j hj).mpr (.inl v)) e)
    rw [b.n hk' hi (fun j hj v e => by
      have m := a.m0 hk hj (fun w => dis k j hj w.1 v)
      rw [w]
      exact u j hj ((hu k j hj).mpr (.inr v)) (by rw [← m]; exact e)), w]
section
variable {c : Cm.E → Prop} [DecidablePred c] {nm : Cm.E → Cm.E} (hn : ∀ x : Cm.E, (nm x).1 = true → 0 ≤ (nm x).2.1 ∧ (nm x).2.1 ≤ 7)
def rmStep (c : Cm.E → Prop) [DecidablePred c] (nm : Cm.E → Cm.E) (h : Cm.Ho) (g p : Nat) : Cm.Ho :=
  if c (Cm.mAt h g p) then Cm.upG h g fun x => (Cm.modAt x.1 p Cm.e0 nm, x.2.1, x.2.2.map (Cm.clr (p : Int))) else h
include hn
theorem rm_step {h : Cm.Ho} (hs : Cm.shH h) {g p : Nat} (hg : g < h.2.1.length) (hp : p < 6) : Rm c nm (fun k q => k = g ∧ q = p) h (rmStep c nm h g p) := by
  unfold rmStep
  by_cases e : c (Cm.mAt h g p)
  · rw [if_pos e]
    refine ⟨sh_put hs g p (p : Int) hn, upG_len _ _ _, rfl, rfl, fun {k q} hk hq v _ => ?_, fun {k q} hk hq v => ?_, fun {k q} hk hq => ?_, fun {k i} hk hi => ?_, fun {k i j} hk hi hj v _ t u => ?_, fun {k i} hk hi u => ?_⟩
    · have l := (gAt_len hs hk).1
      unfold Cm.mAt
      rw [gAt_up hk, if_pos v.1.symm]
      dsimp only
      rw [modAt_get _ _ _ _ _ (by omega), if_pos v.2.symm]
    · have l := (gAt_len hs hk).1
      unfold Cm.mAt
      rw [gAt_up hk]
      by_cases y : g = k
      · rw [if_pos y]
        dsimp only
        rw [modAt_get _ _ _ _ _ (by omega), if_neg (fun z => v ⟨⟨y.symm, z.symm⟩, by rw [← y, ← z]; exact e⟩)]
      · rw [if_neg y]
    · unfold dAt
      rw [gAt_up hk]
      by_cases y : g = k
      · rw [if_pos y]
      · rw [if_neg y]
    · have l := (gAt_len hs hk).2.2
      unfold Cm.sAt
      rw [gAt_up hk]
      by_cases y : g = k
      · rw [if_pos y]
        dsimp only
        rw [map_getD _ _ (by omega)]
        rcases clr_cases (p : Int) (List.getD (Cm.gAt h k).2.2 i Cm.s0) with ⟨w, _⟩ | ⟨w, _⟩
        · exact .inl w
        · exact .inr w
      · rw [if_neg y]; exact .inr rfl
    · have l := (gAt_len hs hk).2.2
      unfold Cm.sAt at t u ⊢
      rw [gAt_up hk, if_pos v.1.symm]
      dsimp only
      rw [map_getD _ _ (by omega)]
      unfold Cm.clr
      rw [if_pos ⟨t, by rw [u, v.2]⟩]
    · have l := (gAt_len hs hk).2.2
      unfold Cm.sAt at u ⊢
      rw [gAt_up hk]
      by_cases y : g = k
      · rw [if_pos y]
        dsimp only
        rw [map_getD _ _ (by omega)]
        unfold Cm.clr
        rw [if_neg]
        subst y
        exact u p hp ⟨rfl, rfl⟩ e
      · rw [if_neg y]
  · rw [if_neg e]
    refine ⟨hs, rfl, rfl, rfl, fun {k q} hk hq v w => ?_, fun _ _ _ => rfl, fun _ _ => rfl, fun _ _ => .inr rfl, fun {k i j} hk hi hj v w _ _ => ?_, fun _ _ _ => rfl⟩
    · rw [v.1, v.2] at w; exact absurd w e
    · rw [v.1, v.2] at w; exact absurd w e
omit hn in
def rmP (c : Cm.E → Prop) [DecidablePred c] (nm : Cm.E → Cm.E) (g : Nat) : Nat → Nat → Cm.Ho → Cm.Ho
  | 0, _, h => h
  | n + 1, p, h => rmP c nm g n (p + 1) (rmStep c nm h g p)
omit hn in
def rmG (c : Cm.E → Prop) [DecidablePred c] (nm : Cm.E → Cm.E) : Nat → Nat → Cm.Ho → Cm.Ho
  | 0, _, h => h
  | n + 1, g, h => rmG c nm n (g + 1) (rmP c nm g 6 0 h)
theorem rmP_rm (g : Nat) : ∀ (n p : Nat) {h : Cm.Ho}, n + p ≤ 6 → Cm.shH h → g < h.2.1.length → Rm c nm (fun k q => k = g ∧ p ≤ q ∧ q < p + n) h (rmP c nm g n p h)
  | 0, p, h, _, hs, _ => Rm.refl hs fun k q _ v => by omega
  | n + 1, p, h, hp, hs, hg => by
    rw [rmP]
    have a := rm_step (c := c) hn hs hg (show p < 6 by omega)
    exact a.comp (rmP_rm g n (p + 1) (by omega) a.sh (by rw [a.len]; exact hg)) (fun k q _ v w => by omega) fun k q _ => by omega
theorem rmG_rm : ∀ (n g : Nat) {h : Cm.Ho}, n + g ≤ h.2.1.length → Cm.shH h → Rm c nm (fun k _ => g ≤ k ∧ k < g + n) h (rmG c nm n g h)
  | 0, g, h, _, hs => Rm.refl hs fun k q _ v => by omega
  | n + 1, g, h, hg, hs => by
    rw [rmG]
    have a := rmP_rm (c := c) hn g 6 0 (by omega) hs (show g < h.2.1.length by omega)
    exact a.comp (rmG_rm n (g + 1) (by rw [a.len]; omega) a.sh) (fun k q _ v w => by omega) fun k q _ => by omega
end
theorem shareP_rm (a b : Int) (g : Nat) : ∀ (n p : Nat) (h : Cm.Ho), Cm.shareP a b g n p h = rmP (fun m => m.1 = true ∧ (m.2.1 = a ∨ m.2.1 = b)) (fun _ => (true, b, false)) g n p h
  | 0, _, _ => rfl
  | n + 1, p, h => by rw [Cm.shareP, rmP, shareP_rm a b g n (p + 1)]; rfl
theorem shareG_rm (a b : Int) : ∀ (n g : Nat) (h : Cm.Ho), Cm.shareG a b n g h = rmG (fun m => m.1 = true ∧ (m.2.1 = a ∨ m.2.1 = b)) (fun _ => (true, b, false)) n g h
  | 0, _, _ => rfl
  | n + 1, g, h => by rw [Cm.shareG, rmG, shareG_rm a b n (g + 1), shareP_rm]
structure Mv (h x : Cm.Ho) (f a : Int) : Prop where
  sh : Cm.shH x
  len : x.2.1.length = h.2.1.length
  fr : x.1 = h.1.set a.toNat (h.1.getD f.toNat [])
  hd : x.2.2 = h.2.2
  m1 : ∀ {k q}, k < h.2.1.length → q < 6 → (Cm.mAt h k q).1 = true → (Cm.mAt h k q).2.1 = f → Cm.mAt x k q = (true, a, (Cm.mAt h k q).2.2)
  m0 : ∀ {k q}, k < h.2.1.length → q < 6 → ¬ ((Cm.mAt h k q).1 = true ∧ (Cm.mAt h k q).2.1 = f) → Cm.mAt x k q = Cm.mAt h k q
  d : ∀ {k q}, k < h.2.1.length → q < 6 → dAt x k q = dAt h k q
  s : ∀ {k i}, k < h.2.1.length → i < 6 → Cm.sAt x k i = Cm.s0 ∨ Cm.sAt x k i = Cm.sAt h k i
  z : ∀ {k i j}, k < h.2.1.length → i < 6 → j < 6 → (Cm.mAt h k j).1 = true → (Cm.mAt h k j).2.1 = f → (Cm.sAt h k i).1 = true → (Cm.sAt h k i).2.1 = (j : Int) → Cm.sAt x k i = Cm.s0
  a0 : 0 ≤ a ∧ a ≤ 7
  ua : Cm.users h a = 0
  uf : Cm.users h f ≠ 0
theorem Mv.ne {h x : Cm.Ho} {f a : Int} (v : Mv h x f a) : f ≠ a := fun e => v.uf (e ▸ v.ua)
section
variable {h x : Cm.Ho} {f a : Int} (v : Mv h x f a) (o : Ok h)
include v o
/-- An entry behind the move. -/
theorem Mv.m {k q : Nat} (hk : k < h.2.1.length) (hq : q < 6) : (Cm.mAt x k q).1 = (Cm.mAt h k q).1 ∧ (Cm.mAt x k q).2.2 = (Cm.mAt h k q).2.2 ∧ ((Cm.mAt h k q).1 = true → (Cm.mAt x k q).2.1 = if (Cm.mAt h k q).2.1 = f then a else (Cm.mAt h k q).2.1) := by
  by_cases e : (Cm.mAt h k q).1 = true ∧ (Cm.mAt h k q).2.1 = f
  · rw [v.m1 hk hq e.1 e.2]
    exact ⟨e.1.symm, rfl, fun _ => by rw [if_pos e.2]⟩
  · rw [v.m0 hk hq e]
    exact ⟨rfl, rfl, fun t => by rw [if_neg fun w => e ⟨t, w⟩]⟩
end
theorem list_ext {α : Type} (d : α) : ∀ {l m : List α}, l.length = m.length → (∀ i, i < l.length → l.getD i d = m.getD i d) → l = m
  | [], [], _, _ => rfl
  | [], _ :: _, h, _ => by cases h
  | _ :: _, [], h, _ => by cases h
  | a :: l, b :: m, h, e => by
    have e0 : a = b := e 0 (by simp)
    rw [e0, list_ext d (by simpa using h) fun i hi => e (i + 1) (by simpa using hi)]
theorem ho_ext {x y : Cm.Ho} (hx : Cm.shH x) (hy : Cm.shH y) (l : x.2.1.length = y.2.1.length) (f : x.1 = y.1) (hd : x.2.2 = y.2.2)
    (m : ∀ k q, k < x.2.1.length → q < 6 → Cm.mAt x k q = Cm.mAt y k q) (d : ∀ k q, k < x.2.1.length → q < 6 → dAt x k q = dAt y k q) (s : ∀ k q, k < x.2.1.length → q < 6 → Cm.sAt x k q = Cm.sAt y k q) : x = y := by
  have g : x.2.1 = y.2.1 := list_ext Cm.g0 l fun k hk => by
    obtain ⟨a1, a2, a3⟩ := gAt_len hx hk
    obtain ⟨b1, b2, b3⟩ := gAt_len hy (l ▸ hk)
    show Cm.gAt x k = Cm.gAt y k
    have e1 : (Cm.gAt x k).1 = (Cm.gAt y k).1 := list_ext Cm.e0 (a1.trans b1.symm) fun q hq => m k q hk (by omega)
    have e2 : (Cm.gAt x k).2.1 = (Cm.gAt y k).2.1 := list_ext [] (a2.trans b2.symm) fun q hq => d k q hk (by omega)
    have e3 : (Cm.gAt x k).2.2 = (Cm.gAt y k).2.2 := list_ext Cm.s0 (a3.trans b3.symm) fun q hq => s k q hk (by omega)
    exact Prod.ext e1 (Prod.ext e2 e3)
  exact Prod.ext f (Prod.ext g hd)
theorem jP_rm (a b : Int) (g : Nat) : ∀ (n p : Nat) (h : Cm.Ho), Cm.jP a b g n p h = rmP (fun m => m.1 = true ∧ m.2.1 = a) (fun _ => (true, b, false)) g n p h
  | 0, _, _ => rfl
  | n + 1, p, h => by rw [Cm.jP, rmP, jP_rm a b g n (p + 1)]; rfl
theorem jG_rm (a b : Int) : ∀ (n g : Nat) (h : Cm.Ho), Cm.jG a b n g h = rmG (fun m => m.1 = true ∧ m.2.1 = a) (fun _ => (true, b, false)) n g h
  | 0, _, _ => rfl
  | n + 1, g, h => by rw [Cm.jG, rmG, jG_rm a b n (g + 1), jP_rm]
theorem jG_of {h : Cm.Ho} (hs : Cm.shH h) (a : Int) {b : Int} (hb : 0 ≤ b ∧ b ≤ 7) : Rm (fun m => m.1 = true ∧ m.2.1 = a) (fun _ => (true, b, false)) (fun k _ => 0 ≤ k ∧ k < 0 + h.2.1.length) h (Cm.jG a b h.2.1.length 0 h) := by
  rw [jG_rm]; exact rmG_rm (fun _ _ => hb) _ 0 (Nat.le_refl _) hs
theorem share_of {h : Cm.Ho} (hs : Cm.shH h) (a : Int) {b : Int} (hb : 0 ≤ b ∧ b ≤ 7) : Rm (fun m => m.1 = true ∧ (m.2.1 = a ∨ m.2.1 = b)) (fun _ => (true, b, false)) (fun k _ => 0 ≤ k ∧ k < 0 + h.2.1.length) h (Cm.share h a b) := by
  unfold Cm.share; rw [shareG_rm]; exact rmG_rm (fun _ _ => hb) _ 0 (Nat.le_refl _) hs
/-- First one frame's pages come to the other one, then that one's own. -/
theorem jL_share {h : Cm.Ho} (hs : Cm.shH h) {a b : Int} (ha : 0 ≤ a ∧ a ≤ 7) : Cm.jL a [b, a] h = Cm.share h b a := by
  have A := jG_of hs b ha
  have S := share_of hs b ha
  show Cm.jG a a (Cm.jG b a h.2.1.length 0 h).2.1.length 0 (Cm.jG b a h.2.1.length 0 h) = _
  generalize Cm.jG b a h.2.1.length 0 h = x at *
  have B := jG_of A.sh a ha
  generalize Cm.jG a a x.2.1.length 0 x = y at *
  generalize Cm.share h b a = z at *
  have al := A.len
  have bl := B.len
  have M : ∀ k q, k < h.2.1.length → q < 6 → Cm.mAt y k q = Cm.mAt z k q := fun k q hk hq => by
    by_cases c1 : (Cm.mAt h k q).1 = true ∧ (Cm.mAt h k q).2.1 = b
    · have m1 := A.m1 hk hq ⟨by omega, by omega⟩ c1
      rw [B.m1 (by omega) hq ⟨by omega, by omega⟩ (by rw [m1]; exact ⟨rfl, rfl⟩), S.m1 hk hq ⟨by omega, by omega⟩ ⟨c1.1, .inl c1.2⟩]
    · have m0 := A.m0 hk hq (fun w => c1 w.2)
      by_cases c2 : (Cm.mAt h k q).1 = true ∧ (Cm.mAt h k q).2.1 = a
      · rw [B.m1 (by omega) hq ⟨by omega, by omega⟩ (by rw [m0]; exact c2), S.m1 hk hq ⟨by omega, by omega⟩ ⟨c2.1, .inr c2.2⟩]
      · rw [B.m0 (by omega) hq (fun w => c2 (by rw [← m0]; exact w.2)), m0, S.m0 hk hq (fun w => w.2.2.elim (fun e => c1 ⟨w.2.1, e⟩) fun e => c2 ⟨w.2.1, e⟩)]
  refine ho_ext B.sh S.sh (by rw [B.len, A.len, S.len]) (by rw [B.fr, A.fr, S.fr]) (by rw [B.hd, A.hd, S.hd]) (fun k q hk hq => M k q (by omega) hq) (fun k q hk hq => ?_) fun k i hk hi => ?_
  · rw [B.d (by omega) hq, A.d (by omega) hq, S.d (by omega) hq]
  · have hk : k < h.2.1.length := by omega
    by_cases t : ∃ j, j < 6 ∧ ((Cm.mAt h k j).1 = true ∧ ((Cm.mAt h k j).2.1 = b ∨ (Cm.mAt h k j).2.1 = a)) ∧ (Cm.sAt h k i).1 = true ∧ (Cm.sAt h k i).2.1 = (j : Int)
    · obtain ⟨j, hj, e, t1, t2⟩ := t
      rw [S.z hk hi hj ⟨by omega, by omega⟩ e t1 t2]
      by_cases e1 : (Cm.mAt h k j).2.1 = b
      · have w := A.z hk hi hj ⟨by omega, by omega⟩ ⟨e.1, e1⟩ t1 t2
        rcases B.s (k := k) (by omega) hi with r | r
        · exact r
        · rw [r, w]
      · have m0 := A.m0 hk hj (fun w => e1 w.2.2)
        rcases A.s hk hi with w | w
        · rcases B.s (k := k) (by omega) hi with r | r
          · exact r
          · rw [r, w]
        · exact B.z (by omega) hi hj ⟨by omega, by omega⟩ (by rw [m0]; exact ⟨e.1, e.2.resolve_left e1⟩) (by rw [w]; exact t1) (by rw [w]; exact t2)
    · have t' : ∀ j, j < 6 → ((Cm.mAt h k j).1 = true ∧ ((Cm.mAt h k j).2.1 = b ∨ (Cm.mAt h k j).2.1 = a)) → ¬ ((Cm.sAt h k i).1 = true ∧ (Cm.sAt h k i).2.1 = (j : Int)) := fun j hj e w => t ⟨j, hj, e, w⟩
      rw [S.n hk hi (fun j hj _ e => t' j hj e)]
      have w := A.n hk hi (fun j hj _ e => t' j hj ⟨e.1, .inl e.2⟩)
      rw [B.n (by omega) hi (fun j hj _ e => ?_), w]
      rw [w]
      by_cases c1 : (Cm.mAt h k j).1 = true ∧ (Cm.mAt h k j).2.1 = b
      · exact t' j hj ⟨c1.1, .inl c1.2⟩
      · have m0 := A.m0 hk hj (fun w => c1 w.2)
        rw [m0] at e
        exact t' j hj ⟨e.1, .inr e.2⟩
end Go.Proofs.Ytkcpacgnejlpbaa.T
open Go Go.Am Go.Proofs
open Go.Cm (R rdOk)
namespace Go.Proofs.Ytkcpacgnejlpbaa.T
set_option maxRecDepth 10000
set_option maxHeartbeats 0
theorem ok_slices_Equal_int_int : FOk E_slices_Equal_int_int Try.f55 sEqP := FOk.of2 fun (a b : Cm.Pg) hn => FGA.fg ((vc_slices_Equal_int_int a b).mpr (by
  have hl : a.length ≤ 1048576 := hn
  simp only [ifb_iff, imp_self, true_and, and_true, implies_true]
  refine ⟨fun h => (Cm.eqI_len (by simpa [Int.natCast_inj] using h)).symm, fun h => ?_⟩
  have h : a.length = b.length := by simpa [Int.natCast_inj] using h
  refine ⟨⟨0, ⟨⟨by omega, h.symm⟩, rfl⟩, rfl⟩, fun i ⟨⟨g1, _⟩, g2⟩ => ⟨fun hl => ?_, fun hl => ?_⟩⟩
  · have hl := lt_of hl
    rw [Cm.drop_getD (0 : Int) hl, Cm.drop_getD (0 : Int) (h ▸ hl : i < b.length), Cm.eqI_cons] at g2
    refine ⟨by omega, by omega, fun c => ?_, fun c => ⟨i + 1, ⟨⟨⟨by omega, h.symm⟩, ?_⟩, by omega⟩, (wsucc (by omega)).symm⟩⟩
    · rw [g2, decide_eq_false (by simpa using c)]; rfl
    · rw [g2, decide_eq_true (by simpa using c)]; rfl
  · have hl := ge_of hl
    rw [g2, List.drop_of_length_le hl, List.drop_of_length_le (by omega)]; rfl))
theorem ok_impl_Host_join_1 : FOk E_impl_Host_join_1 Try.f99 sJoinC := FOk.of4 fun (g p : Int) (h : Cm.Ho) (b : Int) hn => FGA.fg ((vc_impl_Host_join_1 g p h b).mpr (by
  obtain ⟨⟨hs, hg, hp⟩, hb⟩ := (show Go.Am.inS h g p ∧ 0 ≤ b ∧ b ≤ 7 from hn)
  have hgn : g.toNat < h.2.1.length := by omega
  obtain ⟨l1, l2, l3⟩ := szOk_get (hs.2 _ hgn).1
  have hpi : ((p.toNat : Nat) : Int) = p := by omega
  simp only [and_true, modAt_modAt, hpi]
  rw [modAt_get _ _ _ _ _ hgn, if_pos rfl]
  exact ⟨hg, by omega, ⟨by omega, by dsimp only; omega⟩, rfl, rfl, rfl⟩))
theorem sh_joinOne {h : Cm.Ho} (hs : Cm.shH h) (g p : Nat) {b : Int} (hb : 0 ≤ b ∧ b ≤ 7) : Cm.shH (joinOne h g p b) := sh_put hs g p (m := fun _ => (true, b, false)) (p : Int) (fun _ _ => hb)
theorem ok_eachJoin : FOk E_eachJoin Try.f59 (sEachJoin 99) := FOk.of3 fun (h : Cm.Ho) (f b : Int) hn => FGA.fg ((vc_eachJoin h f b).mpr (by
  obtain ⟨hs, hb⟩ := (show Cm.shH h ∧ 0 ≤ b ∧ b ≤ 7 from hn)
  have hl2 := (shH_get hs).2.1
  simp only [ifb_iff, imp_self, true_and, and_true, implies_true]
  refine ⟨⟨(0, h), ⟨⟨by omega, hs⟩, rfl, rfl⟩, rfl, ⟨rfl, rfl⟩, rfl⟩, ?_⟩
  rintro ⟨g, x⟩ ⟨⟨h1, h2⟩, h3, h4⟩
  dsimp only at h1 h2 h3 h4 ⊢
  refine ⟨fun hg => ?_, fun hg => ?_⟩
  · have hg := lt_of hg
    rw [show h.2.1.length - g = (h.2.1.length - (g + 1)) + 1 by omega, Cm.jG] at h4
    refine ⟨⟨(0, x), ⟨⟨by omega, h2⟩, ⟨by dsimp only; omega, h3⟩, h4⟩, rfl, ⟨rfl, rfl⟩, rfl⟩, ?_⟩
    rintro ⟨p, y⟩ ⟨⟨q1, q2⟩, ⟨q3, q4⟩, q5⟩
    dsimp only at q1 q2 q3 q4 q5 ⊢
    refine ⟨fun hp => ?_, fun hp => ?_⟩
    · have hp : (p : Int) < 6 := of_decide_eq_true hp
      obtain ⟨l1, l2, l3⟩ := szOk_get (q2.2 g q3).1
      rw [show 6 - p = (6 - (p + 1)) + 1 by omega, Cm.jP] at q5
      refine ⟨by omega, by omega, fun c => ⟨⟨⟨q2, by omega, by omega, by omega⟩, hb⟩, (p + 1, joinOne y g p b), ⟨⟨⟨by omega, sh_joinOne q2 g p hb⟩, ⟨by unfold joinOne; rw [upG_len]; exact q3, by unfold joinOne; rw [upG_len]; exact q4⟩, ?_⟩, by dsimp only; omega⟩, (wsucc (by omega)).symm, ⟨rfl, rfl⟩, rfl⟩,
        fun c => ⟨(p + 1, y), ⟨⟨⟨by omega, q2⟩, ⟨q3, q4⟩, ?_⟩, by dsimp only; omega⟩, (wsucc (by omega)).symm, ⟨rfl, rfl⟩, rfl⟩⟩
      · rw [Bool.and_eq_true, beq_iff_eq] at c
        have c : (Cm.mAt y g p).1 = true ∧ (Cm.mAt y g p).2.1 = f := c
        rw [if_pos c] at q5; exact q5
      · rw [if_neg] at q5
        · exact q5
        · intro e; unfold Cm.mAt Cm.gAt at e; rw [e.1, e.2] at c; simp at c
    · have hp : ¬ (p : Int) < 6 := of_decide_eq_false hp
      rw [show 6 - p = 0 by omega, Cm.jP] at q5
      exact ⟨(g + 1, y), ⟨⟨⟨by omega, q2⟩, q4, q5⟩, by dsimp only; omega⟩, (wsucc (by omega)).symm, ⟨rfl, rfl⟩, rfl⟩
  · have hg := ge_of hg
    rw [h4, show h.2.1.length - g = 0 by omega]; exact ⟨rfl, rfl, rfl⟩))
theorem ok_hjoin : FOk E_hjoin Try.f56 sHJoin := FOk.of3 fun (h : Cm.Ho) (a b : Int) hn => FGA.fg ((vc_hjoin h a b).mpr (by
  obtain ⟨hs, ha, hb⟩ := (show Cm.shH h ∧ (0 ≤ a ∧ a ≤ 7) ∧ 0 ≤ b ∧ b ≤ 7 from hn)
  simp only [ifb_iff, imp_self, true_and, and_true, implies_true]
  refine ⟨⟨(0, h), ⟨⟨by omega, hs⟩, rfl, rfl⟩, ⟨rfl, rfl⟩, ⟨rfl, rfl⟩, rfl⟩, ?_⟩
  rintro ⟨i, x⟩ ⟨⟨h1, h2⟩, h3, h4⟩
  dsimp only at h1 h2 h3 h4 ⊢
  refine ⟨fun hi => ?_, fun hi => ?_⟩
  · have hi : (i : Int) < 2 := of_decide_eq_true hi
    have r := jG_of h2 (List.getD [b, a] i 0) ha
    refine ⟨by omega, ⟨h2, ha⟩, (i + 1, Cm.jG (List.getD [b, a] i 0) a x.2.1.length 0 x), ⟨⟨⟨by dsimp only; omega, r.sh⟩, r.len.trans h3, ?_⟩, by dsimp only; omega⟩, (wsucc (by omega)).symm, ⟨rfl, rfl⟩, rfl⟩
    rw [← h4]
    have : i = 0 ∨ i = 1 := by omega
    rcases this with rfl | rfl <;> rfl
  · have hi : ¬ (i : Int) < 2 := of_decide_eq_false hi
    have : i = 2 := by omega
    subst this
    have h4 : x = Cm.jL a [b, a] h := h4
    rw [← h4]; exact ⟨rfl, rfl, rfl⟩))
theorem ok_impl_PageJoin : FOk E_impl_PageJoin Try.f18 sPgJoin := FOk.of1 fun (h : Cm.Ho) hn => FGA.fg ((vc_impl_PageJoin h).mpr (by
  have hb : Cm.bdH h := hn
  simp only [ifb_iff, imp_self, true_and, and_true, implies_true]
  refine ⟨hb, fun c => ?_, fun c => ?_⟩
  · unfold Cm.pgJoin
    rw [if_neg (by rw [bnt c]; simp)]; exact ⟨rfl, rfl⟩
  have c := bnf c
  have hs := hOk_shH c
  obtain ⟨⟨f1, f2⟩, _⟩ := shH_get hs
  have J : Cm.pgJoin h = Cm.join h := if_pos c
  rw [J]
  refine ⟨hb, ⟨0, ⟨by omega, rfl⟩, rfl, rfl, rfl, rfl⟩, fun a ⟨h1, h2⟩ => ⟨fun ha => ?_, fun ha => ?_⟩⟩
  · have ha : (a : Int) < 8 := of_decide_eq_true ha
    refine ⟨⟨a + 1, ⟨⟨by omega, by omega⟩, rfl, h2⟩, (wsucc (by omega)).symm⟩, fun b ⟨⟨h3, h4⟩, h5, _⟩ => ⟨fun hb' => ?_, fun hb' => ?_⟩⟩
    · have hb' : (b : Int) < 8 := of_decide_eq_true hb'
      have c1 := Cm.okP_len (shH_row hs (i := a) (by omega))
      rw [joinGo_step h h3, h5, show 8 - b = (8 - (b + 1)) + 1 by omega, Cm.joinIn] at h2
      refine ⟨hb, fun _ => hb, fun _ => by omega, fun _ => by omega, fun _ => by omega, fun d => ⟨⟨hs, by omega, by omega⟩, ?_⟩, fun d => ⟨b + 1, ⟨⟨⟨by omega, by omega⟩, ?_, by assumption⟩, by omega⟩, (wsucc (by omega)).symm⟩⟩
      · have d : Cm.canJoin h a b = true := d
        rw [if_pos d] at h2
        rw [jL_share hs (by omega)]
        unfold Cm.join; rw [h2]; exact ⟨rfl, rfl⟩
      · have d : Cm.canJoin h a b = false := d
        rw [h5, show 8 - b = (8 - (b + 1)) + 1 by omega, Cm.joinIn, if_neg (by rw [d]; simp)]
    · have hb' : ¬ (b : Int) < 8 := of_decide_eq_false hb'
      rw [show 8 - b = 0 by omega, Cm.joinIn] at h5
      rw [joinGo_step h h3, h5] at h2
      exact ⟨a + 1, ⟨⟨by omega, h2⟩, by omega⟩, (wsucc (by omega)).symm⟩
  · have ha : ¬ (a : Int) < 8 := of_decide_eq_false ha
    rw [show 8 - a = 0 by omega, Cm.joinGo] at h2
    unfold Cm.join; rw [h2]; exact ⟨rfl, rfl⟩))
theorem kn_slices_Equal_int_int : Known Try.prog 55 sEqP := known_of tabOk (kn0) mixed Try.func55 (by kernel_rfl) ok_slices_Equal_int_int
theorem kn_impl_Host_join_1 : Known Try.prog 99 sJoinC := known_of tabOk (AllK.cons kn0 kn_impl_Guest_unshade) mixed Try.func99 (by kernel_rfl) ok_impl_Host_join_1
theorem kn_eachJoin : Known Try.prog 59 (sEachJoin 99) := known_of tabOk (AllK.cons kn0 kn_impl_Host_join_1) mixed Try.func59 (by kernel_rfl) ok_eachJoin
theorem kn_hjoin : Known Try.prog 56 sHJoin := known_of tabOk (AllK.cons kn0 kn_eachJoin) mixed Try.func56 (by kernel_rfl) ok_hjoin
theorem kn_impl_PageJoin : Known Try.prog 18 sPgJoin := known_of tabOk (AllK.cons (AllK.cons (AllK.cons (AllK.cons (AllK.cons kn0 kn_hjoin) kn_slices_Equal_int_int) kn_impl_Host_many) kn_impl_cloneHost) kn_impl_HostOk) mixed Try.func18 (by kernel_rfl) ok_impl_PageJoin
theorem kn_laws_FnExactPageJoin : Known Try.prog 5 sLawH := known_of tabOk (AllK.cons (AllK.cons (AllK.cons (AllK.cons (AllK.cons (AllK.cons (AllK.cons kn0 kn_laws_heldHost) kn_laws_markHost) kn_laws_eqHost) kn_laws_toHost) kn_spec_PageJoin) kn_laws_szHost) kn_impl_PageJoin) mixed Try.func5 (by kernel_rfl) ok_laws_FnExactPageJoin
end Go.Proofs.Ytkcpacgnejlpbaa.T
open Go Go.Am Go.Proofs
open Go.ChangeShapes Go.WideShapes Go.ChangeAt Go.RowKit
namespace Go.Proofs.Ytkcpacgnejlpbaa.T
theorem own : ownKnob Try.prog.godebug = none := by kernel_rfl
theorem laidOut : laidOutB Try.prog = true := by kernel_rfl
end Go.Proofs.Ytkcpacgnejlpbaa.T
