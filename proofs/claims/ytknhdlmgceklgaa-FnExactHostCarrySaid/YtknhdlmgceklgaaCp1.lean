/-
  For each function: its contract holds; the conditions stand in the contracts.
-/
import Derived.Test.YtknhdlmgceklgaaVc1
import Derived.OpenShut
import Derived.ShutString
import Derived.ChangeOld
import Derived.Carry
set_option linter.all false
open Go Go.Am Go.Proofs
namespace Go.Proofs.Ytknhdlmgceklgaa.T
theorem ok98 : FOk E0 Try.f110 sWithin := FOk.of3 fun (n lo hi : Int) _ => FGA.fg ((vc98 n lo hi).mpr (by simp [Cm.within]))
theorem ok107 : FOk E0 Try.f78 sWithin := FOk.of3 fun (n lo hi : Int) _ => FGA.fg ((vc107 n lo hi).mpr (by simp [Cm.within]))
set_option maxRecDepth 100000
theorem mixed : Try.prog.follows .mixedOrders = true := by kernel_rfl
theorem kn0 : AllK Try.prog [] := trivial
theorem kn_98 : Known Try.prog 110 sWithin := known_of tabOk (kn0) mixed Try.func110 (by kernel_rfl) ok98
theorem kn_107 : Known Try.prog 78 sWithin := known_of tabOk (kn0) mixed Try.func78 (by kernel_rfl) ok107
end Go.Proofs.Ytknhdlmgceklgaa.T
open Go Go.Am Go.Proofs
open Go.Cm (R rdOk)
namespace Go.Proofs.Ytknhdlmgceklgaa.T
end Go.Proofs.Ytknhdlmgceklgaa.T
open Go Go.Am Go.Proofs
open Go.Cm (R rdOk)
namespace Go.Proofs.Ytknhdlmgceklgaa.T
end Go.Proofs.Ytknhdlmgceklgaa.T
open Go Go.Am Go.Proofs
open Go.Cm (R rdOk)
namespace Go.Proofs.Ytknhdlmgceklgaa.T
set_option maxRecDepth 10000
end Go.Proofs.Ytknhdlmgceklgaa.T
open Go Go.Am Go.Proofs
open Go.Cm (R rdOk)
namespace Go.Proofs.Ytknhdlmgceklgaa.T
end Go.Proofs.Ytknhdlmgceklgaa.T
open Go Go.Am Go.Proofs
open Go.Cm (R rdOk)
namespace Go.Proofs.Ytknhdlmgceklgaa.T
set_option maxRecDepth 10000
end Go.Proofs.Ytknhdlmgceklgaa.T
open Go Go.Am Go.Proofs
open Go.Cm (R rdOk)
namespace Go.Proofs.Ytknhdlmgceklgaa.T
set_option maxRecDepth 10000
end Go.Proofs.Ytknhdlmgceklgaa.T
open Go Go.Am Go.Proofs
open Go.Cm (R rdOk)
namespace Go.Proofs.Ytknhdlmgceklgaa.T
end Go.Proofs.Ytknhdlmgceklgaa.T
open Go Go.Am Go.Proofs
open Go.Cm (R rdOk)
namespace Go.Proofs.Ytknhdlmgceklgaa.T
set_option maxRecDepth 10000
theorem wsucc {i : Nat} (h : i ≤ 16777216) : IntKind.wrap .i64 ((i : Int) + 1) = ((i + 1 : Nat) : Int) := by rw [Cm.wrap_id (by omega) (by omega)]; omega
theorem lt_of {i n : Nat} (h : decide ((i : Int) < (n : Int)) = true) : i < n := by simpa using h
theorem ge_of {i n : Nat} (h : decide ((i : Int) < (n : Int)) = false) : n ≤ i := by simpa using h
theorem bnt {b : Bool} (h : (!b) = true) : b = false := by simpa using h
theorem bnf {b : Bool} (h : (!b) = false) : b = true := by simpa using h
theorem ok_laws_szIntS : FOk E_laws_szIntS Try.f141 (sSz kI) := FOk.of2 fun (l : Cm.Pg) (n : Int) _ => FGA.fg ((vc_laws_szIntS l n).mpr (by
  simp only [ifb_iff]
  refine ⟨fun h => ⟨?_, trivial⟩, fun h => ⟨?_, trivial⟩⟩
  · rw [Cm.szL, if_pos (by simpa using h)]
  · rw [Cm.szL, if_neg (by simpa using h)]))
theorem ok_laws_szIntSS : FOk E_laws_szIntSS Try.f94 sSzM := FOk.of2 fun (m : Cm.Mm) (n : Int) hp => FGA.fg ((vc_laws_szIntSS m n).mpr (by
  obtain ⟨⟨h1, h2⟩, h3⟩ := (show Cm.wfM m ∧ 0 ≤ n ∧ n ≤ 1048576 from hp)
  simp only [ifb_iff, imp_self, true_and, and_true, implies_true]
  have hw : IntKind.wrap .i64 (n - (m.length : Int)) = n - (m.length : Int) := Cm.wrap_id (by omega) (by omega)
  simp only [hw]
  refine ⟨fun h => ?_, fun h => ⟨⟨(0, n - (m.length : Int)), ⟨by omega, by simp at h; omega, ?_⟩, rfl, rfl⟩, fun ⟨i, a⟩ ⟨g1, g2, g3⟩ => ⟨fun hl => ?_, fun hl => ?_⟩⟩⟩
  · rw [Cm.szLL, hw, if_pos (by simpa using h)]
  · rw [Cm.szLL, hw, if_neg (by simpa using h)]; rfl
  · have hl := lt_of hl
    dsimp only at g1 g2 g3 hl ⊢
    have h : ¬ n - (m.length : Int) < 0 := by simpa using h
    rw [Cm.drop_getD [] hl, Cm.szGo] at g3
    refine ⟨by omega, fun c => ?_, fun c => ⟨(i + 1, Cm.szL (m.getD i []) a), ⟨⟨by omega, ?_, ?_⟩, by dsimp only; omega⟩, rfl, (wsucc (by omega)).symm⟩⟩
    · have c : Cm.szL (m.getD i []) a < 0 := by simpa using c
      rw [g3, if_pos c]
    · have c : ¬ Cm.szL (m.getD i []) a < 0 := by simpa using c
      rw [Cm.szL_eq g2 (h2 i hl)] at c ⊢
      split at c
      · omega
      · rw [if_neg (by assumption)]; dsimp only; omega
    · have c : ¬ Cm.szL (m.getD i []) a < 0 := by simpa using c
      rw [g3, if_neg c]
  · have hl := ge_of hl
    dsimp only at hl g3 ⊢
    rw [g3, List.drop_of_length_le hl]; rfl))
theorem ok_laws_toIntS : FOk E_laws_toIntS Try.f145 sToP := FOk.of1 fun (l : Cm.Pg) hn => FGA.fg ((vc_laws_toIntS l).mpr (by
  have hn : l.length ≤ 1048576 := hn
  simp only [ifb_iff, imp_self, true_and, and_true, implies_true]
  refine ⟨⟨by omega, ?_⟩, ⟨0, by omega, rfl, Cm.fill_zero _ _⟩, fun a h1 => ⟨fun hl => ?_, fun hl => Cm.fill_all _ l (ge_of hl)⟩⟩
  · show (l.length : Int) * ((8 : Nat) : Int) ≤ _; omega
  · have hl := lt_of hl
    exact ⟨by omega, ⟨by omega, by rw [Cm.fill_len _ _ h1]; omega⟩, a + 1, by omega, (wsucc (by omega)).symm, (Cm.fill_set _ _ l hl).symm⟩))
theorem ok_laws_toIntSS : FOk E_laws_toIntSS Try.f98 sToM := FOk.of1 fun (m : Cm.Mm) hn => FGA.fg ((vc_laws_toIntSS m).mpr (by
  obtain ⟨hn, hb⟩ := (show Cm.bd m from hn)
  simp only [ifb_iff, imp_self, true_and, and_true, implies_true]
  refine ⟨⟨by omega, ?_⟩, ⟨0, by omega, rfl, Cm.fill_zero _ _⟩, fun a h1 => ⟨fun hl => ?_, fun hl => Cm.fill_all _ m (ge_of hl)⟩⟩
  · show (m.length : Int) * ((24 : Nat) : Int) ≤ _; omega
  · have hl := lt_of hl
    exact ⟨by omega, hb a hl, ⟨by omega, by rw [Cm.fill_len _ _ h1]; omega⟩, a + 1, by omega, (wsucc (by omega)).symm, (Cm.fill_set _ _ m hl).symm⟩))
theorem ok_laws_eqIntS : FOk E_laws_eqIntS Try.f147 sEqP := FOk.of2 fun (a b : Cm.Pg) hn => FGA.fg ((vc_laws_eqIntS a b).mpr (by
  have hn : a.length ≤ 1048576 := hn
  simp only [ifb_iff, imp_self, true_and, and_true, implies_true]
  refine ⟨fun h => (Cm.eqI_len (by simpa [Int.natCast_inj] using h)).symm, fun h => ⟨⟨0, ⟨by omega, rfl⟩, rfl⟩, fun i ⟨g1, g2⟩ => ⟨fun hl => ?_, fun hl => ?_⟩⟩⟩
  · have hl := lt_of hl
    have h : a.length = b.length := by simpa [Int.natCast_inj] using h
    rw [Cm.drop_getD (0 : Int) hl, Cm.drop_getD (0 : Int) (h ▸ hl : i < b.length), Cm.eqI_cons] at g2
    refine ⟨by omega, by omega, fun c => ?_, fun c => ⟨i + 1, ⟨⟨by omega, ?_⟩, by omega⟩, (wsucc (by omega)).symm⟩⟩
    · rw [g2, decide_eq_false (by simpa using c)]; rfl
    · rw [g2, decide_eq_true (by simpa using c)]; rfl
  · have hl := ge_of hl
    have h : a.length = b.length := by simpa [Int.natCast_inj] using h
    rw [g2, List.drop_of_length_le hl, List.drop_of_length_le (by omega)]; rfl))
theorem ok_laws_eqIntSS : FOk E_laws_eqIntSS Try.f101 sEqM := FOk.of2 fun (a b : Cm.Mm) hn => FGA.fg ((vc_laws_eqIntSS a b).mpr (by
  obtain ⟨hn, hb⟩ := (show Cm.bd a from hn)
  simp only [ifb_iff, imp_self, true_and, and_true, implies_true]
  refine ⟨fun h => (Cm.eqM_len (by simpa [Int.natCast_inj] using h)).symm, fun h => ⟨⟨0, ⟨by omega, rfl⟩, rfl⟩, fun i ⟨g1, g2⟩ => ⟨fun hl => ?_, fun hl => ?_⟩⟩⟩
  · have hl := lt_of hl
    have h : a.length = b.length := by simpa [Int.natCast_inj] using h
    rw [Cm.drop_getD [] hl, Cm.drop_getD [] (h ▸ hl : i < b.length), Cm.eqM_cons] at g2
    refine ⟨by omega, by omega, hb i hl, fun c => ?_, fun c => ⟨i + 1, ⟨⟨by omega, ?_⟩, by omega⟩, (wsucc (by omega)).symm⟩⟩
    · rw [g2, bnt c]; rfl
    · rw [g2, bnf c]; rfl
  · have hl := ge_of hl
    have h : a.length = b.length := by simpa [Int.natCast_inj] using h
    rw [g2, List.drop_of_length_le hl, List.drop_of_length_le (by omega)]; rfl))
theorem ok_laws_markIntS : FOk E_laws_markIntS Try.f149 sMarkP := FOk.of2 fun (a : Cm.Pg) (k : Int) hn => FGA.fg ((vc_laws_markIntS a k).mpr (by
  obtain ⟨hn, hk⟩ := (show a.length ≤ 1048576 ∧ 0 ≤ k ∧ k ≤ 1152921504606846976 from hn)
  simp only [ifb_iff, imp_self, true_and, and_true, implies_true, List.length_append, Cm.upFrom_len, List.length_drop]
  refine ⟨⟨0, by omega, ⟨by omega, rfl⟩, rfl⟩, fun i h1 => ⟨fun hl => ?_, fun hl => ?_⟩⟩
  · have hl := lt_of hl
    have hw : IntKind.wrap .i64 (k + (i : Int) + 1) = k + ((i + 1 : Nat) : Int) := by rw [Cm.wrap_id (by omega) (by omega)]; omega
    refine ⟨by omega, i + 1, by omega, ⟨hw.symm, (wsucc (by omega)).symm⟩, ?_⟩
    rw [Cm.drop_getD (0 : Int) (show i < a.length by omega), Cm.set_mid _ _ (Cm.upFrom_len k i), Cm.upFrom_succ, List.append_assoc]; rfl
  · have hl := ge_of hl
    have e : i = a.length := by omega
    subst e; simp))
theorem ok_laws_markIntSS : FOk E_laws_markIntSS Try.f103 sMarkM := FOk.of2 fun (a : Cm.Mm) (k : Int) hn => FGA.fg ((vc_laws_markIntSS a k).mpr (by
  obtain ⟨hn, hk⟩ := (show Cm.bd a ∧ 0 ≤ k ∧ k ≤ 1099511627776 from hn)
  have hla := hn.1
  simp only [ifb_iff, imp_self, true_and, and_true, implies_true, List.length_append, Cm.markM_len, List.length_drop, List.length_take]
  refine ⟨⟨0, by omega, ⟨by simp [Cm.cnt], rfl⟩, rfl⟩, fun i h1 => ⟨fun hl => ?_, fun hl => ?_⟩⟩
  · have hl := lt_of hl
    have hl' : i < a.length := by omega
    have c1 := Cm.cnt_nn (a.take i)
    have c2 := Cm.cnt_take_le hn i
    have hml : (Cm.markM (a.take i) k).length = i := by rw [Cm.markM_len, List.length_take]; omega
    have hg : (Cm.markM (a.take i) k ++ a.drop i).getD i [] = a.getD i [] := by rw [Cm.drop_getD [] hl', Cm.getD_mid _ _ hml]
    have ht := Cm.take_succ_getD [] hl'
    rw [hg]
    refine ⟨by omega, ⟨hn.2 i hl', by omega, by omega⟩, i + 1, by omega, ⟨?_, (wsucc (by omega)).symm⟩, ?_⟩
    · rw [ht, Cm.cnt_append, Cm.cnt_one]; omega
    · rw [ht, Cm.drop_getD [] hl', Cm.set_mid _ _ hml, Cm.markM_append, List.append_assoc]; rfl
  · have hl := ge_of hl
    have e : i = a.length := by omega
    subst e; simp))
theorem ok_laws_heldIntS : FOk E_laws_heldIntS Try.f152 sHeldP := FOk.of2 fun (a : Cm.Pg) (k : Int) hn => FGA.fg ((vc_laws_heldIntS a k).mpr (by
  obtain ⟨hn, hk⟩ := (show a.length ≤ 1048576 ∧ 0 ≤ k ∧ k ≤ 1152921504606846976 from hn)
  simp only [ifb_iff, imp_self, true_and, and_true, implies_true]
  refine ⟨⟨0, ⟨by omega, rfl⟩, by omega, rfl⟩, fun i ⟨h1, h2⟩ => ⟨fun hl => ?_, fun hl => ?_⟩⟩
  · have hl := lt_of hl
    have hw : IntKind.wrap .i64 (k + (i : Int) + 1) = k + ((i + 1 : Nat) : Int) := by rw [Cm.wrap_id (by omega) (by omega)]; omega
    have ht := Cm.take_succ_getD (0 : Int) hl
    refine ⟨by omega, fun c => ?_, fun c => ⟨i + 1, ⟨⟨by omega, ?_⟩, by omega⟩, hw.symm, (wsucc (by omega)).symm⟩⟩
    · have c : a.getD i 0 ≠ k + i := by simpa using c
      unfold Cm.heldI; rw [if_neg]
      intro e; apply c
      have e2 : a.take (i + 1) = Cm.upFrom k (i + 1) := by
        rw [e]
        obtain ⟨r, hr⟩ : ∃ r, a.length = (i + 1) + r := ⟨a.length - (i + 1), by omega⟩
        rw [hr]; exact Cm.upFrom_take k (i + 1) r
      rw [ht, Cm.upFrom_succ, h2] at e2
      simpa using e2
    · have c : a.getD i 0 = k + i := by simpa using c
      rw [ht, Cm.upFrom_succ, h2, c]
  · have hl := ge_of hl
    have e : i = a.length := by omega
    subst e
    rw [List.take_length] at h2
    unfold Cm.heldI; rw [if_pos h2]))
theorem mark_take (m : Cm.Mm) (k : Int) (i : Nat) : (Cm.markM m k).take i = Cm.markM (m.take i) k := by
  induction m generalizing k i with
  | nil => simp [Cm.markM]
  | cons a m ih => cases i with
    | zero => simp [Cm.markM]
    | succ i => simp only [Cm.markM, List.take_succ_cons, ih]
theorem ok_laws_heldIntSS : FOk E_laws_heldIntSS Try.f105 sHeldM := FOk.of2 fun (a : Cm.Mm) (k : Int) hn => FGA.fg ((vc_laws_heldIntSS a k).mpr (by
  obtain ⟨hn, hk⟩ := (show Cm.bd a ∧ 0 ≤ k ∧ k ≤ 1099511627776 from hn)
  have hla := hn.1
  simp only [ifb_iff, imp_self, true_and, and_true, implies_true]
  refine ⟨⟨0, ⟨by omega, rfl⟩, by simp [Cm.cnt], rfl⟩, fun i ⟨h1, h2⟩ => ⟨fun hl => ?_, fun hl => ?_⟩⟩
  · have hl := lt_of hl
    have ht := Cm.take_succ_getD [] hl
    have c1 := Cm.cnt_nn (a.take i)
    have c2 := Cm.cnt_take_le hn i
    refine ⟨by omega, ⟨hn.2 i hl, by omega, by omega⟩, fun c => ?_, fun c => ⟨i + 1, ⟨⟨by omega, ?_⟩, by omega⟩, ?_, (wsucc (by omega)).symm⟩⟩
    all_goals unfold Cm.heldI at c
    · have c : ¬ a.getD i [] = Cm.upFrom (k + Cm.cnt (a.take i)) (a.getD i []).length := by
        intro e; rw [if_pos e] at c; simp at c; omega
      unfold Cm.heldM; rw [if_neg]
      intro e; apply c
      have e2 := mark_take a k (i + 1)
      rw [← e, ht, Cm.markM_append, ← h2] at e2
      simpa [Cm.markM] using e2
    · have c : a.getD i [] = Cm.upFrom (k + Cm.cnt (a.take i)) (a.getD i []).length := by
        apply Decidable.byContradiction; intro e; rw [if_neg e] at c; simp at c
      rw [ht, Cm.markM_append, ← h2, Cm.markM, ← c]; rfl
    · have c : a.getD i [] = Cm.upFrom (k + Cm.cnt (a.take i)) (a.getD i []).length := by
        apply Decidable.byContradiction; intro e; rw [if_neg e] at c; simp at c
      rw [ht, Cm.cnt_append, Cm.cnt_one, Cm.heldI, if_pos c]; omega
  · have hl := ge_of hl
    rw [List.take_of_length_le hl] at h2 ⊢
    unfold Cm.heldM; rw [if_pos h2]))
end Go.Proofs.Ytknhdlmgceklgaa.T
open Go Go.Am Go.Proofs
open Go.Cm (R rdOk)
namespace Go.Proofs.Ytknhdlmgceklgaa.T
set_option maxRecDepth 10000
theorem ok_spec_l2Copy : FOk E_spec_l2Copy Try.f138 sToM := FOk.of1 fun (m : Cm.Mm) hn => FGA.fg ((vc_spec_l2Copy m).mpr (by
  obtain ⟨hn, hb⟩ := (show Cm.bd m from hn)
  simp only [ifb_iff, imp_self, true_and, and_true, implies_true]
  refine ⟨⟨0, by omega, rfl, rfl⟩, fun a h1 => ⟨fun hl => ?_, fun hl => List.take_of_length_le (ge_of hl)⟩⟩
  have hl := lt_of hl
  have := hb a hl
  refine ⟨by omega, ?_, ?_, a + 1, by omega, (wsucc (by omega)).symm, Cm.take_succ_getD [] hl⟩
  · show (0 + (m.getD a []).length) * 8 ≤ _; omega
  · show ((m.take a).length + 1) * 24 ≤ _; rw [List.length_take]; omega))
theorem ok_impl_cloneMem : FOk E_impl_cloneMem Try.f123 sToM := FOk.of1 fun (m : Cm.Mm) hn => FGA.fg ((vc_impl_cloneMem m).mpr (by
  obtain ⟨hn, hb⟩ := (show Cm.bd m from hn)
  simp only [ifb_iff, imp_self, true_and, and_true, implies_true]
  refine ⟨⟨0, by omega, rfl, rfl⟩, fun a h1 => ⟨fun hl => ?_, fun hl => List.take_of_length_le (ge_of hl)⟩⟩
  have hl := lt_of hl
  have := hb a hl
  refine ⟨by omega, ?_, ?_, a + 1, by omega, (wsucc (by omega)).symm, Cm.take_succ_getD [] hl⟩
  · show (0 + (m.getD a []).length) * 8 ≤ _; omega
  · show ((m.take a).length + 1) * 24 ≤ _; rw [List.length_take]; omega))
theorem ok_spec_l2Page : FOk E_spec_l2Page Try.f163 sPage := FOk.of0 fun _ => FGA.fg (vc_spec_l2Page.mpr ⟨⟨rfl, by decide, by decide⟩, rfl, trivial⟩)
theorem within_iff {n lo hi : Int} : Cm.within n lo hi = true ↔ lo ≤ n ∧ n ≤ hi := by unfold Cm.within; simp
theorem okP_of {a : Cm.Pg} {i : Nat} (h : Cm.allW a = Cm.allW (a.drop i)) (hl : i < a.length) (c : Cm.within (a.getD i 0) 0 63 = false) : Cm.okP a = false := by
  rw [Cm.drop_getD (0 : Int) hl, Cm.allW, c] at h
  rw [Cm.okP, h]; rfl
theorem okP_go {a : Cm.Pg} {i : Nat} (h : Cm.allW a = Cm.allW (a.drop i)) (hl : i < a.length) (c : Cm.within (a.getD i 0) 0 63 = true) : Cm.allW a = Cm.allW (a.drop (i + 1)) := by
  rw [Cm.drop_getD (0 : Int) hl, Cm.allW, c] at h
  rw [h]; rfl
theorem okP_end {a : Cm.Pg} {i : Nat} (h : Cm.allW a = Cm.allW (a.drop i)) (hl : a.length ≤ i) : ((a.length : Int) == 4) = Cm.okP a := by
  rw [List.drop_of_length_le hl] at h
  rw [Cm.okP, h, Cm.allW, Bool.true_and]
  by_cases e : a.length = 4
  · rw [e]; rfl
  · rw [decide_eq_false e, beq_eq_false_iff_ne]; omega
theorem ok_impl_pageOk : FOk E_impl_pageOk Try.f113 sOkP := FOk.of1 fun (a : Cm.Pg) hn => FGA.fg ((vc_impl_pageOk a).mpr (by
  have hn : a.length ≤ 1048576 := hn
  simp only [ifb_iff, imp_self, true_and, and_true, implies_true]
  refine ⟨⟨0, ⟨by omega, rfl⟩, rfl⟩, fun i ⟨h1, h2⟩ => ⟨fun hl => ?_, fun hl => okP_end h2 (ge_of hl)⟩⟩
  have hl := lt_of hl
  exact ⟨by omega, fun c => (okP_of h2 hl (bnt c)).symm, fun c => ⟨i + 1, ⟨⟨by omega, okP_go h2 hl (bnf c)⟩, by omega⟩, (wsucc (by omega)).symm⟩⟩))
theorem ok_spec_l2PageOk : FOk E_spec_l2PageOk Try.f134 sOkP := FOk.of1 fun (a : Cm.Pg) hn => FGA.fg ((vc_spec_l2PageOk a).mpr (by
  have hn : a.length ≤ 1048576 := hn
  simp only [ifb_iff, imp_self, true_and, and_true, implies_true]
  refine ⟨⟨0, ⟨by omega, rfl⟩, rfl⟩, fun i ⟨h1, h2⟩ => ⟨fun hl => ?_, fun hl => okP_end h2 (ge_of hl)⟩⟩
  have hl := lt_of hl
  exact ⟨by omega, fun c => (okP_of h2 hl (bnt c)).symm, fun c => ⟨i + 1, ⟨⟨by omega, okP_go h2 hl (bnf c)⟩, by omega⟩, (wsucc (by omega)).symm⟩⟩))
theorem okM_of {a : Cm.Mm} {i : Nat} (h : Cm.okM a = Cm.okM (a.drop i)) (hl : i < a.length) (c : Cm.okP (a.getD i []) = false) : Cm.okM a = false := by
  rw [Cm.drop_getD [] hl, Cm.okM, c] at h
  rw [h]; rfl
theorem okM_go {a : Cm.Mm} {i : Nat} (h : Cm.okM a = Cm.okM (a.drop i)) (hl : i < a.length) (c : Cm.okP (a.getD i []) = true) : Cm.okM a = Cm.okM (a.drop (i + 1)) := by
  rw [Cm.drop_getD [] hl, Cm.okM, c] at h
  rw [h]; rfl
theorem ok_impl_MemOk : FOk E_impl_MemOk Try.f53 sOkM := FOk.of1 fun (a : Cm.Mm) hn => FGA.fg ((vc_impl_MemOk a).mpr (by
  obtain ⟨hn, hb⟩ := (show Cm.bd a from hn)
  simp only [ifb_iff, imp_self, true_and, and_true, implies_true]
  refine ⟨⟨0, ⟨by omega, rfl⟩, rfl⟩, fun i ⟨h1, h2⟩ => ⟨fun hl => ?_, fun hl => by rw [h2, List.drop_of_length_le (ge_of hl)]; rfl⟩⟩
  have hl := lt_of hl
  exact ⟨by omega, hb i hl, fun c => (okM_of h2 hl (bnt c)).symm, fun c => ⟨i + 1, ⟨⟨by omega, okM_go h2 hl (bnf c)⟩, by omega⟩, (wsucc (by omega)).symm⟩⟩))
theorem ok_spec_MemOk : FOk E_spec_MemOk Try.f77 sOkM := FOk.of1 fun (a : Cm.Mm) hn => FGA.fg ((vc_spec_MemOk a).mpr (by
  obtain ⟨hn, hb⟩ := (show Cm.bd a from hn)
  simp only [ifb_iff, imp_self, true_and, and_true, implies_true]
  refine ⟨⟨0, ⟨by omega, rfl⟩, rfl⟩, fun i ⟨h1, h2⟩ => ⟨fun hl => ?_, fun hl => by rw [h2, List.drop_of_length_le (ge_of hl)]; rfl⟩⟩
  have hl := lt_of hl
  exact ⟨by omega, hb i hl, fun c => (okM_of h2 hl (bnt c)).symm, fun c => ⟨i + 1, ⟨⟨by omega, okM_go h2 hl (bnf c)⟩, by omega⟩, (wsucc (by omega)).symm⟩⟩))
theorem okG_eq (a : Cm.Mm) : (Cm.okM a && (a.length : Int) == 6) = Cm.okG a := by
  rw [Cm.okG]; congr 1
  by_cases e : a.length = 6
  · rw [e]; rfl
  · rw [decide_eq_false e, beq_eq_false_iff_ne]; omega
theorem ok_impl_guestMem : FOk E_impl_guestMem Try.f122 sOkG := FOk.of1 fun (a : Cm.Mm) hn => FGA.fg ((vc_impl_guestMem a).mpr (by
  simp only [imp_self, true_and, and_true]; exact ⟨hn, okG_eq a⟩))
theorem ok_spec_l11Guest : FOk E_spec_l11Guest Try.f79 sOkG := FOk.of1 fun (a : Cm.Mm) hn => FGA.fg ((vc_spec_l11Guest a).mpr (by
  simp only [imp_self, true_and, and_true]; exact ⟨hn, okG_eq a⟩))
end Go.Proofs.Ytknhdlmgceklgaa.T
open Go Go.Am Go.Proofs
open Go.Cm (R rdOk)
namespace Go.Proofs.Ytknhdlmgceklgaa.T
set_option maxRecDepth 10000
end Go.Proofs.Ytknhdlmgceklgaa.T
open Go Go.Am Go.Proofs
open Go.Cm (R rdOk)
namespace Go.Proofs.Ytknhdlmgceklgaa.T
set_option maxRecDepth 10000
theorem bb (b : Bool) : b = false ∨ b = true := by cases b <;> simp
theorem within_f {n lo hi : Int} (h : Cm.within n lo hi = true) : lo ≤ n ∧ n ≤ hi := within_iff.mp h
theorem okG_okM {m : Cm.Mm} (h : Cm.okG m = true) : Cm.okM m = true := by unfold Cm.okG at h; rw [Bool.and_eq_true] at h; exact h.1
theorem kn_laws_szIntS : Known Try.prog 141 (sSz kI) := known_of tabOk (kn0) mixed Try.func141 (by kernel_rfl) ok_laws_szIntS
theorem kn_laws_szIntSS : Known Try.prog 94 sSzM := known_of tabOk (AllK.cons kn0 kn_laws_szIntS) mixed Try.func94 (by kernel_rfl) ok_laws_szIntSS
theorem kn_laws_toIntS : Known Try.prog 145 sToP := known_of tabOk (kn0) mixed Try.func145 (by kernel_rfl) ok_laws_toIntS
theorem kn_laws_toIntSS : Known Try.prog 98 sToM := known_of tabOk (AllK.cons kn0 kn_laws_toIntS) mixed Try.func98 (by kernel_rfl) ok_laws_toIntSS
theorem kn_laws_eqIntS : Known Try.prog 147 sEqP := known_of tabOk (kn0) mixed Try.func147 (by kernel_rfl) ok_laws_eqIntS
theorem kn_laws_eqIntSS : Known Try.prog 101 sEqM := known_of tabOk (AllK.cons kn0 kn_laws_eqIntS) mixed Try.func101 (by kernel_rfl) ok_laws_eqIntSS
theorem kn_laws_markIntS : Known Try.prog 149 sMarkP := known_of tabOk (kn0) mixed Try.func149 (by kernel_rfl) ok_laws_markIntS
theorem kn_laws_markIntSS : Known Try.prog 103 sMarkM := known_of tabOk (AllK.cons kn0 kn_laws_markIntS) mixed Try.func103 (by kernel_rfl) ok_laws_markIntSS
theorem kn_laws_heldIntS : Known Try.prog 152 sHeldP := known_of tabOk (kn0) mixed Try.func152 (by kernel_rfl) ok_laws_heldIntS
theorem kn_laws_heldIntSS : Known Try.prog 105 sHeldM := known_of tabOk (AllK.cons kn0 kn_laws_heldIntS) mixed Try.func105 (by kernel_rfl) ok_laws_heldIntSS
theorem kn_spec_l2Copy : Known Try.prog 138 sToM := known_of tabOk (kn0) mixed Try.func138 (by kernel_rfl) ok_spec_l2Copy
theorem kn_impl_cloneMem : Known Try.prog 123 sToM := known_of tabOk (kn0) mixed Try.func123 (by kernel_rfl) ok_impl_cloneMem
theorem kn_spec_l2Page : Known Try.prog 163 sPage := known_of tabOk (kn0) mixed Try.func163 (by kernel_rfl) ok_spec_l2Page
theorem kn_impl_pageOk : Known Try.prog 113 sOkP := known_of tabOk (AllK.cons kn0 kn_98) mixed Try.func113 (by kernel_rfl) ok_impl_pageOk
theorem kn_spec_l2PageOk : Known Try.prog 134 sOkP := known_of tabOk (AllK.cons kn0 kn_107) mixed Try.func134 (by kernel_rfl) ok_spec_l2PageOk
theorem kn_impl_MemOk : Known Try.prog 53 sOkM := known_of tabOk (AllK.cons kn0 kn_impl_pageOk) mixed Try.func53 (by kernel_rfl) ok_impl_MemOk
theorem kn_spec_MemOk : Known Try.prog 77 sOkM := known_of tabOk (AllK.cons kn0 kn_spec_l2PageOk) mixed Try.func77 (by kernel_rfl) ok_spec_MemOk
theorem kn_impl_guestMem : Known Try.prog 122 sOkG := known_of tabOk (AllK.cons kn0 kn_impl_MemOk) mixed Try.func122 (by kernel_rfl) ok_impl_guestMem
theorem kn_spec_l11Guest : Known Try.prog 79 sOkG := known_of tabOk (AllK.cons kn0 kn_spec_MemOk) mixed Try.func79 (by kernel_rfl) ok_spec_l11Guest
end Go.Proofs.Ytknhdlmgceklgaa.T
open Go Go.Am Go.Proofs
open Go.Cm (R rdOk)
namespace Go.Proofs.Ytknhdlmgceklgaa.T
set_option maxRecDepth 10000
end Go.Proofs.Ytknhdlmgceklgaa.T
open Go Go.Am Go.Proofs
open Go.Cm (R rdOk)
namespace Go.Proofs.Ytknhdlmgceklgaa.T
set_option maxRecDepth 10000
end Go.Proofs.Ytknhdlmgceklgaa.T
open Go Go.Am Go.Proofs
open Go.Cm (R rdOk)
namespace Go.Proofs.Ytknhdlmgceklgaa.T
set_option maxRecDepth 10000
theorem ok_laws_szMapS : FOk E_laws_szMapS Try.f171 (sSz kE) := FOk.of2 fun (l : List Cm.E) (n : Int) _ => FGA.fg ((vc_laws_szMapS l n).mpr (by
  simp only [ifb_iff]
  refine ⟨fun h => ⟨?_, trivial⟩, fun h => ⟨?_, trivial⟩⟩
  · rw [Cm.szL, if_pos (by simpa using h)]
  · rw [Cm.szL, if_neg (by simpa using h)]))
theorem ok_laws_szShadeS : FOk E_laws_szShadeS Try.f172 (sSz kS) := FOk.of2 fun (l : List Cm.Sh) (n : Int) _ => FGA.fg ((vc_laws_szShadeS l n).mpr (by
  simp only [ifb_iff]
  refine ⟨fun h => ⟨?_, trivial⟩, fun h => ⟨?_, trivial⟩⟩
  · rw [Cm.szL, if_pos (by simpa using h)]
  · rw [Cm.szL, if_neg (by simpa using h)]))
theorem dneg {a : Int} (h : decide (a < 0) = true) : a < 0 := of_decide_eq_true h
theorem dpos {a : Int} (h : decide (a < 0) = false) : ¬ a < 0 := of_decide_eq_false h
theorem szn {t n : Int} (h : decide (Cm.szT t n < 0) = false) : ¬ n - t < 0 := fun x => of_decide_eq_false h (Cm.szT_neg.mpr x)
theorem ok_laws_szGuest : FOk E_laws_szGuest Try.f142 sSzG := FOk.of2 fun (g : Cm.Gt) (n : Int) hp => FGA.fg ((vc_laws_szGuest g n).mpr (by
  obtain ⟨⟨h1, h2, h3⟩, h4⟩ := (show Cm.wfG g ∧ 0 ≤ n ∧ n ≤ 1048576 from hp)
  have c := Cm.totM_nn g.2.1
  rw [Cm.szL_szT h4 h1]
  simp only [ifb_iff, true_and, and_true]
  refine ⟨fun h => ?_, fun h => ?_⟩
  · have h := Cm.szT_neg.mp (dneg h)
    unfold Cm.szT Cm.totG; rw [if_pos (by omega)]
  · have e := Cm.szT_pos (dpos h)
    have h := szn h
    have b : 0 ≤ n - (g.1.length : Int) ∧ n - (g.1.length : Int) ≤ 1048576 := by omega
    rw [e, Cm.szLL_szT b h2]
    refine ⟨⟨h2, b⟩, fun h' => ?_, fun h' => ?_⟩
    · have h' := Cm.szT_neg.mp (dneg h')
      unfold Cm.szT Cm.totG; rw [if_pos (by omega)]
    · have e' := Cm.szT_pos (dpos h')
      have h' := szn h'
      rw [e', Cm.szL_szT (by omega) h3]
      refine ⟨fun h'' => ?_, fun h'' => ?_⟩
      · have h'' := Cm.szT_neg.mp (dneg h'')
        unfold Cm.szT Cm.totG; rw [if_pos (by omega)]
      · have h'' := szn h''
        unfold Cm.szT Cm.totG; rw [if_neg (by omega), if_neg (by omega)]; omega))
theorem ok_laws_szGuestS : FOk E_laws_szGuestS Try.f95 sSzGs := FOk.of2 fun (l : List Cm.Gt) (n : Int) hp => FGA.fg ((vc_laws_szGuestS l n).mpr (by
  obtain ⟨⟨h1, h2⟩, h3⟩ := (show Cm.wfGs l ∧ 0 ≤ n ∧ n ≤ 1048576 from hp)
  have c := Cm.totS_nn l
  have hw : IntKind.wrap .i64 (n - (l.length : Int)) = n - (l.length : Int) := Cm.wrap_id (by omega) (by omega)
  simp only [ifb_iff, imp_self, true_and, and_true, implies_true, hw]
  refine ⟨fun h => ?_, fun h => ?_⟩
  · have h := dneg h
    unfold Cm.szT Cm.totGs; rw [if_pos (by omega)]
  · have h := dpos h
    refine ⟨⟨(0, n - (l.length : Int)), ⟨by omega, by dsimp only; omega, ?_⟩, rfl, rfl⟩, ?_⟩
    · unfold Cm.szT Cm.totGs; rw [List.drop_zero]; split <;> split <;> omega
    rintro ⟨i, a⟩ ⟨g1, g2, g3⟩
    dsimp only at g1 g2 g3 ⊢
    refine ⟨fun hl => ?_, fun hl => ?_⟩
    · have hl := lt_of hl
      have d := Cm.totS_nn (l.drop (i + 1))
      have e := Cm.totG_nn (l.getD i Cm.g0)
      rw [Cm.drop_getD Cm.g0 hl, Cm.totS] at g3
      refine ⟨by omega, ⟨h2 i hl, g2⟩, fun x => ?_, fun x => ?_⟩
      · have x := Cm.szT_neg.mp (dneg x)
        rw [g3]; unfold Cm.szT; rw [if_pos (by omega)]
      · have y := Cm.szT_pos (dpos x)
        have x := szn x
        refine ⟨(i + 1, a - Cm.totG (l.getD i Cm.g0)), ⟨⟨by omega, by dsimp only; omega, ?_⟩, by dsimp only; omega⟩, y.symm, (wsucc (by omega)).symm⟩
        rw [g3]; unfold Cm.szT; dsimp only; split <;> split <;> omega
    · have hl := ge_of hl
      rw [g3, List.drop_of_length_le hl]
      unfold Cm.szT Cm.totS; rw [if_neg (by omega)]; omega))
theorem ok_laws_szHost : FOk E_laws_szHost Try.f39 sSzH := FOk.of2 fun (h : Cm.Ho) (n : Int) hp => FGA.fg ((vc_laws_szHost h n).mpr (by
  obtain ⟨⟨h1, h2⟩, h3⟩ := (show Cm.wfH h ∧ 0 ≤ n ∧ n ≤ 1048576 from hp)
  have c := Cm.totM_nn h.1
  have d := Cm.totS_nn h.2.1
  have d' : 0 ≤ Cm.totGs h.2.1 := by unfold Cm.totGs; omega
  rw [Cm.szLL_szT h3 h1]
  simp only [ifb_iff, true_and, and_true]
  refine ⟨⟨h1, h3⟩, fun h => ?_, fun h => ?_⟩
  · have h := Cm.szT_neg.mp (dneg h)
    unfold Cm.szT Cm.totH; rw [if_pos (by omega)]
  · have e := Cm.szT_pos (dpos h)
    have h := szn h
    rw [e]
    refine ⟨⟨h2, by omega, by omega⟩, fun h' => ?_, fun h' => ?_⟩
    · have h' := Cm.szT_neg.mp (dneg h')
      unfold Cm.szT Cm.totH; rw [if_pos (by omega)]
    · have h' := szn h'
      unfold Cm.szT Cm.totH; rw [if_neg (by omega), if_neg (by omega)]; omega))
theorem ok_laws_toMap : FOk E_laws_toMap Try.f183 (sId kE) := FOk.of1 fun a _ => FGA.fg ((vc_laws_toMap a).mpr (by simp only [true_and, and_true]))
theorem ok_laws_toShade : FOk E_laws_toShade Try.f184 (sId kS) := FOk.of1 fun a _ => FGA.fg ((vc_laws_toShade a).mpr (by simp only [true_and, and_true]))
theorem ok_laws_toMapS : FOk E_laws_toMapS Try.f173 (sToL kE) := FOk.of1 fun (l : List Cm.E) hn => FGA.fg ((vc_laws_toMapS l).mpr (by
  have hn : l.length ≤ 1048576 := hn
  simp only [ifb_iff, imp_self, true_and, and_true, implies_true]
  refine ⟨⟨by omega, ?_⟩, ⟨0, by omega, rfl, Cm.fill_zero _ _⟩, fun a h1 => ⟨fun hl => ?_, fun hl => Cm.fill_all _ l (ge_of hl)⟩⟩
  · show (l.length : Int) * ((24 : Nat) : Int) ≤ _; omega
  · have hl := lt_of hl
    exact ⟨by omega, ⟨by omega, by rw [Cm.fill_len _ _ h1]; omega⟩, a + 1, by omega, (wsucc (by omega)).symm, (Cm.fill_set _ _ l hl).symm⟩))
theorem ok_laws_toShadeS : FOk E_laws_toShadeS Try.f174 (sToL kS) := FOk.of1 fun (l : List Cm.Sh) hn => FGA.fg ((vc_laws_toShadeS l).mpr (by
  have hn : l.length ≤ 1048576 := hn
  simp only [ifb_iff, imp_self, true_and, and_true, implies_true]
  refine ⟨⟨by omega, ?_⟩, ⟨0, by omega, rfl, Cm.fill_zero _ _⟩, fun a h1 => ⟨fun hl => ?_, fun hl => Cm.fill_all _ l (ge_of hl)⟩⟩
  · show (l.length : Int) * ((32 : Nat) : Int) ≤ _; omega
  · have hl := lt_of hl
    exact ⟨by omega, ⟨by omega, by rw [Cm.fill_len _ _ h1]; omega⟩, a + 1, by omega, (wsucc (by omega)).symm, (Cm.fill_set _ _ l hl).symm⟩))
theorem ok_laws_toGuest : FOk E_laws_toGuest Try.f146 sToG := FOk.of1 fun (g : Cm.Gt) hn => FGA.fg ((vc_laws_toGuest g).mpr (by
  obtain ⟨h1, h2, h3⟩ := (show Cm.bdG g from hn)
  exact ⟨h1, h2, h3, rfl, trivial⟩))
theorem ok_laws_toGuestS : FOk E_laws_toGuestS Try.f99 sToGs := FOk.of1 fun (l : List Cm.Gt) hn => FGA.fg ((vc_laws_toGuestS l).mpr (by
  obtain ⟨hn, hb⟩ := (show Cm.bdGs l from hn)
  simp only [ifb_iff, imp_self, true_and, and_true, implies_true]
  refine ⟨⟨by omega, ?_⟩, ⟨0, by omega, rfl, Cm.fill_zero _ _⟩, fun a h1 => ⟨fun hl => ?_, fun hl => Cm.fill_all _ l (ge_of hl)⟩⟩
  · show (l.length : Int) * ((72 : Nat) : Int) ≤ _; omega
  · have hl := lt_of hl
    exact ⟨by omega, hb a hl, ⟨by omega, by rw [Cm.fill_len _ _ h1]; omega⟩, a + 1, by omega, (wsucc (by omega)).symm, (Cm.fill_set _ _ l hl).symm⟩))
theorem ok_laws_toHost : FOk E_laws_toHost Try.f41 sToH := FOk.of1 fun (h : Cm.Ho) hn => FGA.fg ((vc_laws_toHost h).mpr (by
  obtain ⟨h1, h2⟩ := (show Cm.bdH h from hn)
  exact ⟨h1, h2, rfl, trivial⟩))
theorem ok_laws_eqMap : FOk E_laws_eqMap Try.f185 sEqE := FOk.of2 fun (a b : Cm.E) _ => FGA.fg ((vc_laws_eqMap a b).mpr (by
  obtain ⟨a1, a2, a3⟩ := a; obtain ⟨b1, b2, b3⟩ := b
  simp only [ifb_iff, Cm.eqE, and_true]
  by_cases h2 : a2 = b2 <;> cases a1 <;> cases b1 <;> cases a3 <;> cases b3 <;> simp [h2]))
theorem ok_laws_eqShade : FOk E_laws_eqShade Try.f186 sEqS := FOk.of2 fun (a b : Cm.Sh) _ => FGA.fg ((vc_laws_eqShade a b).mpr (by
  obtain ⟨a1, a2, a3, a4⟩ := a; obtain ⟨b1, b2, b3, b4⟩ := b
  simp only [ifb_iff, Cm.eqS, and_true]
  by_cases h2 : a2 = b2 <;> by_cases h3 : a3 = b3 <;> cases a1 <;> cases b1 <;> cases a4 <;> cases b4 <;> simp [h2, h3]))
theorem ok_laws_eqMapS : FOk E_laws_eqMapS Try.f175 sEqEs := FOk.of2 fun (a b : List Cm.E) hn => FGA.fg ((vc_laws_eqMapS a b).mpr (by
  have hn : a.length ≤ 1048576 := hn
  simp only [ifb_iff, imp_self, true_and, and_true, implies_true]
  refine ⟨fun h => (Cm.eqEs_len (by simpa [Int.natCast_inj] using h)).symm, fun h => ⟨⟨0, ⟨by omega, rfl⟩, rfl⟩, fun i ⟨g1, g2⟩ => ⟨fun hl => ?_, fun hl => ?_⟩⟩⟩
  · have hl := lt_of hl
    have h : a.length = b.length := by simpa [Int.natCast_inj] using h
    rw [Cm.drop_getD Cm.e0 hl, Cm.drop_getD Cm.e0 (h ▸ hl : i < b.length), Cm.eqEs_cons] at g2
    refine ⟨by omega, by omega, fun c => ?_, fun c => ⟨i + 1, ⟨⟨by omega, ?_⟩, by omega⟩, (wsucc (by omega)).symm⟩⟩
    · rw [g2, bnt c]; rfl
    · rw [g2, bnf c]; rfl
  · have hl := ge_of hl
    have h : a.length = b.length := by simpa [Int.natCast_inj] using h
    rw [g2, List.drop_of_length_le hl, List.drop_of_length_le (by omega)]; rfl))
theorem ok_laws_eqShadeS : FOk E_laws_eqShadeS Try.f176 sEqSs := FOk.of2 fun (a b : List Cm.Sh) hn => FGA.fg ((vc_laws_eqShadeS a b).mpr (by
  have hn : a.length ≤ 1048576 := hn
  simp only [ifb_iff, imp_self, true_and, and_true, implies_true]
  refine ⟨fun h => (Cm.eqSs_len (by simpa [Int.natCast_inj] using h)).symm, fun h => ⟨⟨0, ⟨by omega, rfl⟩, rfl⟩, fun i ⟨g1, g2⟩ => ⟨fun hl => ?_, fun hl => ?_⟩⟩⟩
  · have hl := lt_of hl
    have h : a.length = b.length := by simpa [Int.natCast_inj] using h
    rw [Cm.drop_getD Cm.s0 hl, Cm.drop_getD Cm.s0 (h ▸ hl : i < b.length), Cm.eqSs_cons] at g2
    refine ⟨by omega, by omega, fun c => ?_, fun c => ⟨i + 1, ⟨⟨by omega, ?_⟩, by omega⟩, (wsucc (by omega)).symm⟩⟩
    · rw [g2, bnt c]; rfl
    · rw [g2, bnf c]; rfl
  · have hl := ge_of hl
    have h : a.length = b.length := by simpa [Int.natCast_inj] using h
    rw [g2, List.drop_of_length_le hl, List.drop_of_length_le (by omega)]; rfl))
theorem ok_laws_eqGuest : FOk E_laws_eqGuest Try.f148 sEqG := FOk.of2 fun (a b : Cm.Gt) hn => FGA.fg ((vc_laws_eqGuest a b).mpr (by
  obtain ⟨h1, h2, h3⟩ := (show Cm.bdG a from hn)
  simp only [ifb_iff, Cm.eqG_eq, and_true]
  cases e1 : Cm.eqEs a.1 b.1 <;> cases e2 : Cm.eqM a.2.1 b.2.1 <;> cases e3 : Cm.eqSs a.2.2 b.2.2 <;> simp [h1, h2, h3]))
theorem ok_laws_eqGuestS : FOk E_laws_eqGuestS Try.f102 sEqGs := FOk.of2 fun (a b : List Cm.Gt) hn => FGA.fg ((vc_laws_eqGuestS a b).mpr (by
  obtain ⟨hn, hb⟩ := (show Cm.bdGs a from hn)
  simp only [ifb_iff, imp_self, true_and, and_true, implies_true]
  refine ⟨fun h => (Cm.eqGs_len (by simpa [Int.natCast_inj] using h)).symm, fun h => ⟨⟨0, ⟨by omega, rfl⟩, rfl⟩, fun i ⟨g1, g2⟩ => ⟨fun hl => ?_, fun hl => ?_⟩⟩⟩
  · have hl := lt_of hl
    have h : a.length = b.length := by simpa [Int.natCast_inj] using h
    rw [Cm.drop_getD Cm.g0 hl, Cm.drop_getD Cm.g0 (h ▸ hl : i < b.length), Cm.eqGs_cons] at g2
    refine ⟨by omega, by omega, hb i hl, fun c => ?_, fun c => ⟨i + 1, ⟨⟨by omega, ?_⟩, by omega⟩, (wsucc (by omega)).symm⟩⟩
    · rw [g2, bnt c]; rfl
    · rw [g2, bnf c]; rfl
  · have hl := ge_of hl
    have h : a.length = b.length := by simpa [Int.natCast_inj] using h
    rw [g2, List.drop_of_length_le hl, List.drop_of_length_le (by omega)]; unfold Cm.eqGs; simp))
theorem ok_laws_eqHost : FOk E_laws_eqHost Try.f43 sEqH := FOk.of2 fun (a b : Cm.Ho) hn => FGA.fg ((vc_laws_eqHost a b).mpr (by
  obtain ⟨h1, h2⟩ := (show Cm.bdH a from hn)
  simp only [ifb_iff, Cm.eqH_eq, and_true]
  cases e1 : Cm.eqM a.1 b.1 <;> cases e2 : Cm.eqGs a.2.1 b.2.1 <;> by_cases e3 : a.2.2 = b.2.2 <;> simp [h1, h2, e3]))
theorem ok_laws_markMapS : FOk E_laws_markMapS Try.f150 sMarkEs := FOk.of2 fun (a : List Cm.E) (k : Int) hn => FGA.fg ((vc_laws_markMapS a k).mpr (by
  obtain ⟨hn, hk⟩ := (show a.length ≤ 1048576 ∧ 0 ≤ k ∧ k ≤ 1099511627776 from hn)
  simp only [ifb_iff, imp_self, true_and, and_true, implies_true, Cm.modAt_len, List.length_append, Cm.mkEs_len, List.length_drop]
  refine ⟨⟨0, by omega, ⟨by omega, rfl⟩, rfl⟩, fun i h1 => ⟨fun hl => ?_, fun hl => ?_⟩⟩
  · have hl := lt_of hl
    have hl' : i < a.length := by omega
    have w1 : IntKind.wrap .i64 (k + 3 * (i : Int) + 1) = k + 3 * (i : Int) + 1 := Cm.wrap_id (by omega) (by omega)
    have w2 : IntKind.wrap .i64 (k + 3 * (i : Int) + 1 + 1) = k + 3 * (i : Int) + 1 + 1 := Cm.wrap_id (by omega) (by omega)
    have w3 : IntKind.wrap .i64 (k + 3 * (i : Int) + 1 + 1 + 1) = k + 3 * (i : Int) + 1 + 1 + 1 := Cm.wrap_id (by omega) (by omega)
    simp only [w1, w2, w3]
    rw [Cm.drop_getD Cm.e0 hl']
    simp only [Cm.modAt_mid _ _ _ (Cm.mkEs_len k i)]
    refine ⟨by decide, by omega, by omega, by decide, by omega, i + 1, by omega, ⟨by omega, (wsucc (by omega)).symm⟩, ?_⟩
    rw [Cm.mkEs_snoc, List.append_assoc, Cm.tmod3 (by omega), Cm.tmod3 (by omega)]
    simp only [Int.add_assoc]; rfl
  · have hl := ge_of hl
    have e : i = a.length := by omega
    subst e; simp))
theorem ok_laws_markShadeS : FOk E_laws_markShadeS Try.f151 sMarkSs := FOk.of2 fun (a : List Cm.Sh) (k : Int) hn => FGA.fg ((vc_laws_markShadeS a k).mpr (by
  obtain ⟨hn, hk⟩ := (show a.length ≤ 1048576 ∧ 0 ≤ k ∧ k ≤ 1099511627776 from hn)
  simp only [ifb_iff, imp_self, true_and, and_true, implies_true, Cm.modAt_len, List.length_append, Cm.mkSs_len, List.length_drop]
  refine ⟨⟨0, by omega, ⟨by omega, rfl⟩, rfl⟩, fun i h1 => ⟨fun hl => ?_, fun hl => ?_⟩⟩
  · have hl := lt_of hl
    have hl' : i < a.length := by omega
    have w1 : IntKind.wrap .i64 (k + 4 * (i : Int) + 1) = k + 4 * (i : Int) + 1 := Cm.wrap_id (by omega) (by omega)
    have w2 : IntKind.wrap .i64 (k + 4 * (i : Int) + 1 + 1) = k + 4 * (i : Int) + 1 + 1 := Cm.wrap_id (by omega) (by omega)
    have w3 : IntKind.wrap .i64 (k + 4 * (i : Int) + 1 + 1 + 1) = k + 4 * (i : Int) + 1 + 1 + 1 := Cm.wrap_id (by omega) (by omega)
    have w4 : IntKind.wrap .i64 (k + 4 * (i : Int) + 1 + 1 + 1 + 1) = k + 4 * (i : Int) + 1 + 1 + 1 + 1 := Cm.wrap_id (by omega) (by omega)
    simp only [w1, w2, w3, w4]
    rw [Cm.drop_getD Cm.s0 hl']
    simp only [Cm.modAt_mid _ _ _ (Cm.mkSs_len k i)]
    refine ⟨by decide, by omega, by omega, by omega, by decide, by omega, i + 1, by omega, ⟨by omega, (wsucc (by omega)).symm⟩, ?_⟩
    rw [Cm.mkSs_snoc, List.append_assoc, Cm.tmod3 (by omega), Cm.tmod3 (by omega)]
    simp only [Int.add_assoc]; rfl
  · have hl := ge_of hl
    have e : i = a.length := by omega
    subst e; simp))
theorem ok_laws_heldMapS : FOk E_laws_heldMapS Try.f153 sHeldEs := FOk.of2 fun (a : List Cm.E) (k : Int) hn => FGA.fg ((vc_laws_heldMapS a k).mpr (by
  obtain ⟨⟨hn, ha⟩, hk⟩ := (show (a.length ≤ 1048576 ∧ a = Cm.mkEs k a.length) ∧ 0 ≤ k ∧ k ≤ 1099511627776 from hn)
  simp only [ifb_iff, imp_self, true_and, and_true, implies_true]
  refine ⟨⟨0, by omega, by omega, rfl⟩, fun i h1 => ⟨fun hl => ?_, fun hl => ?_⟩⟩
  · have hl := lt_of hl
    have w1 : IntKind.wrap .i64 (k + 3 * (i : Int) + 1) = k + 3 * (i : Int) + 1 := Cm.wrap_id (by omega) (by omega)
    have w2 : IntKind.wrap .i64 (k + 3 * (i : Int) + 1 + 1) = k + 3 * (i : Int) + 1 + 1 := Cm.wrap_id (by omega) (by omega)
    have w3 : IntKind.wrap .i64 (k + 3 * (i : Int) + 1 + 1 + 1) = k + 3 * (i : Int) + 1 + 1 + 1 := Cm.wrap_id (by omega) (by omega)
    have hg : a.getD i Cm.e0 = (Cm.m3 (k + 3 * i), k + 3 * i + 1, Cm.m3 (k + 3 * i + 2)) := by rw [ha, Cm.mkEs_get hl]
    simp only [w1, w2, w3]
    rw [hg, Cm.tmod3 (by omega), Cm.tmod3 (by omega)]
    simp only [Int.add_assoc, Int.reduceAdd, bne_self_eq_false, beq_self_eq_true, Bool.not_true, Bool.false_eq_true, false_implies, true_and, forall_const]
    refine ⟨by omega, by decide, by omega, by omega, by decide, i + 1, by omega, by omega, (wsucc (by omega)).symm⟩
  · have hl := ge_of hl
    have e : i = a.length := by omega
    subst e; rfl))
theorem ok_laws_heldShadeS : FOk E_laws_heldShadeS Try.f154 sHeldSs := FOk.of2 fun (a : List Cm.Sh) (k : Int) hn => FGA.fg ((vc_laws_heldShadeS a k).mpr (by
  obtain ⟨⟨hn, ha⟩, hk⟩ := (show (a.length ≤ 1048576 ∧ a = Cm.mkSs k a.length) ∧ 0 ≤ k ∧ k ≤ 1099511627776 from hn)
  simp only [ifb_iff, imp_self, true_and, and_true, implies_true]
  refine ⟨⟨0, by omega, by omega, rfl⟩, fun i h1 => ⟨fun hl => ?_, fun hl => ?_⟩⟩
  · have hl := lt_of hl
    have w1 : IntKind.wrap .i64 (k + 4 * (i : Int) + 1) = k + 4 * (i : Int) + 1 := Cm.wrap_id (by omega) (by omega)
    have w2 : IntKind.wrap .i64 (k + 4 * (i : Int) + 1 + 1) = k + 4 * (i : Int) + 1 + 1 := Cm.wrap_id (by omega) (by omega)
    have w3 : IntKind.wrap .i64 (k + 4 * (i : Int) + 1 + 1 + 1) = k + 4 * (i : Int) + 1 + 1 + 1 := Cm.wrap_id (by omega) (by omega)
    have w4 : IntKind.wrap .i64 (k + 4 * (i : Int) + 1 + 1 + 1 + 1) = k + 4 * (i : Int) + 1 + 1 + 1 + 1 := Cm.wrap_id (by omega) (by omega)
    have hg : a.getD i Cm.s0 = (Cm.m3 (k + 4 * i), k + 4 * i + 1, k + 4 * i + 2, Cm.m3 (k + 4 * i + 3)) := by rw [ha, Cm.mkSs_get hl]
    simp only [w1, w2, w3, w4]
    rw [hg, Cm.tmod3 (by omega), Cm.tmod3 (by omega)]
    simp only [Int.add_assoc, Int.reduceAdd, bne_self_eq_false, beq_self_eq_true, Bool.not_true, Bool.false_eq_true, false_implies, true_and, forall_const]
    refine ⟨by omega, by decide, by omega, by omega, by omega, by decide, i + 1, by omega, by omega, (wsucc (by omega)).symm⟩
  · have hl := ge_of hl
    have e : i = a.length := by omega
    subst e; rfl))
end Go.Proofs.Ytknhdlmgceklgaa.T
open Go Go.Am Go.Proofs
open Go.Cm (R rdOk)
namespace Go.Proofs.Ytknhdlmgceklgaa.T
set_option maxRecDepth 10000
theorem ok_laws_markGuestS : FOk E_laws_markGuestS Try.f104 sMarkGs := FOk.of2 fun (a : List Cm.Gt) (k : Int) hn => FGA.fg ((vc_laws_markGuestS a k).mpr (by
  obtain ⟨⟨hb, ht⟩, hk⟩ := (show (Cm.bdGs a ∧ Cm.totGs a ≤ 1048576) ∧ 0 ≤ k ∧ k ≤ 1073741824 from hn)
  have hn := hb.1
  simp only [ifb_iff, imp_self, true_and, and_true, implies_true, Cm.modAt_len, List.length_append, Cm.mkGs_len, List.length_drop, List.length_take]
  refine ⟨⟨0, by omega, ⟨by simp [Cm.cntS], rfl⟩, rfl⟩, fun i h1 => ⟨fun hl => ?_, fun hl => ?_⟩⟩
  · have hl := lt_of hl
    have hl' : i < a.length := by omega
    have hml : (Cm.mkGs (a.take i) k).length = i := by rw [Cm.mkGs_len, List.length_take]; omega
    have c1 := Cm.cntS_nn (a.take i)
    have c2 := Cm.cntS_take a ht i
    obtain ⟨b1, b2, b3⟩ := hb.2 i hl'
    have c3 := Cm.totS_get hl'
    have hta := Cm.take_succ_getD Cm.g0 hl'
    have hda := Cm.drop_getD Cm.g0 hl'
    generalize a.getD i Cm.g0 = g at b1 b2 b3 c3 hta hda
    have c4 := Cm.cnt_nn g.2.1
    unfold Cm.totGs at ht
    unfold Cm.totG Cm.totM at c3
    rw [hda]
    simp only [Cm.modAt_mid _ _ _ hml, Cm.getD_mid _ _ hml]
    refine ⟨by omega, ⟨b1, by omega, by omega⟩, by omega, ⟨b2, by omega, by omega⟩, by omega, ⟨b3, by omega, by omega⟩, i + 1, by omega, ⟨?_, (wsucc (by omega)).symm⟩, ?_⟩
    · rw [hta, Cm.cntS_append, Cm.cntS_one]; unfold Cm.cntG; omega
    · rw [hta, Cm.mkGs_append, List.append_assoc]; rfl
  · have hl := ge_of hl
    have e : i = a.length := by omega
    subst e; simp))
theorem ok_laws_heldGuestS : FOk E_laws_heldGuestS Try.f106 sHeldGs := FOk.of2 fun (a : List Cm.Gt) (k : Int) hn => FGA.fg ((vc_laws_heldGuestS a k).mpr (by
  obtain ⟨⟨⟨hb, ht⟩, ha⟩, hk⟩ := (show ((Cm.bdGs a ∧ Cm.totGs a ≤ 1048576) ∧ a = Cm.mkGs a k) ∧ 0 ≤ k ∧ k ≤ 1073741824 from hn)
  have hn := hb.1
  simp only [ifb_iff, imp_self, true_and, and_true, implies_true]
  refine ⟨⟨0, by omega, by simp [Cm.cntS], rfl⟩, fun i h1 => ⟨fun hl => ?_, fun hl => ?_⟩⟩
  · have hl := lt_of hl
    have c1 := Cm.cntS_nn (a.take i)
    have c2 := Cm.cntS_take a ht i
    obtain ⟨b1, b2, b3⟩ := hb.2 i hl
    have c3 := Cm.totS_get hl
    have hta := Cm.take_succ_getD Cm.g0 hl
    have hg : a.getD i Cm.g0 = Cm.mkG (a.getD i Cm.g0) (k + Cm.cntS (a.take i)) := by
      have := Cm.mkGs_get (k := k) hl
      rw [← ha] at this; exact this
    generalize a.getD i Cm.g0 = g at b1 b2 b3 c3 hta hg ⊢
    generalize hc : Cm.cntS (a.take i) = c at c1 c2 hg ⊢
    have c4 := Cm.cnt_nn g.2.1
    unfold Cm.totGs at ht
    unfold Cm.totG Cm.totM at c3
    have e1 : g.1 = Cm.mkEs (k + c) g.1.length := congrArg Prod.fst hg
    have e2 : g.2.1 = Cm.markM g.2.1 (k + c + 3 * (g.1.length : Int)) := congrArg (fun x => x.2.1) hg
    have e3 : g.2.2 = Cm.mkSs (k + c + 3 * (g.1.length : Int) + Cm.cnt g.2.1) g.2.2.length := congrArg (fun x => x.2.2) hg
    have eh : Cm.heldM g.2.1 (k + c + 3 * (g.1.length : Int)) = k + c + 3 * (g.1.length : Int) + Cm.cnt g.2.1 := by unfold Cm.heldM; rw [if_pos e2]
    rw [eh]
    refine ⟨by omega, ⟨⟨b1, e1⟩, by omega, by omega⟩, fun x => absurd (dneg x) (by omega), fun _ => ⟨by omega, ⟨b2, by omega, by omega⟩, fun x => absurd (dneg x) (by omega), fun _ => ⟨by omega, ⟨⟨b3, e3⟩, by omega, by omega⟩, fun x => absurd (dneg x) (by omega), fun _ => ⟨i + 1, by omega, ?_, (wsucc (by omega)).symm⟩⟩⟩⟩
    rw [hta, Cm.cntS_append, Cm.cntS_one, hc]; unfold Cm.cntG; omega
  · have hl := ge_of hl
    rw [List.take_of_length_le hl]))
theorem ok_laws_markHost : FOk E_laws_markHost Try.f44 sMarkH := FOk.of2 fun (a : Cm.Ho) (k : Int) hn => FGA.fg ((vc_laws_markHost a k).mpr (by
  obtain ⟨⟨⟨h1, h2⟩, ht⟩, hk⟩ := (show (Cm.bdH a ∧ Cm.totH a ≤ 1048576) ∧ 0 ≤ k ∧ k ≤ 1048576 from hn)
  have c := Cm.cnt_nn a.1
  have d := Cm.totS_nn a.2.1
  unfold Cm.totH Cm.totM Cm.totGs at ht
  refine ⟨⟨h1, by omega, by omega⟩, ⟨⟨h2, by unfold Cm.totGs; omega⟩, by omega, by omega⟩, by unfold Cm.cntH; omega, rfl, rfl, trivial⟩))
theorem ok_laws_heldHost : FOk E_laws_heldHost Try.f45 sHeldH := FOk.of2 fun (a : Cm.Ho) (k : Int) hn => FGA.fg ((vc_laws_heldHost a k).mpr (by
  obtain ⟨⟨⟨⟨h1, h2⟩, ht⟩, ha⟩, hk⟩ := (show ((Cm.bdH a ∧ Cm.totH a ≤ 1048576) ∧ a = Cm.mkH a k) ∧ 0 ≤ k ∧ k ≤ 1048576 from hn)
  have c := Cm.cnt_nn a.1
  have d := Cm.totS_nn a.2.1
  have f := Cm.cntS_nn a.2.1
  unfold Cm.totH Cm.totM Cm.totGs at ht
  have e1 : a.1 = Cm.markM a.1 k := congrArg Prod.fst ha
  have e2 : a.2.1 = Cm.mkGs a.2.1 (k + Cm.cnt a.1) := congrArg (fun x => x.2.1) ha
  have eh : Cm.heldM a.1 k = k + Cm.cnt a.1 := by unfold Cm.heldM; rw [if_pos e1]
  rw [eh]
  simp only [ifb_iff, and_true]
  refine ⟨⟨h1, by omega, by omega⟩, fun x => absurd (dneg x) (by omega), fun _ => ⟨⟨⟨⟨h2, by unfold Cm.totGs; omega⟩, e2⟩, by omega, by omega⟩, fun x => absurd (dneg x) (by omega), fun _ => by unfold Cm.cntH; omega⟩⟩))
theorem use_step {m : Cm.E} {f : Int} (l : List Cm.E) (c : (m.1 && m.2.1 == f) = true) : Cm.useM f (m :: l) = 1 + Cm.useM f l := by
  rw [Bool.and_eq_true, beq_iff_eq] at c; rw [Cm.useM, if_pos c]
theorem use_skip {m : Cm.E} {f : Int} (l : List Cm.E) (c : (m.1 && m.2.1 == f) = false) : Cm.useM f (m :: l) = Cm.useM f l := by
  rw [Cm.useM, if_neg]
  · omega
  · intro h; rw [h.1, h.2] at c; simp at c
theorem ok_impl_Host_many : FOk E_impl_Host_many Try.f115 sUsers := FOk.of2 fun (h : Cm.Ho) (f : Int) hn => FGA.fg ((vc_impl_Host_many h f).mpr (by
  obtain ⟨_, hb1, hb2⟩ := (show Cm.bdH h from hn)
  simp only [ifb_iff, imp_self, true_and, and_true, implies_true]
  refine ⟨⟨(0, 0), ⟨by omega, by omega, by simp⟩, rfl, rfl⟩, ?_⟩
  rintro ⟨i, n⟩ ⟨g1, g2, g3⟩
  dsimp only at g1 g2 g3 ⊢
  refine ⟨fun hl => ?_, fun hl => ?_⟩
  · have hl := lt_of hl
    have hbi := (hb2 i hl).1
    rw [Cm.drop_getD Cm.g0 hl, Cm.useG] at g3
    generalize h.2.1.getD i Cm.g0 = g at g3 hbi ⊢
    refine ⟨by omega, ⟨(0, n), ⟨by omega, by dsimp only; omega, by rw [g3]; simp; omega⟩, rfl, rfl⟩, ?_⟩
    rintro ⟨j, q⟩ ⟨r1, r2, r3⟩
    dsimp only at r1 r2 r3 ⊢
    refine ⟨fun hj => ?_, fun hj => ?_⟩
    · have hj := lt_of hj
      rw [Cm.drop_getD Cm.e0 hj] at r3
      generalize g.1.getD j Cm.e0 = m at r3 ⊢
      have hw : IntKind.wrap .i64 (q + 1) = q + 1 := Cm.wrap_id (by omega) (by omega)
      refine ⟨by omega, fun c => ?_, fun c => ?_⟩
      · rw [use_step _ c] at r3
        exact ⟨(j + 1, q + 1), ⟨⟨by omega, by dsimp only; omega, by dsimp only; omega⟩, by dsimp only; omega⟩, hw.symm, (wsucc (by omega)).symm⟩
      · rw [use_skip _ c] at r3
        exact ⟨(j + 1, q), ⟨⟨by omega, by dsimp only; omega, by dsimp only; omega⟩, by dsimp only; omega⟩, rfl, (wsucc (by omega)).symm⟩
    · have hj := ge_of hj
      rw [List.drop_of_length_le hj, Cm.useM] at r3
      exact ⟨(i + 1, q), ⟨⟨by omega, by dsimp only; omega, by dsimp only; omega⟩, by dsimp only; omega⟩, rfl, (wsucc (by omega)).symm⟩
  · have hl := ge_of hl
    rw [List.drop_of_length_le hl, Cm.useG] at g3
    unfold Cm.users; omega))
theorem ok_spec_l12Users : FOk E_spec_l12Users Try.f76 sUsers := FOk.of2 fun (h : Cm.Ho) (f : Int) hn => FGA.fg ((vc_spec_l12Users h f).mpr (by
  obtain ⟨_, hb1, hb2⟩ := (show Cm.bdH h from hn)
  simp only [ifb_iff, imp_self, true_and, and_true, implies_true]
  refine ⟨⟨(0, 0), ⟨by omega, by omega, by simp [Cm.users]⟩, rfl, rfl⟩, ?_⟩
  rintro ⟨i, n⟩ ⟨g1, g2, g3⟩
  dsimp only at g1 g2 g3 ⊢
  refine ⟨fun hl => ?_, fun hl => ?_⟩
  · have hl := lt_of hl
    have hbi := (hb2 i hl).1
    rw [Cm.drop_getD Cm.g0 hl, Cm.useG] at g3
    generalize h.2.1.getD i Cm.g0 = g at g3 hbi ⊢
    refine ⟨⟨(0, n), ⟨⟨by omega, by omega⟩, by dsimp only; omega, by rw [g3]; simp; omega⟩, rfl, rfl⟩, ?_⟩
    rintro ⟨j, q⟩ ⟨⟨r0, r1⟩, r2, r3⟩
    dsimp only at r1 r2 r3 ⊢
    refine ⟨by omega, fun hj => ?_, fun hj => ?_⟩
    · have hj := lt_of hj
      rw [Cm.drop_getD Cm.e0 hj] at r3
      generalize g.1.getD j Cm.e0 = m at r3 ⊢
      have hw : IntKind.wrap .i64 (q + 1) = q + 1 := Cm.wrap_id (by omega) (by omega)
      refine ⟨by omega, by omega, fun _ => by omega, fun _ => by omega, fun c => ?_, fun c => ?_⟩
      · rw [use_step _ c] at r3
        exact ⟨(j + 1, q + 1), ⟨⟨⟨by omega, by omega⟩, by dsimp only; omega, by dsimp only; omega⟩, by dsimp only; omega⟩, hw.symm, (wsucc (by omega)).symm⟩
      · rw [use_skip _ c] at r3
        exact ⟨(j + 1, q), ⟨⟨⟨by omega, by omega⟩, by dsimp only; omega, by dsimp only; omega⟩, by dsimp only; omega⟩, rfl, (wsucc (by omega)).symm⟩
    · have hj := ge_of hj
      rw [List.drop_of_length_le hj, Cm.useM] at r3
      exact ⟨(i + 1, q), ⟨⟨by omega, by dsimp only; omega, by dsimp only; omega⟩, by dsimp only; omega⟩, rfl, (wsucc (by omega)).symm⟩
  · have hl := ge_of hl
    rw [List.drop_of_length_le hl, Cm.useG] at g3
    omega))
theorem ok_impl_zeros_1 : FOk E_impl_zeros_1 Try.f178 sNZ := FOk.of1 fun (w : Int) _ => FGA.fg ((vc_impl_zeros_1 w).mpr (by simp only [and_true]))
theorem ok_slices_IndexFunc_int_int : FOk E_slices_IndexFunc_int_int Try.f187 (sIndex 178) := FOk.of1 fun (a : Cm.Pg) hn => FGA.fg ((vc_slices_IndexFunc_int_int a).mpr (by
  have hn : a.length ≤ 1048576 := hn
  simp only [ifb_iff, imp_self, true_and, and_true, implies_true]
  refine ⟨⟨0, ⟨by omega, rfl⟩, rfl⟩, fun i ⟨h1, h2⟩ => ⟨fun hl => ?_, fun hl => ?_⟩⟩
  · have hl := lt_of hl
    rw [Cm.drop_getD (0 : Int) hl, Cm.idxNZ] at h2
    refine ⟨by omega, fun c => ?_, fun c => ⟨i + 1, ⟨⟨by omega, ?_⟩, by omega⟩, (wsucc (by omega)).symm⟩⟩
    · rw [h2, if_neg (by simpa using c)]
    · rw [h2, if_pos (by simpa using c)]; rfl
  · have hl := ge_of hl
    rw [h2, List.drop_of_length_le hl]; rfl))
theorem idx_blank : ∀ (a : Cm.Pg) (i : Int), 0 ≤ i → decide (Cm.idxNZ a i ≥ 0) = !Cm.blank a
  | [], i, _ => rfl
  | w :: a, i, h => by
    rw [Cm.idxNZ, Cm.blank]
    by_cases c : w = 0
    · rw [if_pos c, idx_blank a (i + 1) (by omega), c]; rfl
    · rw [if_neg c, decide_eq_true h, beq_eq_false_iff_ne.mpr c]; rfl
theorem ok_slices_ContainsFunc_int_int : FOk E_slices_ContainsFunc_int_int Try.f177 (sContains 178) := FOk.of1 fun (a : Cm.Pg) hn => FGA.fg ((vc_slices_ContainsFunc_int_int a).mpr ⟨hn, idx_blank a 0 (by omega), trivial⟩)
theorem ok_impl_zeros : FOk E_impl_zeros Try.f157 sBlank := FOk.of1 fun (a : Cm.Pg) hn => FGA.fg ((vc_impl_zeros a).mpr ⟨hn, by simp, trivial⟩)
theorem ok_spec_l12Blank : FOk E_spec_l12Blank Try.f135 sBlank := FOk.of1 fun (a : Cm.Pg) hn => FGA.fg ((vc_spec_l12Blank a).mpr (by
  have hn : a.length ≤ 1048576 := hn
  simp only [ifb_iff, imp_self, true_and, and_true, implies_true]
  refine ⟨⟨0, ⟨by omega, rfl⟩, rfl⟩, fun i ⟨h1, h2⟩ => ⟨fun hl => ?_, fun hl => ?_⟩⟩
  · have hl := lt_of hl
    rw [Cm.drop_getD (0 : Int) hl, Cm.blank] at h2
    refine ⟨by omega, fun c => ?_, fun c => ⟨i + 1, ⟨⟨by omega, ?_⟩, by omega⟩, (wsucc (by omega)).symm⟩⟩
    · rw [h2, beq_eq_false_iff_ne.mpr (by simpa using c)]; rfl
    · rw [h2, beq_iff_eq.mpr (by simpa using c)]; rfl
  · have hl := ge_of hl
    rw [h2, List.drop_of_length_le hl]; rfl))
theorem ok_spec_l12MapOk : FOk E_spec_l12MapOk Try.f80 sMapOk := FOk.of3 fun (h : Cm.Ho) (m : Cm.E) (d : Cm.Pg) hn => FGA.fg ((vc_spec_l12MapOk h m d).mpr (by
  obtain ⟨hb, hd, hu⟩ := (show Cm.bdH h ∧ d.length ≤ 1048576 ∧ (m.1 = true → 1 ≤ Cm.users h m.2.1) from hn)
  obtain ⟨a, f, w⟩ := m
  simp only [ifb_iff, Cm.mapOk]
  cases a
  · simp [Cm.eqE, Cm.e0]
    cases w <;> by_cases e : f = 0 <;> simp [e]
  · have hu : 1 ≤ Cm.users h f := hu rfl
    have e : (Cm.users h f == 1) = decide (Cm.users h f ≤ 1) := by
      by_cases c : Cm.users h f = 1
      · rw [c]; rfl
      · rw [beq_eq_false_iff_ne.mpr c, decide_eq_false (by omega)]
    simp only [e]
    rcases bb (Cm.within f 0 7) with e1 | e1 <;> rcases bb (Cm.blank d) with e2 | e2 <;> cases w <;> simp [e1, e2, hd, hb]))
theorem ok_spec_l12ShadeOk : FOk E_spec_l12ShadeOk Try.f81 sShOk := FOk.of2 fun (g : Cm.Gt) (s : Cm.Sh) hn => FGA.fg ((vc_spec_l12ShadeOk g s).mpr (by
  have hn : g.1.length = 6 := hn
  obtain ⟨a, p, f, w⟩ := s
  simp only [ifb_iff, Cm.shOk]
  cases a
  · simp [Cm.eqS, Cm.s0]
    cases w <;> by_cases e : p = 0 <;> by_cases e' : f = 0 <;> simp [e, e']
  · rcases bb (Cm.within p 2 5) with e1 | e1
    · simp [e1]
    · have h1 := within_f e1
      simp only [e1, hn]
      generalize List.getD g.1 p.toNat Cm.e0 = m
      obtain ⟨x, y, z⟩ := m
      by_cases e2 : y = f <;> cases x <;> cases z <;> cases w <;> simp [e2] <;> omega))
end Go.Proofs.Ytknhdlmgceklgaa.T
open Go Go.Am Go.Proofs
open Go.Cm (R rdOk)
namespace Go.Proofs.Ytknhdlmgceklgaa.T
set_option maxRecDepth 10000
theorem ne_dec (n k : Nat) : (((n : Int) != (k : Int)) : Bool) = !decide (n = k) := by
  by_cases c : n = k
  · rw [c]; simp
  · rw [decide_eq_false c]; simp; omega
theorem ne6 (n : Nat) : (((n : Int) != 6) : Bool) = !decide (n = 6) := ne_dec n 6
theorem ne8 (n : Nat) : (((n : Int) != 8) : Bool) = !decide (n = 8) := ne_dec n 8
theorem szOk_get {g : Cm.Gt} (h : Cm.szOk g = true) : g.1.length = 6 ∧ g.2.2.length = 6 ∧ Cm.okG g.2.1 = true := by
  unfold Cm.szOk at h; simp at h; exact ⟨h.1.1, h.1.2, h.2⟩
theorem mapF (u : Int → Int) (f : Int) (w : Bool) (d : Cm.Pg) : Cm.mapOk u (false, f, w) d = (false == false && (f == 0 && w == false)) := by
  rw [Cm.mapOk, if_pos rfl]; unfold Cm.eqE Cm.e0
  by_cases e : f = 0 <;> cases w <;> simp [e]
theorem mapT (u : Int → Int) (f : Int) (w : Bool) (d : Cm.Pg) : Cm.mapOk u (true, f, w) d = !(!Cm.within f 0 7 || !Cm.blank d || w && decide (u f > 1)) := by
  rw [Cm.mapOk, if_neg (by simp)]; dsimp only
  have e : decide (u f ≤ 1) = !decide (u f > 1) := by by_cases c : u f > 1 <;> simp [c] <;> omega
  rw [e]
  cases Cm.within f 0 7 <;> cases Cm.blank d <;> cases w <;> cases decide (u f > 1) <;> rfl
theorem shF (ms : List Cm.E) (p f : Int) (w : Bool) : Cm.shOk ms (false, p, f, w) = (false == false && (p == 0 && (f == 0 && w == false))) := by
  rw [Cm.shOk, if_pos rfl]; unfold Cm.eqS Cm.s0
  by_cases e : p = 0 <;> by_cases e' : f = 0 <;> cases w <;> simp [e, e']
theorem shT (ms : List Cm.E) (p f : Int) (w : Bool) (h : Cm.within p 2 5 = true) {x : Bool} {y : Int} {z : Bool} (e : ms.getD p.toNat Cm.e0 = (x, y, z)) : Cm.shOk ms (true, p, f, w) = !(!x || y != f || w && !z) := by
  rw [Cm.shOk, if_neg (by simp)]; dsimp only; rw [h, e]
  by_cases c : y = f <;> cases x <;> cases w <;> cases z <;> simp [c]
theorem ok_impl_Host_guestOk : FOk E_impl_Host_guestOk Try.f112 sGOk := FOk.of2 fun (h : Cm.Ho) (g : Cm.Gt) hn => FGA.fg (an := an_gOk h g) ((vc_impl_Host_guestOk h g).mpr (by
  obtain ⟨hb, b1, b2, b3⟩ := (show Cm.bdH h ∧ Cm.bdG g from hn)
  simp only [ifb_iff, imp_self, true_and, and_true, implies_true, ne6]
  refine ⟨fun _ => b2, fun x => by rw [x]; rfl, fun x => by rw [x]; rfl, fun x => ?_, fun x => ?_⟩
  · unfold Cm.gOk Cm.szOk
    cases e1 : decide (g.1.length = 6) <;> cases e2 : Cm.okG g.2.1 <;> cases e3 : decide (g.2.2.length = 6) <;> simp_all
  · have hs : Cm.szOk g = true := by
      unfold Cm.szOk
      cases e1 : decide (g.1.length = 6) <;> cases e2 : Cm.okG g.2.1 <;> cases e3 : decide (g.2.2.length = 6) <;> simp_all
    obtain ⟨l1, l2, l3⟩ := szOk_get hs
    have l4 := Cm.okG_len l3
    refine ⟨⟨0, ⟨⟨by omega, hs⟩, rfl⟩, rfl⟩, fun i ⟨⟨r1, _⟩, r3⟩ => ⟨fun hl => ?_, fun hl => ?_⟩⟩
    · have hl := lt_of hl
      rw [Cm.drop_getD Cm.e0 hl, Cm.drop_getD (l := g.2.1) [] (by omega), Cm.mapsOk] at r3
      have bd := b2.2 i (by omega)
      generalize hd : g.2.1.getD i [] = d at r3 bd ⊢
      have hfail : ∀ m, Cm.mapsOk (Cm.users h) g.1 g.2.1 = (Cm.mapOk (Cm.users h) m d && Cm.mapsOk (Cm.users h) (g.1.drop (i + 1)) (g.2.1.drop (i + 1))) → Cm.mapOk (Cm.users h) m d = false → false = Cm.gOk (Cm.users h) g := fun m r e => by
        rw [e] at r; unfold Cm.gOk; rw [r]; simp
      have hgo : ∀ m, Cm.mapsOk (Cm.users h) g.1 g.2.1 = (Cm.mapOk (Cm.users h) m d && Cm.mapsOk (Cm.users h) (g.1.drop (i + 1)) (g.2.1.drop (i + 1))) → Cm.mapOk (Cm.users h) m d = true →
          ∃ a', (((a' ≤ g.1.length ∧ Cm.szOk g = true) ∧ Cm.mapsOk (Cm.users h) g.1 g.2.1 = Cm.mapsOk (Cm.users h) (List.drop a' g.1) (List.drop a' g.2.1)) ∧ g.1.length - a' < g.1.length - i) ∧ (a' : Int) = IntKind.wrap .i64 ((i : Int) + 1) := fun m r e => by
        rw [e] at r
        exact ⟨i + 1, ⟨⟨⟨by omega, hs⟩, r⟩, by omega⟩, (wsucc (by omega)).symm⟩
      generalize g.1.getD i Cm.e0 = m at r3 ⊢
      obtain ⟨a, f, w⟩ := m
      dsimp only
      cases a
      · refine ⟨by omega, fun _ => ⟨fun c => hfail _ r3 ?_, fun c => hgo _ r3 ?_⟩, fun c => by cases c⟩
        · rw [mapF]; exact bnt c
        · rw [mapF]; exact bnf c
      · refine ⟨by omega, fun c => (by cases c), fun _ => ⟨fun _ => by omega, fun _ => bd, fun x => by rw [x]; rfl, fun _ => hb, fun x y => by rw [x, y]; rfl, fun x => by rw [x]; rfl, fun c => hfail _ r3 ?_, fun c => hgo _ r3 ?_⟩⟩
        · rw [mapT, c]; rfl
        · rw [mapT, c]; rfl
    · have hl := ge_of hl
      rw [List.drop_of_length_le hl] at r3
      have hm : Cm.mapsOk (Cm.users h) g.1 g.2.1 = true := by rw [r3]; unfold Cm.mapsOk; rfl
      refine ⟨⟨0, ⟨⟨by omega, hs, hm⟩, rfl⟩, rfl⟩, fun j ⟨⟨q1, _⟩, q3⟩ => ⟨fun hj => ?_, fun hj => ?_⟩⟩
      · have hj := lt_of hj
        rw [Cm.drop_getD Cm.s0 hj, Cm.shsOk] at q3
        have hfail : ∀ s, Cm.shsOk g.1 g.2.2 = (Cm.shOk g.1 s && Cm.shsOk g.1 (g.2.2.drop (j + 1))) → Cm.shOk g.1 s = false → false = Cm.gOk (Cm.users h) g := fun s r e => by
          rw [e] at r; unfold Cm.gOk; rw [r]; simp
        have hgo : ∀ s, Cm.shsOk g.1 g.2.2 = (Cm.shOk g.1 s && Cm.shsOk g.1 (g.2.2.drop (j + 1))) → Cm.shOk g.1 s = true →
            ∃ a', (((a' ≤ g.2.2.length ∧ Cm.szOk g = true ∧ Cm.mapsOk (Cm.users h) g.1 g.2.1 = true) ∧ Cm.shsOk g.1 g.2.2 = Cm.shsOk g.1 (List.drop a' g.2.2)) ∧ g.2.2.length - a' < g.2.2.length - j) ∧ (a' : Int) = IntKind.wrap .i64 ((j : Int) + 1) := fun s r e => by
          rw [e] at r
          exact ⟨j + 1, ⟨⟨⟨by omega, hs, hm⟩, r⟩, by omega⟩, (wsucc (by omega)).symm⟩
        generalize g.2.2.getD j Cm.s0 = s at q3 ⊢
        obtain ⟨a, p, f, w⟩ := s
        dsimp only
        cases a
        · refine ⟨by omega, fun _ => ⟨fun c => hfail _ q3 ?_, fun c => hgo _ q3 ?_⟩, fun c => by cases c⟩
          · rw [shF]; exact bnt c
          · rw [shF]; exact bnf c
        · refine ⟨by omega, fun c => (by cases c), fun _ => ⟨fun c => hfail _ q3 ?_, fun c => ?_⟩⟩
          · rw [Cm.shOk, if_neg (by simp)]; dsimp only; rw [bnt c]; rfl
          · have hw := within_f (bnf c)
            have hsh := fun x y z => shT g.1 p f w (bnf c) (x := x) (y := y) (z := z)
            generalize g.1.getD p.toNat Cm.e0 = m at hsh ⊢
            obtain ⟨x, y, z⟩ := m
            have hsh := hsh x y z rfl
            dsimp only
            refine ⟨⟨by omega, by omega⟩, fun x => by rw [x]; rfl, fun x y => by rw [x, y]; rfl, fun x => by rw [x]; rfl, fun c => hfail _ q3 ?_, fun c => hgo _ q3 ?_⟩
            · rw [hsh, c]; rfl
            · rw [hsh, c]; rfl
      · have hj := ge_of hj
        rw [List.drop_of_length_le hj] at q3
        have q3 : Cm.shsOk g.1 g.2.2 = true := q3
        unfold Cm.gOk; rw [hs, hm, q3]; rfl))
theorem ok_impl_HostOk : FOk E_impl_HostOk Try.f52 sHOk := FOk.of1 fun (h : Cm.Ho) hn => FGA.fg ((vc_impl_HostOk h).mpr (by
  have hb : Cm.bdH h := hn
  obtain ⟨b1, b2, b3⟩ := id hb
  simp only [ifb_iff, imp_self, true_and, and_true, implies_true, ne8]
  refine ⟨fun _ => b1, fun x => by rw [x]; rfl, fun x => by rw [x]; rfl, fun x => by rw [x]; rfl, fun x => ?_, fun x => ?_⟩
  · unfold Cm.hOk Cm.preOk
    rcases bb (decide (h.1.length = 8)) with e1 | e1 <;> rcases bb (Cm.okM h.1) with e2 | e2 <;> rcases bb (Cm.within (h.2.1.length : Int) 1 2) with e3 | e3 <;> rcases bb (Cm.within h.2.2 0 7) with e4 | e4 <;> simp_all
  · have hp : Cm.preOk h = true := by
      unfold Cm.preOk
      rcases bb (decide (h.1.length = 8)) with e1 | e1 <;> rcases bb (Cm.okM h.1) with e2 | e2 <;> rcases bb (Cm.within (h.2.1.length : Int) 1 2) with e3 | e3 <;> rcases bb (Cm.within h.2.2 0 7) with e4 | e4 <;> simp_all
    refine ⟨⟨0, ⟨by omega, rfl⟩, rfl⟩, fun i ⟨r1, r2⟩ => ⟨fun hl => ?_, fun hl => ?_⟩⟩
    · have hl := lt_of hl
      rw [Cm.drop_getD Cm.g0 hl, Cm.gsOk] at r2
      refine ⟨by omega, ⟨hb, b3 i hl⟩, fun c => ?_, fun c => ⟨i + 1, ⟨⟨by omega, ?_⟩, by omega⟩, (wsucc (by omega)).symm⟩⟩
      · unfold Cm.hOk; rw [r2, bnt c]; simp
      · rw [r2, bnf c]; rfl
    · have hl := ge_of hl
      rw [List.drop_of_length_le hl] at r2
      unfold Cm.hOk; rw [hp, r2]; rfl))
theorem gsOk_szs {u : Int → Int} : ∀ {l : List Cm.Gt}, Cm.gsOk u l = true → Cm.szsOk l = true
  | [], _ => rfl
  | g :: l, h => by
    rw [Cm.gsOk, Bool.and_eq_true] at h
    have h1 := h.1
    unfold Cm.gOk at h1; rw [Bool.and_eq_true] at h1
    rw [Cm.szsOk, h1.1, gsOk_szs h.2]; rfl
theorem szsOk_get : ∀ {l : List Cm.Gt}, Cm.szsOk l = true → ∀ i, i < l.length → Cm.szOk (l.getD i Cm.g0) = true
  | [], _, i, hi => by simp at hi
  | g :: l, h, i, hi => by
    rw [Cm.szsOk, Bool.and_eq_true] at h
    cases i with
    | zero => exact h.1
    | succ i => exact szsOk_get h.2 i (by simpa using hi)
theorem users_pos {h : Cm.Ho} {i j : Nat} (hi : i < h.2.1.length) (hj : j < (h.2.1.getD i Cm.g0).1.length) (e : ((h.2.1.getD i Cm.g0).1.getD j Cm.e0).1 = true) : 1 ≤ Cm.users h ((h.2.1.getD i Cm.g0).1.getD j Cm.e0).2.1 :=
  Cm.useG_pos hi (Cm.useM_pos hj e rfl)
theorem ok_spec_HostOk : FOk E_spec_HostOk Try.f31 sHOk := FOk.of1 fun (h : Cm.Ho) hn => FGA.fg (an := an_hOkS h) ((vc_spec_HostOk h).mpr (by
  have hb : Cm.bdH h := hn
  obtain ⟨b1, b2, b3⟩ := id hb
  simp only [ifb_iff, imp_self, true_and, and_true, implies_true, ne8, ne6]
  refine ⟨b1, fun x => by rw [x]; rfl, fun x => by rw [x]; rfl, fun x => by rw [x]; rfl, fun x => ?_, fun x => ?_⟩
  · unfold Cm.hOk Cm.preOk
    rcases bb (decide (h.1.length = 8)) with e1 | e1 <;> rcases bb (Cm.okM h.1) with e2 | e2 <;> rcases bb (Cm.within (h.2.1.length : Int) 1 2) with e3 | e3 <;> rcases bb (Cm.within h.2.2 0 7) with e4 | e4 <;> simp_all
  · have hp : Cm.preOk h = true := by
      unfold Cm.preOk
      rcases bb (decide (h.1.length = 8)) with e1 | e1 <;> rcases bb (Cm.okM h.1) with e2 | e2 <;> rcases bb (Cm.within (h.2.1.length : Int) 1 2) with e3 | e3 <;> rcases bb (Cm.within h.2.2 0 7) with e4 | e4 <;> simp_all
    refine ⟨⟨0, ⟨by omega, rfl⟩, rfl⟩, fun i ⟨r1, r2⟩ => ⟨fun hl => ?_, fun hl => ?_⟩⟩
    · have hl := lt_of hl
      have bi := b3 i hl
      rw [Cm.drop_getD Cm.g0 hl, Cm.szsOk] at r2
      generalize h.2.1.getD i Cm.g0 = g at r2 bi ⊢
      refine ⟨by omega, fun x => by rw [x]; rfl, fun _ => bi.2.1, fun x => by rw [x]; rfl, fun c => ?_, fun c => ⟨i + 1, ⟨⟨by omega, ?_⟩, by omega⟩, (wsucc (by omega)).symm⟩⟩
      · have e : Cm.szOk g = false := by
          unfold Cm.szOk
          cases e1 : decide (g.1.length = 6) <;> cases e2 : Cm.okG g.2.1 <;> cases e3 : decide (g.2.2.length = 6) <;> simp_all
        rw [e] at r2
        unfold Cm.hOk
        cases e' : Cm.gsOk (Cm.users h) h.2.1
        · simp
        · have := gsOk_szs e'; rw [r2] at this; cases this
      · have e : Cm.szOk g = true := by
          unfold Cm.szOk
          cases e1 : decide (g.1.length = 6) <;> cases e2 : Cm.okG g.2.1 <;> cases e3 : decide (g.2.2.length = 6) <;> simp_all
        rw [r2, e]; rfl
    · have hl := ge_of hl
      rw [List.drop_of_length_le hl] at r2
      have hz : Cm.szsOk h.2.1 = true := r2
      refine ⟨⟨0, ⟨⟨by omega, hz⟩, rfl⟩, rfl⟩, fun i ⟨⟨q1, _⟩, q2⟩ => ⟨fun hi => ?_, fun hi => ?_⟩⟩
      · have hi := lt_of hi
        obtain ⟨l1, l2, l3⟩ := szOk_get (szsOk_get hz i hi)
        have l4 := Cm.okG_len l3
        have bi := b3 i hi
        rw [Cm.drop_getD Cm.g0 hi, Cm.gsOk, Cm.gOk, szsOk_get hz i hi, Bool.true_and] at q2
        have up := fun j => users_pos (h := h) (j := j) hi
        generalize h.2.1.getD i Cm.g0 = g at q2 bi l1 l2 l3 l4 up ⊢
        refine ⟨by omega, ⟨0, ⟨⟨by omega, hi, hz⟩, by simpa using q2⟩, rfl⟩, fun j ⟨⟨s1, _⟩, s2⟩ => ⟨fun hj => ?_, fun hj => ?_⟩⟩
        · have hj : (j : Int) < 6 := of_decide_eq_true hj
          have bj := bi.2.1.2 j (by omega)
          have upj := up j (by omega)
          rw [Cm.drop_getD Cm.e0 (show j < g.1.length by omega), Cm.drop_getD (l := g.2.1) [] (by omega), Cm.drop_getD Cm.s0 (show j < g.2.2.length by omega), Cm.mapsOk, Cm.shsOk] at s2
          refine ⟨by omega, by omega, ⟨hb, bj, upj⟩, fun _ => by omega, fun _ => l1, fun x => by rw [x]; rfl, fun c => ?_, fun c => ⟨j + 1, ⟨⟨⟨by omega, hi, hz⟩, ?_⟩, by omega⟩, (wsucc (by omega)).symm⟩⟩
          · unfold Cm.hOk; rw [s2]
            rcases bb (Cm.mapOk (Cm.users h) (g.1.getD j Cm.e0) (g.2.1.getD j [])) with e1 | e1
            · rw [e1]; simp
            · rw [e1] at c
              have c : Cm.shOk g.1 (g.2.2.getD j Cm.s0) = false := by simpa using c
              rw [c]; simp
          · rw [Bool.or_eq_false_iff] at c
            rw [s2, bnf c.1, bnf c.2]; simp
        · have hj : ¬ (j : Int) < 6 := of_decide_eq_false hj
          rw [List.drop_of_length_le (l := g.1) (by omega), List.drop_of_length_le (l := g.2.2) (by omega)] at s2
          refine ⟨i + 1, ⟨⟨⟨by omega, hz⟩, ?_⟩, by omega⟩, (wsucc (by omega)).symm⟩
          rw [s2]; unfold Cm.mapsOk Cm.shsOk; rfl
      · have hi := ge_of hi
        rw [List.drop_of_length_le hi] at q2
        unfold Cm.hOk; rw [hp, q2]; rfl))
end Go.Proofs.Ytknhdlmgceklgaa.T
open Go Go.Am Go.Proofs
open Go.Cm (R rdOk)
namespace Go.Proofs.Ytknhdlmgceklgaa.T
set_option maxRecDepth 10000
theorem gsOk_get {u : Int → Int} : ∀ {l : List Cm.Gt}, Cm.gsOk u l = true → ∀ i, i < l.length → Cm.gOk u (l.getD i Cm.g0) = true
  | [], _, i, hi => by simp at hi
  | g :: l, h, i, hi => by
    rw [Cm.gsOk, Bool.and_eq_true] at h
    cases i with
    | zero => exact h.1
    | succ i => exact gsOk_get h.2 i (by simpa using hi)
theorem mapsOk_get {u : Int → Int} : ∀ {l : List Cm.E} {d : Cm.Mm}, Cm.mapsOk u l d = true → ∀ i, i < l.length → Cm.mapOk u (l.getD i Cm.e0) (d.getD i []) = true
  | [], _, _, i, hi => by simp at hi
  | m :: l, [], h, i, hi => by
    rw [Cm.mapsOk, Bool.and_eq_true] at h
    cases i with
    | zero => exact h.1
    | succ i => have := mapsOk_get h.2 i (by simpa using hi); simpa using this
  | m :: l, d :: k, h, i, hi => by
    rw [Cm.mapsOk, Bool.and_eq_true] at h
    cases i with
    | zero => exact h.1
    | succ i => exact mapsOk_get h.2 i (by simpa using hi)
theorem mapOk_in {u : Int → Int} {m : Cm.E} {d : Cm.Pg} (h : Cm.mapOk u m d = true) (e : m.1 = true) : 0 ≤ m.2.1 ∧ m.2.1 ≤ 7 := by
  rw [Cm.mapOk, if_neg (by rw [e]; simp), Bool.and_eq_true, Bool.and_eq_true] at h
  exact within_f h.1.1
theorem hOk_get {h : Cm.Ho} (e : Cm.hOk h = true) : (h.1.length = 8 ∧ Cm.okM h.1 = true ∧ 1 ≤ h.2.1.length ∧ h.2.1.length ≤ 2) ∧ ∀ i, i < h.2.1.length → Cm.gOk (Cm.users h) (h.2.1.getD i Cm.g0) = true := by
  unfold Cm.hOk Cm.preOk at e
  simp only [Bool.and_eq_true, decide_eq_true_eq] at e
  have := within_f e.1.1.2
  exact ⟨⟨e.1.1.1.2, e.1.1.1.1, by omega, by omega⟩, gsOk_get e.2⟩
theorem gOk_get {u : Int → Int} {g : Cm.Gt} (e : Cm.gOk u g = true) : (g.1.length = 6 ∧ g.2.2.length = 6 ∧ Cm.okG g.2.1 = true) ∧ Cm.mapsOk u g.1 g.2.1 = true ∧ Cm.shsOk g.1 g.2.2 = true := by
  unfold Cm.gOk at e
  simp only [Bool.and_eq_true] at e
  exact ⟨szOk_get e.1, e.2⟩
theorem frame_get {h : Cm.Ho} (e : Cm.hOk h = true) {i j : Nat} (hi : i < h.2.1.length) (hj : j < 6) (c : ((h.2.1.getD i Cm.g0).1.getD j Cm.e0).1 = true) :
    (0 ≤ ((h.2.1.getD i Cm.g0).1.getD j Cm.e0).2.1 ∧ ((h.2.1.getD i Cm.g0).1.getD j Cm.e0).2.1 < (h.1.length : Int)) ∧ (h.1.getD ((h.2.1.getD i Cm.g0).1.getD j Cm.e0).2.1.toNat []).length = 4 := by
  obtain ⟨⟨h1, h2, h3, h4⟩, h5⟩ := hOk_get e
  obtain ⟨⟨g1, g2, g3⟩, g4, g5⟩ := gOk_get (h5 i hi)
  have := mapOk_in (mapsOk_get g4 j (by omega)) c
  exact ⟨by omega, Cm.okP_len (Cm.okM_get h2 _ (by omega))⟩
theorem shsOk_get {ms : List Cm.E} : ∀ {l : List Cm.Sh}, Cm.shsOk ms l = true → ∀ i, i < l.length → Cm.shOk ms (l.getD i Cm.s0) = true
  | [], _, i, hi => by simp at hi
  | s :: l, h, i, hi => by
    rw [Cm.shsOk, Bool.and_eq_true] at h
    cases i with
    | zero => exact h.1
    | succ i => exact shsOk_get h.2 i (by simpa using hi)
theorem hOk_shH {h : Cm.Ho} (e : Cm.hOk h = true) : Cm.shH h := by
  have e' := e
  unfold Cm.hOk at e'
  rw [Bool.and_eq_true] at e'
  refine ⟨e'.1, fun i hi => ?_⟩
  have hg := gsOk_get e'.2 i hi
  obtain ⟨⟨g1, g2, g3⟩, g4, g5⟩ := gOk_get hg
  unfold Cm.gOk at hg
  rw [Bool.and_eq_true] at hg
  refine ⟨hg.1, fun j hj c => mapOk_in (mapsOk_get g4 j (by omega)) c, fun j hj c => ?_⟩
  have hs := shsOk_get g5 j (by omega)
  generalize (h.2.1.getD i Cm.g0).2.2.getD j Cm.s0 = s at hs c ⊢
  rw [Cm.shOk, if_neg (by rw [c]; simp)] at hs
  simp only [Bool.and_eq_true, decide_eq_true_eq] at hs
  have hw := within_f hs.1
  have := mapOk_in (mapsOk_get g4 s.2.1.toNat (by omega)) hs.2.1.1
  rw [hs.2.1.2] at this; exact this
theorem shH_get {h : Cm.Ho} (e : Cm.shH h) : (h.1.length = 8 ∧ Cm.okM h.1 = true) ∧ (1 ≤ h.2.1.length ∧ h.2.1.length ≤ 2) ∧ 0 ≤ h.2.2 ∧ h.2.2 ≤ 7 := by
  have e := e.1
  unfold Cm.preOk at e
  simp only [Bool.and_eq_true, decide_eq_true_eq] at e
  have := within_f e.1.2
  exact ⟨⟨e.1.1.2, e.1.1.1⟩, by omega, within_f e.2⟩
theorem shH_row {h : Cm.Ho} (e : Cm.shH h) {i : Nat} (hi : i < 8) : Cm.okP (h.1.getD i []) = true := by
  obtain ⟨⟨h1, h2⟩, _⟩ := shH_get e
  exact Cm.okM_get h2 i (by omega)
theorem frame_s {h : Cm.Ho} (e : Cm.shH h) {i j : Nat} (hi : i < h.2.1.length) (hj : j < 6) (c : ((h.2.1.getD i Cm.g0).1.getD j Cm.e0).1 = true) :
    (0 ≤ ((h.2.1.getD i Cm.g0).1.getD j Cm.e0).2.1 ∧ ((h.2.1.getD i Cm.g0).1.getD j Cm.e0).2.1 < (h.1.length : Int)) ∧ (h.1.getD ((h.2.1.getD i Cm.g0).1.getD j Cm.e0).2.1.toNat []).length = 4 := by
  have := (e.2 i hi).2.1 j hj c
  have h1 := (shH_get e).1.1
  exact ⟨by omega, Cm.okP_len (shH_row e (by omega))⟩
theorem ok_spec_l12Page : FOk E_spec_l12Page Try.f143 sPageS := FOk.of3 fun (h : Cm.Ho) (g p : Int) hn => FGA.fg ((vc_spec_l12Page h g p).mpr (by
  obtain ⟨hs, hg, hp⟩ := (show inS h g p from hn)
  have hgn : g.toNat < h.2.1.length := by omega
  obtain ⟨g1, g2, g3⟩ := szOk_get (hs.2 _ hgn).1
  have g4 := Cm.okG_len g3
  have g6 := Cm.okG_row g3 (i := p.toNat) (by omega)
  have g5 := frame_s hs hgn (j := p.toNat) (by omega)
  simp only [ifb_iff, imp_self, true_and, and_true, implies_true, Cm.gAt]
  generalize h.2.1.getD g.toNat Cm.g0 = x at g1 g2 g3 g4 g5 g6 ⊢
  refine ⟨hg, by omega, fun c => ?_, fun c => ⟨hg, by omega, by rw [g6]; decide, by unfold Cm.pageG; rw [if_neg (by rw [c]; simp)]⟩⟩
  obtain ⟨f1, f2⟩ := g5 c
  exact ⟨f1, by rw [f2]; decide, by unfold Cm.pageG; rw [if_pos c]⟩))
theorem see_len (h : Cm.Ho) (g : Int) : (Cm.see h g).length = 6 := rfl
theorem see_take (h : Cm.Ho) (g : Int) {i : Nat} (hi : i < 6) : (Cm.see h g).take (i + 1) = (Cm.see h g).take i ++ [Cm.pageG h.1 (h.2.1.getD g.toNat Cm.g0) i] := by
  have : i = 0 ∨ i = 1 ∨ i = 2 ∨ i = 3 ∨ i = 4 ∨ i = 5 := by omega
  rcases this with rfl | rfl | rfl | rfl | rfl | rfl <;> rfl
theorem ok_spec_l12See : FOk E_spec_l12See Try.f111 sSeeS := FOk.of2 fun (h : Cm.Ho) (g : Int) hn => FGA.fg ((vc_spec_l12See h g).mpr (by
  obtain ⟨hs, hg⟩ := (show Cm.shH h ∧ inG h g from hn)
  simp only [ifb_iff, imp_self, true_and, and_true, implies_true]
  refine ⟨⟨0, by omega, rfl, rfl⟩, fun i h1 => ⟨fun hl => ?_, fun hl => ?_⟩⟩
  · have hl : (i : Int) < 6 := of_decide_eq_true hl
    refine ⟨⟨hs, hg, by omega, by omega⟩, ?_, i + 1, by omega, (wsucc (by omega)).symm, see_take h g (by omega)⟩
    show ((List.take i (Cm.see h g)).length + 1) * 24 ≤ _; rw [List.length_take]; omega
  · have hl : ¬ (i : Int) < 6 := of_decide_eq_false hl
    exact List.take_of_length_le (by rw [see_len]; omega)))
theorem ok_impl_Host_see : FOk E_impl_Host_see Try.f108 sSeeH := FOk.of2 fun (h : Cm.Ho) (g : Int) hn => FGA.fg ((vc_impl_Host_see h g).mpr (by
  obtain ⟨⟨hb, ho⟩, hg⟩ := (show (Cm.bdH h ∧ Cm.hOk h = true) ∧ 0 ≤ g ∧ g < (h.2.1.length : Int) from hn)
  have hgn : g.toNat < h.2.1.length := by omega
  obtain ⟨_, h5⟩ := hOk_get ho
  obtain ⟨⟨g1, g2, g3⟩, _⟩ := gOk_get (h5 _ hgn)
  have g4 := Cm.okG_len g3
  have g6 := fun i => Cm.okG_row g3 (i := i)
  have g5 := fun j => frame_get ho hgn (j := j)
  have hst := fun i => see_take h g (i := i)
  simp only [ifb_iff, imp_self, true_and, and_true, implies_true]
  generalize h.2.1.getD g.toNat Cm.g0 = x at g1 g2 g3 g4 g5 g6 hst ⊢
  refine ⟨hg, ⟨0, by omega, rfl, rfl⟩, fun i h1 => ⟨fun hl => ?_, fun hl => ?_⟩⟩
  · have hl := lt_of hl
    have hlen : ((List.take i (Cm.see h g)).length + 1) * 24 ≤ 140737488355328 := by rw [List.length_take]; omega
    refine ⟨by omega, by omega, fun c => ?_, fun c => ?_⟩
    · obtain ⟨f1, f2⟩ := g5 i (by omega) c
      refine ⟨f1, by rw [f2]; decide, hlen, i + 1, by omega, (wsucc (by omega)).symm, ?_⟩
      rw [hst i (by omega)]; unfold Cm.pageG; rw [if_pos c]; rfl
    · refine ⟨by rw [g6 i (by omega)]; decide, hlen, i + 1, by omega, (wsucc (by omega)).symm, ?_⟩
      rw [hst i (by omega)]; unfold Cm.pageG; rw [if_neg (by rw [c]; simp)]; rfl
  · have hl := ge_of hl
    exact List.take_of_length_le (by rw [see_len]; omega)))
end Go.Proofs.Ytknhdlmgceklgaa.T
open Go Go.Am Go.Proofs
open Go.Cm (R rdOk)
namespace Go.Proofs.Ytknhdlmgceklgaa.T
set_option maxRecDepth 10000
theorem mkH_eta (h : Cm.Ho) (k : Int) : ((Cm.mkH h k).1, (Cm.mkH h k).2.1, h.2.2) = Cm.mkH h k := rfl
theorem wfH_of {y : Cm.Ho} (h : Wf kH y) : Cm.wfH y :=
  ⟨⟨h.1.1, fun i hi => (h.1.2 i hi).1⟩, h.2.1.1, fun i hi => ⟨(h.2.1.2 i hi).1.1, ⟨(h.2.1.2 i hi).2.1.1, fun j hj => ((h.2.1.2 i hi).2.1.2 j hj).1⟩, (h.2.1.2 i hi).2.2.1⟩⟩
theorem kn_laws_szMapS : Known Try.prog 171 (sSz kE) := known_of tabOk (kn0) mixed Try.func171 (by kernel_rfl) ok_laws_szMapS
theorem kn_laws_szShadeS : Known Try.prog 172 (sSz kS) := known_of tabOk (kn0) mixed Try.func172 (by kernel_rfl) ok_laws_szShadeS
theorem kn_laws_szGuest : Known Try.prog 142 sSzG := known_of tabOk (AllK.cons (AllK.cons (AllK.cons kn0 kn_laws_szShadeS) kn_laws_szMapS) kn_laws_szIntSS) mixed Try.func142 (by kernel_rfl) ok_laws_szGuest
theorem kn_laws_szGuestS : Known Try.prog 95 sSzGs := known_of tabOk (AllK.cons kn0 kn_laws_szGuest) mixed Try.func95 (by kernel_rfl) ok_laws_szGuestS
theorem kn_laws_szHost : Known Try.prog 39 sSzH := known_of tabOk (AllK.cons (AllK.cons kn0 kn_laws_szGuestS) kn_laws_szIntSS) mixed Try.func39 (by kernel_rfl) ok_laws_szHost
theorem kn_laws_toMap : Known Try.prog 183 (sId kE) := known_of tabOk (kn0) mixed Try.func183 (by kernel_rfl) ok_laws_toMap
theorem kn_laws_toShade : Known Try.prog 184 (sId kS) := known_of tabOk (kn0) mixed Try.func184 (by kernel_rfl) ok_laws_toShade
theorem kn_laws_toMapS : Known Try.prog 173 (sToL kE) := known_of tabOk (AllK.cons kn0 kn_laws_toMap) mixed Try.func173 (by kernel_rfl) ok_laws_toMapS
theorem kn_laws_toShadeS : Known Try.prog 174 (sToL kS) := known_of tabOk (AllK.cons kn0 kn_laws_toShade) mixed Try.func174 (by kernel_rfl) ok_laws_toShadeS
theorem kn_laws_toGuest : Known Try.prog 146 sToG := known_of tabOk (AllK.cons (AllK.cons (AllK.cons kn0 kn_laws_toShadeS) kn_laws_toMapS) kn_laws_toIntSS) mixed Try.func146 (by kernel_rfl) ok_laws_toGuest
theorem kn_laws_toGuestS : Known Try.prog 99 sToGs := known_of tabOk (AllK.cons kn0 kn_laws_toGuest) mixed Try.func99 (by kernel_rfl) ok_laws_toGuestS
theorem kn_laws_toHost : Known Try.prog 41 sToH := known_of tabOk (AllK.cons (AllK.cons kn0 kn_laws_toGuestS) kn_laws_toIntSS) mixed Try.func41 (by kernel_rfl) ok_laws_toHost
theorem kn_laws_eqMap : Known Try.prog 185 sEqE := known_of tabOk (kn0) mixed Try.func185 (by kernel_rfl) ok_laws_eqMap
theorem kn_laws_eqShade : Known Try.prog 186 sEqS := known_of tabOk (kn0) mixed Try.func186 (by kernel_rfl) ok_laws_eqShade
theorem kn_laws_eqMapS : Known Try.prog 175 sEqEs := known_of tabOk (AllK.cons kn0 kn_laws_eqMap) mixed Try.func175 (by kernel_rfl) ok_laws_eqMapS
theorem kn_laws_eqShadeS : Known Try.prog 176 sEqSs := known_of tabOk (AllK.cons kn0 kn_laws_eqShade) mixed Try.func176 (by kernel_rfl) ok_laws_eqShadeS
theorem kn_laws_eqGuest : Known Try.prog 148 sEqG := known_of tabOk (AllK.cons (AllK.cons (AllK.cons kn0 kn_laws_eqShadeS) kn_laws_eqMapS) kn_laws_eqIntSS) mixed Try.func148 (by kernel_rfl) ok_laws_eqGuest
theorem kn_laws_eqGuestS : Known Try.prog 102 sEqGs := known_of tabOk (AllK.cons kn0 kn_laws_eqGuest) mixed Try.func102 (by kernel_rfl) ok_laws_eqGuestS
theorem kn_laws_eqHost : Known Try.prog 43 sEqH := known_of tabOk (AllK.cons (AllK.cons kn0 kn_laws_eqGuestS) kn_laws_eqIntSS) mixed Try.func43 (by kernel_rfl) ok_laws_eqHost
theorem kn_laws_markMapS : Known Try.prog 150 sMarkEs := known_of tabOk (kn0) mixed Try.func150 (by kernel_rfl) ok_laws_markMapS
theorem kn_laws_markShadeS : Known Try.prog 151 sMarkSs := known_of tabOk (kn0) mixed Try.func151 (by kernel_rfl) ok_laws_markShadeS
theorem kn_laws_markGuestS : Known Try.prog 104 sMarkGs := known_of tabOk (AllK.cons (AllK.cons (AllK.cons kn0 kn_laws_markShadeS) kn_laws_markMapS) kn_laws_markIntSS) mixed Try.func104 (by kernel_rfl) ok_laws_markGuestS
theorem kn_laws_markHost : Known Try.prog 44 sMarkH := known_of tabOk (AllK.cons (AllK.cons kn0 kn_laws_markGuestS) kn_laws_markIntSS) mixed Try.func44 (by kernel_rfl) ok_laws_markHost
theorem kn_laws_heldMapS : Known Try.prog 153 sHeldEs := known_of tabOk (kn0) mixed Try.func153 (by kernel_rfl) ok_laws_heldMapS
theorem kn_laws_heldShadeS : Known Try.prog 154 sHeldSs := known_of tabOk (kn0) mixed Try.func154 (by kernel_rfl) ok_laws_heldShadeS
theorem kn_laws_heldGuestS : Known Try.prog 106 sHeldGs := known_of tabOk (AllK.cons (AllK.cons (AllK.cons kn0 kn_laws_heldShadeS) kn_laws_heldMapS) kn_laws_heldIntSS) mixed Try.func106 (by kernel_rfl) ok_laws_heldGuestS
theorem kn_laws_heldHost : Known Try.prog 45 sHeldH := known_of tabOk (AllK.cons (AllK.cons kn0 kn_laws_heldGuestS) kn_laws_heldIntSS) mixed Try.func45 (by kernel_rfl) ok_laws_heldHost
theorem kn_impl_Host_many : Known Try.prog 115 sUsers := known_of tabOk (kn0) mixed Try.func115 (by kernel_rfl) ok_impl_Host_many
theorem kn_spec_l12Users : Known Try.prog 76 sUsers := known_of tabOk (kn0) mixed Try.func76 (by kernel_rfl) ok_spec_l12Users
theorem kn_impl_zeros_1 : Known Try.prog 178 sNZ := known_of tabOk (kn0) mixed Try.func178 (by kernel_rfl) ok_impl_zeros_1
theorem kn_slices_IndexFunc_int_int : Known Try.prog 187 (sIndex 178) := known_of tabOk (AllK.cons kn0 kn_impl_zeros_1) mixed Try.func187 (by kernel_rfl) ok_slices_IndexFunc_int_int
theorem kn_slices_ContainsFunc_int_int : Known Try.prog 177 (sContains 178) := known_of tabOk (AllK.cons kn0 kn_slices_IndexFunc_int_int) mixed Try.func177 (by kernel_rfl) ok_slices_ContainsFunc_int_int
theorem kn_impl_zeros : Known Try.prog 157 sBlank := known_of tabOk (AllK.cons (AllK.cons kn0 kn_impl_zeros_1) kn_slices_ContainsFunc_int_int) mixed Try.func157 (by kernel_rfl) ok_impl_zeros
theorem kn_spec_l12Blank : Known Try.prog 135 sBlank := known_of tabOk (kn0) mixed Try.func135 (by kernel_rfl) ok_spec_l12Blank
theorem kn_spec_l12MapOk : Known Try.prog 80 sMapOk := known_of tabOk (AllK.cons (AllK.cons (AllK.cons kn0 kn_spec_l12Blank) kn_107) kn_spec_l12Users) mixed Try.func80 (by kernel_rfl) ok_spec_l12MapOk
theorem kn_spec_l12ShadeOk : Known Try.prog 81 sShOk := known_of tabOk (AllK.cons kn0 kn_107) mixed Try.func81 (by kernel_rfl) ok_spec_l12ShadeOk
theorem kn_impl_Host_guestOk : Known Try.prog 112 sGOk := known_of tabOk (AllK.cons (AllK.cons (AllK.cons (AllK.cons kn0 kn_impl_zeros) kn_impl_guestMem) kn_impl_Host_many) kn_98) mixed Try.func112 (by kernel_rfl) ok_impl_Host_guestOk
theorem kn_impl_HostOk : Known Try.prog 52 sHOk := known_of tabOk (AllK.cons (AllK.cons (AllK.cons kn0 kn_impl_Host_guestOk) kn_98) kn_impl_MemOk) mixed Try.func52 (by kernel_rfl) ok_impl_HostOk
theorem kn_spec_HostOk : Known Try.prog 31 sHOk := known_of tabOk (AllK.cons (AllK.cons (AllK.cons (AllK.cons (AllK.cons kn0 kn_spec_l12ShadeOk) kn_spec_l12MapOk) kn_spec_l11Guest) kn_107) kn_spec_MemOk) mixed Try.func31 (by kernel_rfl) ok_spec_HostOk
theorem kn_spec_l12Page : Known Try.prog 143 sPageS := known_of tabOk (kn0) mixed Try.func143 (by kernel_rfl) ok_spec_l12Page
theorem kn_spec_l12See : Known Try.prog 111 sSeeS := known_of tabOk (AllK.cons kn0 kn_spec_l12Page) mixed Try.func111 (by kernel_rfl) ok_spec_l12See
theorem kn_impl_Host_see : Known Try.prog 108 sSeeH := known_of tabOk (kn0) mixed Try.func108 (by kernel_rfl) ok_impl_Host_see
end Go.Proofs.Ytknhdlmgceklgaa.T
open Go Go.Am Go.Proofs
open Go.Cm (R rdOk)
namespace Go.Proofs.Ytknhdlmgceklgaa.T
set_option maxRecDepth 10000
theorem szOk_mk {a : List Cm.E} {d : Cm.Mm} {s : List Cm.Sh} (h1 : a.length = 6) (h2 : Cm.okG d = true) (h3 : s.length = 6) : Cm.szOk (a, d, s) = true := by
  unfold Cm.szOk; simp [h1, h2, h3]
/-- The parts of a guest's shape. -/
theorem shG_mk {a : List Cm.E} {d : Cm.Mm} {s : List Cm.Sh} (h1 : a.length = 6) (h2 : Cm.okG d = true) (h3 : s.length = 6)
    (h4 : ∀ i, i < 6 → (a.getD i Cm.e0).1 = true → 0 ≤ (a.getD i Cm.e0).2.1 ∧ (a.getD i Cm.e0).2.1 ≤ 7) (h5 : ∀ i, i < 6 → (s.getD i Cm.s0).1 = true → 0 ≤ (s.getD i Cm.s0).2.2.1 ∧ (s.getD i Cm.s0).2.2.1 ≤ 7) : Cm.shG (a, d, s) := ⟨szOk_mk h1 h2 h3, h4, h5⟩
theorem page_ok {h : Cm.Ho} (hs : Cm.shH h) {g p : Nat} (hg : g < h.2.1.length) (hp : p < 6) : Cm.okP (Cm.pageG h.1 (Cm.gAt h g) p) = true := by
  obtain ⟨h1, h2, h3⟩ := hs.2 g hg
  obtain ⟨l1, l2, l3⟩ := szOk_get h1
  unfold Cm.pageG
  split
  · rename_i c
    have := h2 p hp c
    exact shH_row hs (by show (List.getD (Cm.gAt h g).1 p Cm.e0).2.1.toNat < 8; unfold Cm.gAt; omega)
  · exact Cm.okG_okP l3 hp
end Go.Proofs.Ytknhdlmgceklgaa.T
open Go Go.Am Go.Proofs
open Go.Cm (R rdOk)
namespace Go.Proofs.Ytknhdlmgceklgaa.T
set_option maxRecDepth 10000
end Go.Proofs.Ytknhdlmgceklgaa.T
open Go Go.Am Go.Proofs
open Go.Cm (R rdOk)
namespace Go.Proofs.Ytknhdlmgceklgaa.T
set_option maxRecDepth 10000
theorem ok_spec_l12New : FOk E_spec_l12New Try.f155 sHNew0 := FOk.of0 fun _ => FGA.fg (vc_spec_l12New.mpr (by
  simp only [ifb_iff, imp_self, true_and, and_true, implies_true]
  refine ⟨⟨fun _ => ⟨by decide, 1, by decide, rfl, rfl, rfl, rfl, rfl⟩, fun c => by simp at c⟩, fun i h1 => ⟨fun hi => ?_, fun hi => ?_⟩⟩
  · have hi : (i : Int) < 8 := of_decide_eq_true hi
    exact ⟨by rw [List.length_replicate]; omega, i + 1, by omega, (wsucc (by omega)).symm, List.replicate_succ'⟩
  · have hi : ¬ (i : Int) < 8 := of_decide_eq_false hi
    rw [show i = 8 by omega]; rfl))
theorem ok_spec_l12Guest : FOk E_spec_l12Guest Try.f156 sGuestN := FOk.of1 fun (m : Cm.Mm) hn => FGA.fg ((vc_spec_l12Guest m).mpr (by
  simp only [true_and, and_true]
  exact ⟨⟨by decide, by decide⟩, hn, ⟨by decide, by decide⟩, rfl⟩))
theorem see_okG {h : Cm.Ho} (hs : Cm.shH h) {g : Int} (hg : 0 ≤ g ∧ g < (h.2.1.length : Int)) : Cm.okG (Cm.see h g) = true := by
  have hgn : g.toNat < h.2.1.length := by omega
  have k := fun p hp => page_ok hs hgn (p := p) hp
  unfold Cm.gAt at k
  unfold Cm.okG Cm.see Cm.seeG Cm.okM Cm.okM Cm.okM Cm.okM Cm.okM Cm.okM Cm.okM
  rw [k 0 (by omega), k 1 (by omega), k 2 (by omega), k 3 (by omega), k 4 (by omega), k 5 (by omega)]
  rfl
theorem okG_bd {m : Cm.Mm} (h : Cm.okG m = true) : Cm.bd m := ⟨by rw [Cm.okG_len h]; omega, fun i hi => by
  rw [Cm.okG_len h] at hi
  have := Cm.okG_row h hi; omega⟩
theorem carryG_append (fr : Cm.Mm) (a b : List Cm.Gt) : Cm.carryG fr (a ++ b) = Cm.carryG fr a ++ Cm.carryG fr b := List.map_append ..
theorem ok_spec_l21Carry : FOk E_spec_l21Carry Try.f107 sCarryS := FOk.of1 fun (h : Cm.Ho) hn => FGA.fg ((vc_spec_l21Carry h).mpr (by
  have hs : Cm.shH h := hn
  have hl := (shH_get hs).2.1
  simp only [ifb_iff, imp_self, true_and, and_true, implies_true]
  refine ⟨⟨0, by omega, rfl, ⟨rfl, rfl⟩, rfl, rfl, rfl⟩, fun i h1 => ⟨fun hi => ?_, fun hi => ?_⟩⟩
  · have hi := lt_of hi
    refine ⟨⟨hs, by omega, by omega⟩, okG_bd (see_okG hs (by omega)), ?_, i + 1, by omega, (wsucc (by omega)).symm, ?_⟩
    · unfold Cm.carryG; rw [List.length_map, List.length_take]; omega
    · rw [Cm.take_succ_getD Cm.g0 hi, carryG_append]; rfl
  · have hi := ge_of hi
    rw [List.take_of_length_le hi]; rfl))
end Go.Proofs.Ytknhdlmgceklgaa.T
open Go Go.Am Go.Proofs
open Go.Cm (R rdOk)
namespace Go.Proofs.Ytknhdlmgceklgaa.T
set_option maxRecDepth 10000
set_option maxHeartbeats 0
end Go.Proofs.Ytknhdlmgceklgaa.T
open Go Go.Am Go.Proofs
open Go.Cm (R rdOk)
namespace Go.Proofs.Ytknhdlmgceklgaa.T
set_option maxRecDepth 10000
end Go.Proofs.Ytknhdlmgceklgaa.T
open Go Go.Am Go.Proofs
open Go.Cm (R rdOk)
namespace Go.Proofs.Ytknhdlmgceklgaa.T
set_option maxRecDepth 10000
theorem rep_getD {α : Type} (n i : Nat) (d : α) : (List.replicate n d).getD i d = d := by
  rw [List.getD_eq_getElem?_getD, List.getElem?_replicate]; split <;> rfl
abbrev keeps (h x : Cm.Ho) : Prop := Cm.shH x ∧ x.2.1.length = h.2.1.length
theorem carryG_get (fr : Cm.Mm) (l : List Cm.Gt) {i : Nat} (hi : i < l.length) : (Cm.carryG fr l).getD i Cm.g0 = Cm.newG (Cm.seeG fr (l.getD i Cm.g0)) := by
  unfold Cm.carryG; simp [List.getD_eq_getElem?_getD, hi]
theorem shG_new {m : Cm.Mm} (hm : Cm.okG m = true) : Cm.shG (Cm.newG m) := shG_mk rfl hm rfl
  (fun i hi c => by
    have e : (List.replicate 6 Cm.e0).getD i Cm.e0 = Cm.e0 := rep_getD _ _ _
    rw [e] at c; cases c)
  (fun i hi c => by
    have e : (List.replicate 6 Cm.s0).getD i Cm.s0 = Cm.s0 := rep_getD _ _ _
    rw [e] at c; cases c)
theorem sh_mk {fr : Cm.Mm} {l : List Cm.Gt} {k : Int} (h1 : Cm.okM fr = true) (h2 : fr.length = 8) (h3 : 1 ≤ l.length ∧ l.length ≤ 2) (h4 : 0 ≤ k ∧ k ≤ 7) (h5 : ∀ i, i < l.length → Cm.shG (l.getD i Cm.g0)) : Cm.shH (fr, l, k) := by
  refine ⟨?_, h5⟩
  unfold Cm.preOk
  simp only [Bool.and_eq_true, decide_eq_true_eq]
  exact ⟨⟨⟨h1, h2⟩, within_iff.mpr (by omega)⟩, within_iff.mpr h4⟩
theorem newFr_ok : Cm.okM Cm.newFr = true := by decide
theorem sh_carry {h : Cm.Ho} (hs : Cm.shH h) : keeps h (Cm.carry h) := by
  have hl := (shH_get hs).2.1
  have l : (Cm.carryG h.1 h.2.1).length = h.2.1.length := by unfold Cm.carryG; rw [List.length_map]
  refine ⟨sh_mk newFr_ok rfl (by omega) (by omega) fun i hi => ?_, l⟩
  rw [l] at hi
  rw [carryG_get _ _ hi]
  exact shG_new (see_okG hs (g := (i : Int)) (by omega))
end Go.Proofs.Ytknhdlmgceklgaa.T
open Go Go.Am Go.Proofs
open Go.Cm (R rdOk)
namespace Go.Proofs.Ytknhdlmgceklgaa.T
set_option maxRecDepth 10000
end Go.Proofs.Ytknhdlmgceklgaa.T
open Go Go.Am Go.Proofs
open Go.Cm (R rdOk)
namespace Go.Proofs.Ytknhdlmgceklgaa.T
set_option maxRecDepth 10000
end Go.Proofs.Ytknhdlmgceklgaa.T
open Go Go.Am Go.Proofs
open Go.Cm (R rdOk)
namespace Go.Proofs.Ytknhdlmgceklgaa.T
set_option maxRecDepth 10000
end Go.Proofs.Ytknhdlmgceklgaa.T
open Go Go.Am Go.Proofs
open Go.Cm (R rdOk)
namespace Go.Proofs.Ytknhdlmgceklgaa.T
set_option maxRecDepth 10000
end Go.Proofs.Ytknhdlmgceklgaa.T
open Go Go.Am Go.Proofs
open Go.Cm (R rdOk)
namespace Go.Proofs.Ytknhdlmgceklgaa.T
set_option maxRecDepth 10000
set_option maxHeartbeats 0
end Go.Proofs.Ytknhdlmgceklgaa.T
open Go Go.Am Go.Proofs
open Go.Cm (R rdOk)
namespace Go.Proofs.Ytknhdlmgceklgaa.T
set_option maxRecDepth 10000
set_option maxHeartbeats 0
theorem drop_take6 {α : Type} (m : List α) (a : Nat) : List.drop (a * 6) (List.take ((a + 1) * 6) m) = (m.drop (a * 6)).take 6 := by
  rw [List.drop_take]; congr 1; omega
theorem bd_part {m : Cm.Mm} (h : Cm.bd m) (a b : Nat) : Cm.bd ((m.drop a).take b) := by
  refine ⟨by simp; have := h.1; omega, fun i hi => ?_⟩
  simp at hi
  have : ((m.drop a).take b).getD i [] = m.getD (a + i) [] := by
    rw [List.getD_eq_getElem?_getD, List.getElem?_take, if_pos (by omega), List.getElem?_drop, ← List.getD_eq_getElem?_getD]
  rw [this]; exact h.2 _ (by omega)
theorem loadG_len (m : Cm.Mm) : ∀ n : Nat, (Cm.loadG m n).length = n
  | 0 => rfl
  | n + 1 => by rw [Cm.loadG, List.length_append, loadG_len]; rfl
theorem ok_impl_HostLoad : FOk E_impl_HostLoad Try.f65 sHLoad := FOk.of1 fun (m : Cm.Mm) hn => FGA.fg ((vc_impl_HostLoad m).mpr (by
  have hb : Cm.bd m := hn
  have hl := hb.1
  have e2 : IntKind.wrap .i64 (Int.tdiv (m.length : Int) 6) = ((m.length / 6 : Nat) : Int) := by
    rw [Int.tdiv_eq_ediv_of_nonneg (by omega), Cm.wrap_id (by omega) (by omega)]; omega
  have e3 : IntKind.wrap .i64 (((m.length / 6 : Nat) : Int) * 6) = ((m.length / 6 : Nat) : Int) * 6 := Cm.wrap_id (by omega) (by omega)
  simp only [ifb_iff, imp_self, true_and, and_true, implies_true, e2, e3]
  refine ⟨by decide, hb, fun c => by rw [c]; rfl, fun c => by rw [c]; rfl, fun c => ?_, fun c => ?_⟩
  · unfold Cm.hLoad
    rw [if_neg]
    · exact ⟨rfl, rfl⟩
    · rintro ⟨a, b⟩
      rw [a, within_iff.mpr (by omega)] at c
      simp at c; omega
  · rw [Bool.or_eq_false_iff, Bool.or_eq_false_iff] at c
    obtain ⟨⟨c1, c2⟩, c3⟩ := c
    have c1 := bnf c1
    have c2 := within_iff.mp (bnf c2)
    have c3 : (m.length : Int) = ((m.length / 6 : Nat) : Int) * 6 := by simpa using c3
    have hl2 : m.length = 6 ∨ m.length = 12 := by omega
    unfold Cm.hLoad
    rw [if_pos ⟨c1, hl2⟩]
    refine ⟨⟨0, by omega, rfl, rfl, rfl, rfl, rfl, rfl⟩, fun i hi => ⟨fun d => ?_, fun d => ?_⟩⟩
    · have d : (i : Int) < 8 := of_decide_eq_true d
      refine ⟨⟨by decide, by decide⟩, ?_, i + 1, ⟨by omega, by omega⟩, (wsucc (by omega)).symm, ?_⟩
      · rw [List.length_replicate]; omega
      · exact List.replicate_succ'
    · have d : ¬ (i : Int) < 8 := of_decide_eq_false d
      refine ⟨⟨0, by omega, rfl, ?_, rfl⟩, fun k hk => ⟨fun e => ?_, fun e => ?_⟩⟩
      · rw [show i = 8 by omega]; rfl
      · have e := lt_of e
        have w1 : IntKind.wrap .i64 ((k : Int) * 6) = ((k * 6 : Nat) : Int) := by rw [Cm.wrap_id (by omega) (by omega)]; omega
        have w2 : IntKind.wrap .i64 ((k : Int) + 1) = ((k + 1 : Nat) : Int) := wsucc (by omega)
        have w3 : IntKind.wrap .i64 (((k + 1 : Nat) : Int) * 6) = (((k + 1) * 6 : Nat) : Int) := by rw [Cm.wrap_id (by omega) (by omega)]; omega
        rw [w1, w2, w3, Int.toNat_natCast, Int.toNat_natCast, drop_take6, loadG_len]
        refine ⟨⟨by decide, by decide⟩, ⟨by omega, by omega, by omega⟩, bd_part hb _ _, ⟨by decide, by decide⟩, by omega, k + 1, ⟨by omega, by omega⟩, rfl, ?_⟩
        rw [Cm.loadG]; rfl
      · have e := ge_of e
        rw [show k = m.length / 6 by omega]; exact ⟨rfl, rfl⟩))
theorem seesUp_len (h : Cm.Ho) : ∀ n : Nat, (seesUp h n).length = n * 6
  | 0 => rfl
  | n + 1 => by rw [seesUp, List.length_append, seesUp_len, see_len]; omega
theorem seesUp_part (h : Cm.Ho) : ∀ {N n : Nat}, n < N → ((seesUp h N).drop (n * 6)).take 6 = Cm.see h (n : Int)
  | 0, _, hn => by omega
  | N + 1, n, hn => by
    rw [seesUp]
    by_cases e : n = N
    · subst e
      rw [← seesUp_len h n, List.drop_left, List.take_of_length_le (by rw [see_len]; omega)]
    · have hN := seesUp_len h N
      rw [List.drop_append_of_le_length (by omega), List.take_append_of_le_length (by rw [List.length_drop]; omega)]
      exact seesUp_part h (by omega)
theorem loadG_carry (h : Cm.Ho) (N : Nat) (hN : N ≤ h.2.1.length) : ∀ {n : Nat}, n ≤ N → Cm.loadG (seesUp h N) n = Cm.carryG h.1 (h.2.1.take n)
  | 0, _ => rfl
  | n + 1, hn => by
    rw [Cm.loadG, loadG_carry h N hN (n := n) (by omega), seesUp_part h (by omega), Cm.take_succ_getD Cm.g0 (show n < h.2.1.length by omega)]
    unfold Cm.carryG
    rw [List.map_append]; rfl
theorem okM_append : ∀ {a b : Cm.Mm}, Cm.okM a = true → Cm.okM b = true → Cm.okM (a ++ b) = true
  | [], _, _, hb => hb
  | x :: a, b, ha, hb => by
    rw [Cm.okM, Bool.and_eq_true] at ha
    show (Cm.okP x && Cm.okM (a ++ b)) = true
    rw [ha.1, okM_append ha.2 hb]; rfl
theorem okM_bd {m : Cm.Mm} (h : Cm.okM m = true) (hl : m.length ≤ 1048576) : Cm.bd m := ⟨hl, fun i hi => by rw [Cm.okP_len (Cm.okM_get h i hi)]; decide⟩
theorem seesUp_ok {h : Cm.Ho} (hs : Cm.shH h) : ∀ {n : Nat}, n ≤ h.2.1.length → Cm.okM (seesUp h n) = true
  | 0, _ => rfl
  | n + 1, hn => okM_append (seesUp_ok hs (by omega)) (okG_okM (see_okG hs ⟨by omega, by omega⟩))
theorem load_carry {h : Cm.Ho} (hs : Cm.shH h) : Cm.hLoad (seesUp h h.2.1.length) = (Cm.carry h, true) := by
  have hl := (shH_get hs).2.1
  unfold Cm.hLoad
  rw [if_pos ⟨seesUp_ok hs (Nat.le_refl _), by rw [seesUp_len]; omega⟩, seesUp_len, show h.2.1.length * 6 / 6 = h.2.1.length by omega, loadG_carry h _ (Nat.le_refl _) (Nat.le_refl _), List.take_of_length_le (Nat.le_refl _)]
  rfl
theorem ok_impl_HostCarry : FOk E_impl_HostCarry Try.f47 sHCarry := FOk.of1 fun (h : Cm.Ho) hn => FGA.fg ((vc_impl_HostCarry h).mpr (by
  have hb : Cm.bdH h := hn
  simp only [ifb_iff, imp_self, true_and, and_true, implies_true]
  unfold Cm.hCarry
  refine ⟨hb, fun c => by rw [if_neg (by rw [bnt c]; simp)]; rfl, fun q => ?_⟩
  have q := bnf q
  have hs := hOk_shH q
  have hl := (shH_get hs).2.1
  rw [if_pos q]
  refine ⟨⟨0, by omega, rfl, rfl, rfl, rfl, rfl⟩, fun i hi => ⟨fun d => ?_, fun d => ?_⟩⟩
  · have d := lt_of d
    rw [seesUp_len, see_len]
    exact ⟨⟨⟨hb, q⟩, by omega, by omega⟩, by omega, i + 1, ⟨by omega, by omega⟩, (wsucc (by omega)).symm, rfl⟩
  · have d := ge_of d
    rw [show i = h.2.1.length by omega, load_carry hs]
    exact ⟨okM_bd (seesUp_ok hs (Nat.le_refl _)) (by rw [seesUp_len]; omega), rfl⟩))
theorem ok_spec_HostCarry : FOk E_spec_HostCarry Try.f46 sHCarry := FOk.of1 fun (h : Cm.Ho) hn => FGA.fg ((vc_spec_HostCarry h).mpr (by
  have hb : Cm.bdH h := hn
  simp only [ifb_iff, imp_self, true_and, and_true, implies_true]
  unfold Cm.hCarry
  exact ⟨hb, fun c => by rw [if_neg (by rw [bnt c]; simp)]; rfl, fun c => ⟨hOk_shH (bnf c), by rw [if_pos (bnf c)]⟩⟩))
end Go.Proofs.Ytknhdlmgceklgaa.T
open Go Go.Am Go.Proofs
open Go.Cm (R rdOk)
namespace Go.Proofs.Ytknhdlmgceklgaa.T
set_option maxRecDepth 10000
set_option maxHeartbeats 0
end Go.Proofs.Ytknhdlmgceklgaa.T
open Go Go.Am Go.Proofs
open Go.Cm (R rdOk)
namespace Go.Proofs.Ytknhdlmgceklgaa.T
set_option maxRecDepth 10000
set_option maxHeartbeats 0
theorem cnt_ok : ∀ {m : Cm.Mm}, Cm.okM m = true → Cm.cnt m = 4 * (m.length : Int)
  | [], _ => rfl
  | a :: m, h => by
    rw [Cm.okM, Bool.and_eq_true] at h
    have := Cm.okP_len h.1
    rw [Cm.cnt, cnt_ok h.2, List.length_cons]; omega
theorem totG_sh {g : Cm.Gt} (h : Cm.shG g) : Cm.totG g = 42 := by
  obtain ⟨l1, l2, l3⟩ := szOk_get h.1
  have l4 := Cm.okG_len l3
  unfold Cm.totG Cm.totM; rw [cnt_ok (okG_okM l3)]; omega
theorem totS_sh : ∀ {l : List Cm.Gt}, (∀ i, i < l.length → Cm.shG (l.getD i Cm.g0)) → Cm.totS l = 42 * (l.length : Int)
  | [], _ => rfl
  | g :: l, h => by
    have h0 := h 0 (by simp)
    have := totS_sh (l := l) fun i hi => h (i + 1) (by simpa using hi)
    rw [Cm.totS, this, totG_sh (show Cm.shG g from h0), List.length_cons]; omega
theorem sh_tot {h : Cm.Ho} (hs : Cm.shH h) : Cm.totH h ≤ 1048576 := by
  obtain ⟨⟨a, b⟩, c, d⟩ := shH_get hs
  unfold Cm.totH Cm.totM Cm.totGs; rw [cnt_ok b, totS_sh hs.2]; omega
theorem h0_tot : Cm.totH Cm.h0 ≤ 1048576 := by decide
theorem hCarry_sh (h : Cm.Ho) : Cm.hCarry h = Cm.h0 ∨ (Cm.hOk h = true ∧ keeps h (Cm.hCarry h)) := by
  unfold Cm.hCarry; split
  · rename_i c
    exact .inr ⟨c, sh_carry (hOk_shH c)⟩
  · exact .inl rfl
theorem tot_of {x h : Cm.Ho} {P : Prop} (e : x = Cm.h0 ∨ (P ∧ keeps h x)) : Cm.totH x ≤ 1048576 := by
  rcases e with e | e
  · rw [e]; exact h0_tot
  · exact sh_tot e.2.1
theorem ok_laws_FnExactHostCarry : FOk E_laws_FnExactHostCarry Try.f7 sLawH := FOk.of1 fun (h : Cm.Ho) hn => FGA.fg ((vc_laws_FnExactHostCarry h).mpr (by
  have hw : Cm.wfH h := hn
  simp only [ifb_iff, imp_self, true_and, and_true, implies_true, mkH_eta]
  refine ⟨⟨hw, by decide, by decide⟩, fun c => ?_⟩
  have ht : Cm.totH h ≤ 1048576 := by have := szn c; omega
  have hb := Cm.totH_bd ht
  have ht2 := tot_of (hCarry_sh h)
  have hd := Cm.totH_bd ht2
  have ht3 : Cm.totH (Cm.mkH (Cm.hCarry h) 1) ≤ 1048576 := by rw [Cm.totH_mk]; exact ht2
  have hm := Cm.totH_bd ht3
  have c1 := Cm.cntH_nn h
  have c2 := Cm.cntH_nn (Cm.hCarry h)
  have n1 : ¬ 1 + Cm.cntH h < 0 := by omega
  have n2 : ¬ 1 + Cm.cntH (Cm.hCarry h) < 0 := by omega
  simp [hb, hd, hm, ht, ht2, ht3, Cm.eqH_refl, Cm.mkH_mkH, Cm.cntH_mk, n1, n2]))
end Go.Proofs.Ytknhdlmgceklgaa.T
open Go Go.Am Go.Proofs
open Go.Cm (R rdOk)
namespace Go.Proofs.Ytknhdlmgceklgaa.T
set_option maxRecDepth 10000
theorem kn_spec_l12New : Known Try.prog 155 sHNew0 := known_of tabOk (AllK.cons kn0 kn_spec_l2Page) mixed Try.func155 (by kernel_rfl) ok_spec_l12New
theorem kn_spec_l12Guest : Known Try.prog 156 sGuestN := known_of tabOk (AllK.cons kn0 kn_spec_l2Copy) mixed Try.func156 (by kernel_rfl) ok_spec_l12Guest
theorem kn_spec_l21Carry : Known Try.prog 107 sCarryS := known_of tabOk (AllK.cons (AllK.cons (AllK.cons kn0 kn_spec_l12Guest) kn_spec_l12New) kn_spec_l12See) mixed Try.func107 (by kernel_rfl) ok_spec_l21Carry
theorem kn_impl_HostLoad : Known Try.prog 65 sHLoad := known_of tabOk (AllK.cons (AllK.cons (AllK.cons kn0 kn_impl_cloneMem) kn_98) kn_impl_MemOk) mixed Try.func65 (by kernel_rfl) ok_impl_HostLoad
theorem kn_impl_HostCarry : Known Try.prog 47 sHCarry := known_of tabOk (AllK.cons (AllK.cons (AllK.cons kn0 kn_impl_Host_see) kn_impl_HostLoad) kn_impl_HostOk) mixed Try.func47 (by kernel_rfl) ok_impl_HostCarry
theorem kn_spec_HostCarry : Known Try.prog 46 sHCarry := known_of tabOk (AllK.cons (AllK.cons kn0 kn_spec_l21Carry) kn_spec_HostOk) mixed Try.func46 (by kernel_rfl) ok_spec_HostCarry
theorem kn_laws_FnExactHostCarry : Known Try.prog 7 sLawH := known_of tabOk (AllK.cons (AllK.cons (AllK.cons (AllK.cons (AllK.cons (AllK.cons (AllK.cons kn0 kn_impl_HostCarry) kn_spec_HostCarry) kn_laws_heldHost) kn_laws_markHost) kn_laws_eqHost) kn_laws_toHost) kn_laws_szHost) mixed Try.func7 (by kernel_rfl) ok_laws_FnExactHostCarry
end Go.Proofs.Ytknhdlmgceklgaa.T
open Go Go.Am Go.Proofs
open Go.ChangeShapes Go.WideShapes Go.ChangeAt Go.RowKit
namespace Go.Proofs.Ytknhdlmgceklgaa.T
theorem own : ownKnob Try.prog.godebug = none := by kernel_rfl
theorem laidOut : laidOutB Try.prog = true := by kernel_rfl
end Go.Proofs.Ytknhdlmgceklgaa.T
