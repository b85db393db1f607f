/-
  For each function of memory: its contract holds; the conditions stand in the contracts.
-/
import Derived.Test.YtcfmelkegjpciaaP1
set_option linter.all false
open Go Go.Am Go.Proofs
open Go.Cm (R rdOk)
namespace Go.Proofs.Ytcfmelkegjpciaa.T
set_option maxRecDepth 10000
theorem wsucc {i : Nat} (h : i ≤ 16777216) : IntKind.wrap .i64 ((i : Int) + 1) = ((i + 1 : Nat) : Int) := by rw [Cm.wrap_id (by omega) (by omega)]; omega
theorem lt_of {i n : Nat} (h : decide ((i : Int) < (n : Int)) = true) : i < n := by simpa using h
theorem ge_of {i n : Nat} (h : decide ((i : Int) < (n : Int)) = false) : n ≤ i := by simpa using h
theorem bnt {b : Bool} (h : (!b) = true) : b = false := by simpa using h
theorem bnf {b : Bool} (h : (!b) = false) : b = true := by simpa using h
theorem ok_laws_szIntS : FOk E_laws_szIntS Try.f71 (sSz kI) := FOk.of2 fun (l : Cm.Pg) (n : Int) _ => FGA.fg ((vc_laws_szIntS l n).mpr (by
  simp only [ifb_iff]
  refine ⟨fun h => ⟨?_, trivial⟩, fun h => ⟨?_, trivial⟩⟩
  · rw [Cm.szL, if_pos (by simpa using h)]
  · rw [Cm.szL, if_neg (by simpa using h)]))
theorem ok_laws_szIntSS : FOk E_laws_szIntSS Try.f23 sSzM := FOk.of2 fun (m : Cm.Mm) (n : Int) hp => FGA.fg ((vc_laws_szIntSS m n).mpr (by
  obtain ⟨⟨h1, h2⟩, h3⟩ := (show Cm.wfM m ∧ 0 ≤ n ∧ n ≤ 1048576 from hp)
  simp only [ifb_iff, imp_self, true_and, and_true, implies_true]
  have hw : IntKind.wrap .i64 (n - (m.length : Int)) = n - (m.length : Int) := Cm.wrap_id (by omega) (by omega)
  simp only [hw]
  refine ⟨fun h => ?_, fun h => ⟨⟨(0, n - (m.length : Int)), ⟨by omega, by simp at h; omega, ?_⟩, rfl, rfl⟩, fun ⟨i, a⟩ ⟨g1, g2, g3⟩ => ⟨fun hl => ?_, fun hl => ?_⟩⟩⟩
  · rw [Cm.szLL, hw, if_pos (by simpa using h)]
  · rw [Cm.szLL, hw, if_neg (by simpa using h)]; rfl
  · have hl := lt_of hl
    dsimp only at g1 g2 g3 hl ⊢
    have h : ¬ n - (m.length : Int) < 0 := by simpa using h
    rw [Cm.drop_getD [] hl, Cm.szGo] at g3
    refine ⟨by omega, fun c => ?_, fun c => ⟨(i + 1, Cm.szL (m.getD i []) a), ⟨⟨by omega, ?_, ?_⟩, by dsimp only; omega⟩, rfl, (wsucc (by omega)).symm⟩⟩
    · have c : Cm.szL (m.getD i []) a < 0 := by simpa using c
      rw [g3, if_pos c]
    · have c : ¬ Cm.szL (m.getD i []) a < 0 := by simpa using c
      rw [Cm.szL_eq g2 (h2 i hl)] at c ⊢
      split at c
      · omega
      · rw [if_neg (by assumption)]; dsimp only; omega
    · have c : ¬ Cm.szL (m.getD i []) a < 0 := by simpa using c
      rw [g3, if_neg c]
  · have hl := ge_of hl
    dsimp only at hl g3 ⊢
    rw [g3, List.drop_of_length_le hl]; rfl))
theorem ok_laws_toIntS : FOk E_laws_toIntS Try.f77 sToP := FOk.of1 fun (l : Cm.Pg) hn => FGA.fg ((vc_laws_toIntS l).mpr (by
  have hn : l.length ≤ 1048576 := hn
  simp only [ifb_iff, imp_self, true_and, and_true, implies_true]
  refine ⟨⟨by omega, ?_⟩, ⟨0, by omega, rfl, Cm.fill_zero _ _⟩, fun a h1 => ⟨fun hl => ?_, fun hl => Cm.fill_all _ l (ge_of hl)⟩⟩
  · show (l.length : Int) * ((8 : Nat) : Int) ≤ _; omega
  · have hl := lt_of hl
    exact ⟨by omega, ⟨by omega, by rw [Cm.fill_len _ _ h1]; omega⟩, a + 1, by omega, (wsucc (by omega)).symm, (Cm.fill_set _ _ l hl).symm⟩))
theorem ok_laws_toIntSS : FOk E_laws_toIntSS Try.f25 sToM := FOk.of1 fun (m : Cm.Mm) hn => FGA.fg ((vc_laws_toIntSS m).mpr (by
  obtain ⟨hn, hb⟩ := (show Cm.bd m from hn)
  simp only [ifb_iff, imp_self, true_and, and_true, implies_true]
  refine ⟨⟨by omega, ?_⟩, ⟨0, by omega, rfl, Cm.fill_zero _ _⟩, fun a h1 => ⟨fun hl => ?_, fun hl => Cm.fill_all _ m (ge_of hl)⟩⟩
  · show (m.length : Int) * ((24 : Nat) : Int) ≤ _; omega
  · have hl := lt_of hl
    exact ⟨by omega, hb a hl, ⟨by omega, by rw [Cm.fill_len _ _ h1]; omega⟩, a + 1, by omega, (wsucc (by omega)).symm, (Cm.fill_set _ _ m hl).symm⟩))
theorem ok_laws_eqIntS : FOk E_laws_eqIntS Try.f47 sEqP := FOk.of2 fun (a b : Cm.Pg) hn => FGA.fg ((vc_laws_eqIntS a b).mpr (by
  have hn : a.length ≤ 1048576 := hn
  simp only [ifb_iff, imp_self, true_and, and_true, implies_true]
  refine ⟨fun h => (Cm.eqI_len (by simpa [Int.natCast_inj] using h)).symm, fun h => ⟨⟨0, ⟨by omega, rfl⟩, rfl⟩, fun i ⟨g1, g2⟩ => ⟨fun hl => ?_, fun hl => ?_⟩⟩⟩
  · have hl := lt_of hl
    have h : a.length = b.length := by simpa [Int.natCast_inj] using h
    rw [Cm.drop_getD (0 : Int) hl, Cm.drop_getD (0 : Int) (h ▸ hl : i < b.length), Cm.eqI_cons] at g2
    refine ⟨by omega, by omega, fun c => ?_, fun c => ⟨i + 1, ⟨⟨by omega, ?_⟩, by omega⟩, (wsucc (by omega)).symm⟩⟩
    · rw [g2, decide_eq_false (by simpa using c)]; rfl
    · rw [g2, decide_eq_true (by simpa using c)]; rfl
  · have hl := ge_of hl
    have h : a.length = b.length := by simpa [Int.natCast_inj] using h
    rw [g2, List.drop_of_length_le hl, List.drop_of_length_le (by omega)]; rfl))
theorem ok_laws_lkInts : FOk E_laws_lkInts Try.f52 sEqP := FOk.of2 fun (a b : Cm.Pg) hn => FGA.fg ((vc_laws_lkInts a b).mpr (by
  have hn : a.length ≤ 1048576 := hn
  simp only [ifb_iff, imp_self, true_and, and_true, implies_true]
  refine ⟨fun h => (Cm.eqI_len (by simpa [Int.natCast_inj] using h)).symm, fun h => ⟨⟨0, ⟨by omega, rfl⟩, rfl⟩, fun i ⟨g1, g2⟩ => ⟨fun hl => ?_, fun hl => ?_⟩⟩⟩
  · have hl := lt_of hl
    have h : a.length = b.length := by simpa [Int.natCast_inj] using h
    rw [Cm.drop_getD (0 : Int) hl, Cm.drop_getD (0 : Int) (h ▸ hl : i < b.length), Cm.eqI_cons] at g2
    refine ⟨by omega, by omega, fun c => ?_, fun c => ⟨i + 1, ⟨⟨by omega, ?_⟩, by omega⟩, (wsucc (by omega)).symm⟩⟩
    · rw [g2, decide_eq_false (by simpa using c)]; rfl
    · rw [g2, decide_eq_true (by simpa using c)]; rfl
  · have hl := ge_of hl
    have h : a.length = b.length := by simpa [Int.natCast_inj] using h
    rw [g2, List.drop_of_length_le hl, List.drop_of_length_le (by omega)]; rfl))
theorem ok_laws_eqIntSS : FOk E_laws_eqIntSS Try.f28 sEqM := FOk.of2 fun (a b : Cm.Mm) hn => FGA.fg ((vc_laws_eqIntSS a b).mpr (by
  obtain ⟨hn, hb⟩ := (show Cm.bd a from hn)
  simp only [ifb_iff, imp_self, true_and, and_true, implies_true]
  refine ⟨fun h => (Cm.eqM_len (by simpa [Int.natCast_inj] using h)).symm, fun h => ⟨⟨0, ⟨by omega, rfl⟩, rfl⟩, fun i ⟨g1, g2⟩ => ⟨fun hl => ?_, fun hl => ?_⟩⟩⟩
  · have hl := lt_of hl
    have h : a.length = b.length := by simpa [Int.natCast_inj] using h
    rw [Cm.drop_getD [] hl, Cm.drop_getD [] (h ▸ hl : i < b.length), Cm.eqM_cons] at g2
    refine ⟨by omega, by omega, hb i hl, fun c => ?_, fun c => ⟨i + 1, ⟨⟨by omega, ?_⟩, by omega⟩, (wsucc (by omega)).symm⟩⟩
    · rw [g2, bnt c]; rfl
    · rw [g2, bnf c]; rfl
  · have hl := ge_of hl
    have h : a.length = b.length := by simpa [Int.natCast_inj] using h
    rw [g2, List.drop_of_length_le hl, List.drop_of_length_le (by omega)]; rfl))
theorem ok_laws_lkMem : FOk E_laws_lkMem Try.f32 sEqM := FOk.of2 fun (a b : Cm.Mm) hn => FGA.fg ((vc_laws_lkMem a b).mpr (by
  obtain ⟨hn, hb⟩ := (show Cm.bd a from hn)
  simp only [ifb_iff, imp_self, true_and, and_true, implies_true]
  refine ⟨fun h => (Cm.eqM_len (by simpa [Int.natCast_inj] using h)).symm, fun h => ⟨⟨0, ⟨by omega, rfl⟩, rfl⟩, fun i ⟨g1, g2⟩ => ⟨fun hl => ?_, fun hl => ?_⟩⟩⟩
  · have hl := lt_of hl
    have h : a.length = b.length := by simpa [Int.natCast_inj] using h
    rw [Cm.drop_getD [] hl, Cm.drop_getD [] (h ▸ hl : i < b.length), Cm.eqM_cons] at g2
    refine ⟨by omega, by omega, hb i hl, fun c => ?_, fun c => ⟨i + 1, ⟨⟨by omega, ?_⟩, by omega⟩, (wsucc (by omega)).symm⟩⟩
    · rw [g2, bnt c]; rfl
    · rw [g2, bnf c]; rfl
  · have hl := ge_of hl
    have h : a.length = b.length := by simpa [Int.natCast_inj] using h
    rw [g2, List.drop_of_length_le hl, List.drop_of_length_le (by omega)]; rfl))
theorem ok_laws_markIntS : FOk E_laws_markIntS Try.f49 sMarkP := FOk.of2 fun (a : Cm.Pg) (k : Int) hn => FGA.fg ((vc_laws_markIntS a k).mpr (by
  obtain ⟨hn, hk⟩ := (show a.length ≤ 1048576 ∧ 0 ≤ k ∧ k ≤ 1152921504606846976 from hn)
  simp only [ifb_iff, imp_self, true_and, and_true, implies_true, List.length_append, Cm.upFrom_len, List.length_drop]
  refine ⟨⟨0, by omega, ⟨by omega, rfl⟩, rfl⟩, fun i h1 => ⟨fun hl => ?_, fun hl => ?_⟩⟩
  · have hl := lt_of hl
    have hw : IntKind.wrap .i64 (k + (i : Int) + 1) = k + ((i + 1 : Nat) : Int) := by rw [Cm.wrap_id (by omega) (by omega)]; omega
    refine ⟨by omega, i + 1, by omega, ⟨hw.symm, (wsucc (by omega)).symm⟩, ?_⟩
    rw [Cm.drop_getD (0 : Int) (show i < a.length by omega), Cm.set_mid _ _ (Cm.upFrom_len k i), Cm.upFrom_succ, List.append_assoc]; rfl
  · have hl := ge_of hl
    have e : i = a.length := by omega
    subst e; simp))
theorem ok_laws_markIntSS : FOk E_laws_markIntSS Try.f29 sMarkM := FOk.of2 fun (a : Cm.Mm) (k : Int) hn => FGA.fg ((vc_laws_markIntSS a k).mpr (by
  obtain ⟨hn, hk⟩ := (show Cm.bd a ∧ 0 ≤ k ∧ k ≤ 1099511627776 from hn)
  have hla := hn.1
  simp only [ifb_iff, imp_self, true_and, and_true, implies_true, List.length_append, Cm.markM_len, List.length_drop, List.length_take]
  refine ⟨⟨0, by omega, ⟨by simp [Cm.cnt], rfl⟩, rfl⟩, fun i h1 => ⟨fun hl => ?_, fun hl => ?_⟩⟩
  · have hl := lt_of hl
    have hl' : i < a.length := by omega
    have c1 := Cm.cnt_nn (a.take i)
    have c2 := Cm.cnt_take_le hn i
    have hml : (Cm.markM (a.take i) k).length = i := by rw [Cm.markM_len, List.length_take]; omega
    have hg : (Cm.markM (a.take i) k ++ a.drop i).getD i [] = a.getD i [] := by rw [Cm.drop_getD [] hl', Cm.getD_mid _ _ hml]
    have ht := Cm.take_succ_getD [] hl'
    rw [hg]
    refine ⟨by omega, ⟨hn.2 i hl', by omega, by omega⟩, i + 1, by omega, ⟨?_, (wsucc (by omega)).symm⟩, ?_⟩
    · rw [ht, Cm.cnt_append, Cm.cnt_one]; omega
    · rw [ht, Cm.drop_getD [] hl', Cm.set_mid _ _ hml, Cm.markM_append, List.append_assoc]; rfl
  · have hl := ge_of hl
    have e : i = a.length := by omega
    subst e; simp))
theorem ok_laws_heldIntS : FOk E_laws_heldIntS Try.f50 sHeldP := FOk.of2 fun (a : Cm.Pg) (k : Int) hn => FGA.fg ((vc_laws_heldIntS a k).mpr (by
  obtain ⟨hn, hk⟩ := (show a.length ≤ 1048576 ∧ 0 ≤ k ∧ k ≤ 1152921504606846976 from hn)
  simp only [ifb_iff, imp_self, true_and, and_true, implies_true]
  refine ⟨⟨0, ⟨by omega, rfl⟩, by omega, rfl⟩, fun i ⟨h1, h2⟩ => ⟨fun hl => ?_, fun hl => ?_⟩⟩
  · have hl := lt_of hl
    have hw : IntKind.wrap .i64 (k + (i : Int) + 1) = k + ((i + 1 : Nat) : Int) := by rw [Cm.wrap_id (by omega) (by omega)]; omega
    have ht := Cm.take_succ_getD (0 : Int) hl
    refine ⟨by omega, fun c => ?_, fun c => ⟨i + 1, ⟨⟨by omega, ?_⟩, by omega⟩, hw.symm, (wsucc (by omega)).symm⟩⟩
    · have c : a.getD i 0 ≠ k + i := by simpa using c
      unfold Cm.heldI; rw [if_neg]
      intro e; apply c
      have e2 : a.take (i + 1) = Cm.upFrom k (i + 1) := by
        rw [e]
        obtain ⟨r, hr⟩ : ∃ r, a.length = (i + 1) + r := ⟨a.length - (i + 1), by omega⟩
        rw [hr]; exact Cm.upFrom_take k (i + 1) r
      rw [ht, Cm.upFrom_succ, h2] at e2
      simpa using e2
    · have c : a.getD i 0 = k + i := by simpa using c
      rw [ht, Cm.upFrom_succ, h2, c]
  · have hl := ge_of hl
    have e : i = a.length := by omega
    subst e
    rw [List.take_length] at h2
    unfold Cm.heldI; rw [if_pos h2]))
theorem mark_take (m : Cm.Mm) (k : Int) (i : Nat) : (Cm.markM m k).take i = Cm.markM (m.take i) k := by
  induction m generalizing k i with
  | nil => simp [Cm.markM]
  | cons a m ih => cases i with
    | zero => simp [Cm.markM]
    | succ i => simp only [Cm.markM, List.take_succ_cons, ih]
theorem ok_laws_heldIntSS : FOk E_laws_heldIntSS Try.f30 sHeldM := FOk.of2 fun (a : Cm.Mm) (k : Int) hn => FGA.fg ((vc_laws_heldIntSS a k).mpr (by
  obtain ⟨hn, hk⟩ := (show Cm.bd a ∧ 0 ≤ k ∧ k ≤ 1099511627776 from hn)
  have hla := hn.1
  simp only [ifb_iff, imp_self, true_and, and_true, implies_true]
  refine ⟨⟨0, ⟨by omega, rfl⟩, by simp [Cm.cnt], rfl⟩, fun i ⟨h1, h2⟩ => ⟨fun hl => ?_, fun hl => ?_⟩⟩
  · have hl := lt_of hl
    have ht := Cm.take_succ_getD [] hl
    have c1 := Cm.cnt_nn (a.take i)
    have c2 := Cm.cnt_take_le hn i
    refine ⟨by omega, ⟨hn.2 i hl, by omega, by omega⟩, fun c => ?_, fun c => ⟨i + 1, ⟨⟨by omega, ?_⟩, by omega⟩, ?_, (wsucc (by omega)).symm⟩⟩
    all_goals unfold Cm.heldI at c
    · have c : ¬ a.getD i [] = Cm.upFrom (k + Cm.cnt (a.take i)) (a.getD i []).length := by
        intro e; rw [if_pos e] at c; simp at c; omega
      unfold Cm.heldM; rw [if_neg]
      intro e; apply c
      have e2 := mark_take a k (i + 1)
      rw [← e, ht, Cm.markM_append, ← h2] at e2
      simpa [Cm.markM] using e2
    · have c : a.getD i [] = Cm.upFrom (k + Cm.cnt (a.take i)) (a.getD i []).length := by
        apply Decidable.byContradiction; intro e; rw [if_neg e] at c; simp at c
      rw [ht, Cm.markM_append, ← h2, Cm.markM, ← c]; rfl
    · have c : a.getD i [] = Cm.upFrom (k + Cm.cnt (a.take i)) (a.getD i []).length := by
        apply Decidable.byContradiction; intro e; rw [if_neg e] at c; simp at c
      rw [ht, Cm.cnt_append, Cm.cnt_one, Cm.heldI, if_pos c]; omega
  · have hl := ge_of hl
    rw [List.take_of_length_le hl] at h2 ⊢
    unfold Cm.heldM; rw [if_pos h2]))
end Go.Proofs.Ytcfmelkegjpciaa.T

open Go Go.Am Go.Proofs
open Go.Cm (R rdOk)
namespace Go.Proofs.Ytcfmelkegjpciaa.T
set_option maxRecDepth 10000
theorem ok_spec_l2Copy : FOk E_spec_l2Copy Try.f72 sToM := FOk.of1 fun (m : Cm.Mm) hn => FGA.fg ((vc_spec_l2Copy m).mpr (by
  obtain ⟨hn, hb⟩ := (show Cm.bd m from hn)
  simp only [ifb_iff, imp_self, true_and, and_true, implies_true]
  refine ⟨⟨0, by omega, rfl, rfl⟩, fun a h1 => ⟨fun hl => ?_, fun hl => List.take_of_length_le (ge_of hl)⟩⟩
  have hl := lt_of hl
  have := hb a hl
  refine ⟨by omega, ?_, ?_, a + 1, by omega, (wsucc (by omega)).symm, Cm.take_succ_getD [] hl⟩
  · show (0 + (m.getD a []).length) * 8 ≤ _; omega
  · show ((m.take a).length + 1) * 24 ≤ _; rw [List.length_take]; omega))
theorem ok_impl_cloneMem : FOk E_impl_cloneMem Try.f78 sToM := FOk.of1 fun (m : Cm.Mm) hn => FGA.fg ((vc_impl_cloneMem m).mpr (by
  obtain ⟨hn, hb⟩ := (show Cm.bd m from hn)
  simp only [ifb_iff, imp_self, true_and, and_true, implies_true]
  refine ⟨⟨0, by omega, rfl, rfl⟩, fun a h1 => ⟨fun hl => ?_, fun hl => List.take_of_length_le (ge_of hl)⟩⟩
  have hl := lt_of hl
  have := hb a hl
  refine ⟨by omega, ?_, ?_, a + 1, by omega, (wsucc (by omega)).symm, Cm.take_succ_getD [] hl⟩
  · show (0 + (m.getD a []).length) * 8 ≤ _; omega
  · show ((m.take a).length + 1) * 24 ≤ _; rw [List.length_take]; omega))
theorem ok_spec_l2Page : FOk E_spec_l2Page Try.f135 sPage := FOk.of0 fun _ => FGA.fg (vc_spec_l2Page.mpr ⟨⟨rfl, by decide, by decide⟩, rfl, trivial⟩)
theorem within_iff {n lo hi : Int} : Cm.within n lo hi = true ↔ lo ≤ n ∧ n ≤ hi := by unfold Cm.within; simp
theorem ok_spec_MemNew : FOk E_spec_MemNew Try.f103 sMemNew := FOk.of1 fun (n : Int) _ => FGA.fg ((vc_spec_MemNew n).mpr (by
  simp only [ifb_iff, imp_self, true_and, and_true, implies_true]
  refine ⟨fun h => ?_, fun h => ?_⟩
  · rw [Cm.memNew, bnt h]; rfl
  · have h1 := within_iff.mp (bnf h)
    refine ⟨⟨0, by omega, rfl, rfl⟩, fun a h2 => ⟨fun hl => ?_, fun hl => ?_⟩⟩
    · have hl : (a : Int) < n := by simpa using hl
      refine ⟨?_, a + 1, by omega, (wsucc (by omega)).symm, List.replicate_succ'⟩
      rw [List.length_replicate]; omega
    · have hl : ¬ (a : Int) < n := by simpa using hl
      rw [Cm.memNew, if_pos (bnf h), show n.toNat = a by omega]))
theorem okP_of {a : Cm.Pg} {i : Nat} (h : Cm.allW a = Cm.allW (a.drop i)) (hl : i < a.length) (c : Cm.within (a.getD i 0) 0 63 = false) : Cm.okP a = false := by
  rw [Cm.drop_getD (0 : Int) hl, Cm.allW, c] at h
  rw [Cm.okP, h]; rfl
theorem okP_go {a : Cm.Pg} {i : Nat} (h : Cm.allW a = Cm.allW (a.drop i)) (hl : i < a.length) (c : Cm.within (a.getD i 0) 0 63 = true) : Cm.allW a = Cm.allW (a.drop (i + 1)) := by
  rw [Cm.drop_getD (0 : Int) hl, Cm.allW, c] at h
  rw [h]; rfl
theorem okP_end {a : Cm.Pg} {i : Nat} (h : Cm.allW a = Cm.allW (a.drop i)) (hl : a.length ≤ i) : ((a.length : Int) == 4) = Cm.okP a := by
  rw [List.drop_of_length_le hl] at h
  rw [Cm.okP, h, Cm.allW, Bool.true_and]
  by_cases e : a.length = 4
  · rw [e]; rfl
  · rw [decide_eq_false e, beq_eq_false_iff_ne]; omega
theorem ok_impl_pageOk : FOk E_impl_pageOk Try.f145 sOkP := FOk.of1 fun (a : Cm.Pg) hn => FGA.fg ((vc_impl_pageOk a).mpr (by
  have hn : a.length ≤ 1048576 := hn
  simp only [ifb_iff, imp_self, true_and, and_true, implies_true]
  refine ⟨⟨0, ⟨by omega, rfl⟩, rfl⟩, fun i ⟨h1, h2⟩ => ⟨fun hl => ?_, fun hl => okP_end h2 (ge_of hl)⟩⟩
  have hl := lt_of hl
  exact ⟨by omega, fun c => (okP_of h2 hl (bnt c)).symm, fun c => ⟨i + 1, ⟨⟨by omega, okP_go h2 hl (bnf c)⟩, by omega⟩, (wsucc (by omega)).symm⟩⟩))
theorem ok_spec_l2PageOk : FOk E_spec_l2PageOk Try.f147 sOkP := FOk.of1 fun (a : Cm.Pg) hn => FGA.fg ((vc_spec_l2PageOk a).mpr (by
  have hn : a.length ≤ 1048576 := hn
  simp only [ifb_iff, imp_self, true_and, and_true, implies_true]
  refine ⟨⟨0, ⟨by omega, rfl⟩, rfl⟩, fun i ⟨h1, h2⟩ => ⟨fun hl => ?_, fun hl => okP_end h2 (ge_of hl)⟩⟩
  have hl := lt_of hl
  exact ⟨by omega, fun c => (okP_of h2 hl (bnt c)).symm, fun c => ⟨i + 1, ⟨⟨by omega, okP_go h2 hl (bnf c)⟩, by omega⟩, (wsucc (by omega)).symm⟩⟩))
theorem okM_of {a : Cm.Mm} {i : Nat} (h : Cm.okM a = Cm.okM (a.drop i)) (hl : i < a.length) (c : Cm.okP (a.getD i []) = false) : Cm.okM a = false := by
  rw [Cm.drop_getD [] hl, Cm.okM, c] at h
  rw [h]; rfl
theorem okM_go {a : Cm.Mm} {i : Nat} (h : Cm.okM a = Cm.okM (a.drop i)) (hl : i < a.length) (c : Cm.okP (a.getD i []) = true) : Cm.okM a = Cm.okM (a.drop (i + 1)) := by
  rw [Cm.drop_getD [] hl, Cm.okM, c] at h
  rw [h]; rfl
theorem ok_impl_MemOk : FOk E_impl_MemOk Try.f117 sOkM := FOk.of1 fun (a : Cm.Mm) hn => FGA.fg ((vc_impl_MemOk a).mpr (by
  obtain ⟨hn, hb⟩ := (show Cm.bd a from hn)
  simp only [ifb_iff, imp_self, true_and, and_true, implies_true]
  refine ⟨⟨0, ⟨by omega, rfl⟩, rfl⟩, fun i ⟨h1, h2⟩ => ⟨fun hl => ?_, fun hl => by rw [h2, List.drop_of_length_le (ge_of hl)]; rfl⟩⟩
  have hl := lt_of hl
  exact ⟨by omega, hb i hl, fun c => (okM_of h2 hl (bnt c)).symm, fun c => ⟨i + 1, ⟨⟨by omega, okM_go h2 hl (bnf c)⟩, by omega⟩, (wsucc (by omega)).symm⟩⟩))
theorem ok_spec_MemOk : FOk E_spec_MemOk Try.f119 sOkM := FOk.of1 fun (a : Cm.Mm) hn => FGA.fg ((vc_spec_MemOk a).mpr (by
  obtain ⟨hn, hb⟩ := (show Cm.bd a from hn)
  simp only [ifb_iff, imp_self, true_and, and_true, implies_true]
  refine ⟨⟨0, ⟨by omega, rfl⟩, rfl⟩, fun i ⟨h1, h2⟩ => ⟨fun hl => ?_, fun hl => by rw [h2, List.drop_of_length_le (ge_of hl)]; rfl⟩⟩
  have hl := lt_of hl
  exact ⟨by omega, hb i hl, fun c => (okM_of h2 hl (bnt c)).symm, fun c => ⟨i + 1, ⟨⟨by omega, okM_go h2 hl (bnf c)⟩, by omega⟩, (wsucc (by omega)).symm⟩⟩))
theorem okG_eq (a : Cm.Mm) : (Cm.okM a && (a.length : Int) == 6) = Cm.okG a := by
  rw [Cm.okG]; congr 1
  by_cases e : a.length = 6
  · rw [e]; rfl
  · rw [decide_eq_false e, beq_eq_false_iff_ne]; omega
theorem ok_impl_guestMem : FOk E_impl_guestMem Try.f81 sOkG := FOk.of1 fun (a : Cm.Mm) hn => FGA.fg ((vc_impl_guestMem a).mpr (by
  simp only [imp_self, true_and, and_true]; exact ⟨hn, okG_eq a⟩))
theorem ok_spec_l11Guest : FOk E_spec_l11Guest Try.f120 sOkG := FOk.of1 fun (a : Cm.Mm) hn => FGA.fg ((vc_spec_l11Guest a).mpr (by
  simp only [imp_self, true_and, and_true]; exact ⟨hn, okG_eq a⟩))
theorem ok_impl_spot : FOk E_impl_spot Try.f82 sSpot := FOk.of2 fun (p o : Int) _ => FGA.fg ((vc_impl_spot p o).mpr (by
  simp only [imp_self, true_and, and_true, implies_true]; rfl))
theorem ok_impl_wordOk : FOk E_impl_wordOk Try.f83 sWordOk := FOk.of1 fun (w : Int) _ => FGA.fg ((vc_impl_wordOk w).mpr ⟨trivial, rfl, trivial⟩)
theorem ok_impl_EntryNum : FOk E_impl_EntryNum Try.f151 sEntryNum := FOk.of1 fun (e : Cm.E) hn => FGA.fg ((vc_impl_EntryNum e).mpr (by
  obtain ⟨a, p, c⟩ := e
  have hn : 0 ≤ p ∧ p ≤ 1048576 := hn
  simp only [ifb_iff, Cm.entryNum, and_true]
  have w1 : IntKind.wrap .i64 (2 * p) = 2 * p := Cm.wrap_id (by omega) (by omega)
  have w2 : IntKind.wrap .i64 (2 * p + 2) = 2 * p + 2 := Cm.wrap_id (by omega) (by omega)
  have w3 : IntKind.wrap .i64 (2 * p + 1) = 2 * p + 1 := Cm.wrap_id (by omega) (by omega)
  rw [w1, w2, w3]
  cases a <;> cases c <;> simp))
theorem ok_impl_EntryOf : FOk E_impl_EntryOf Try.f129 sEntryOf := FOk.of1 fun (w : Int) _ => FGA.fg ((vc_impl_EntryOf w).mpr (by
  simp only [ifb_iff, imp_self, true_and, and_true, implies_true]
  refine ⟨⟨2, ⟨by omega, by omega⟩, rfl, rfl, rfl, rfl⟩, fun g ⟨h1, h2⟩ => ⟨fun hl => ⟨⟨0, ⟨by omega, by omega⟩, rfl, rfl⟩, fun j ⟨h3, h4⟩ => ⟨fun hj => ?_, fun hj => ?_⟩⟩, fun hl => ?_⟩⟩
  · have hj : (j : Int) < 2 := by simpa using hj
    have hl : (g : Int) < 6 := by simpa using hl
    have hj : j = 0 ∨ j = 1 := by omega
    rcases hj with rfl | rfl
    · refine ⟨by decide, ⟨by show (0 : Int) ≤ (g : Int); omega, by show (g : Int) ≤ _; omega⟩, fun c => ?_, fun c => ⟨1, ⟨⟨by omega, ?_⟩, by omega⟩, rfl⟩⟩
      · have c : 2 * (g : Int) + 1 = w := by simpa [Cm.entryNum] using c
        show (true, (g : Int), false) = Cm.entryOf w
        rw [Cm.entryOf, if_pos (by omega), ← c, show (2 * (g : Int) + 1 - 1) / 2 = g by omega, decide_eq_false (by omega)]
      · have c : ¬ 2 * (g : Int) + 1 = w := by simpa [Cm.entryNum] using c
        omega
    · refine ⟨by decide, ⟨by show (0 : Int) ≤ (g : Int); omega, by show (g : Int) ≤ _; omega⟩, fun c => ?_, fun c => ⟨2, ⟨⟨by omega, ?_⟩, by omega⟩, rfl⟩⟩
      · have c : 2 * (g : Int) + 2 = w := by simpa [Cm.entryNum] using c
        show (true, (g : Int), true) = Cm.entryOf w
        rw [Cm.entryOf, if_pos (by omega), ← c, show (2 * (g : Int) + 2 - 1) / 2 = g by omega, decide_eq_true (by omega)]
      · have c : ¬ 2 * (g : Int) + 2 = w := by simpa [Cm.entryNum] using c
        omega
  · have hj : ¬ (j : Int) < 2 := by simpa using hj
    have hl : (g : Int) < 6 := by simpa using hl
    exact ⟨g + 1, ⟨⟨by omega, by omega⟩, by omega⟩, (wsucc (by omega)).symm⟩
  · have hl : ¬ (g : Int) < 6 := by simpa using hl
    rw [Cm.entryOf, if_neg (by omega)]; rfl))
theorem ok_spec_EntryOf : FOk E_spec_EntryOf Try.f153 sEntryOf := FOk.of1 fun (w : Int) hn => FGA.fg ((vc_spec_EntryOf w).mpr (by
  have hn : w ≤ 1048576 := hn
  simp only [ifb_iff, imp_self, true_and, and_true, implies_true]
  refine ⟨by decide, fun h => by rw [h]; rfl, fun h => ?_, fun h => ⟨by decide, ?_⟩⟩
  · rw [Cm.entryOf, if_neg]; · rfl
    intro hw
    have w1 : IntKind.wrap .i64 (w - 1) = w - 1 := Cm.wrap_id (by omega) (by omega)
    have e : (w - 1).tdiv 2 = (w - 1) / 2 := Int.tdiv_eq_ediv_of_nonneg (by omega)
    have w2 : IntKind.wrap .i64 ((w - 1) / 2) = (w - 1) / 2 := Cm.wrap_id (by omega) (by omega)
    rw [w1, e, w2, show Cm.within ((w - 1) / 2) 2 5 = true from within_iff.mpr (by omega)] at h
    simp at h; omega
  · rw [Bool.or_eq_false_iff] at h
    obtain ⟨h1, h2⟩ := h
    have h1 : ¬ w < 1 := by simpa using h1
    have h2 := within_iff.mp (bnf h2)
    have w1 : IntKind.wrap .i64 (w - 1) = w - 1 := Cm.wrap_id (by omega) (by omega)
    have e : (w - 1).tdiv 2 = (w - 1) / 2 := Int.tdiv_eq_ediv_of_nonneg (by omega)
    have w2 : IntKind.wrap .i64 ((w - 1) / 2) = (w - 1) / 2 := Cm.wrap_id (by omega) (by omega)
    rw [w1, e, w2] at h2 ⊢
    rw [Cm.entryOf, if_pos (by omega), Int.tmod_eq_emod_of_nonneg (by omega)]; rfl))
end Go.Proofs.Ytcfmelkegjpciaa.T

open Go Go.Am Go.Proofs
open Go.Cm (R rdOk)
namespace Go.Proofs.Ytcfmelkegjpciaa.T
set_option maxRecDepth 10000
theorem ok_spec_l2Tab : FOk E_spec_l2Tab Try.f166 sTab2 := FOk.of2 fun (a b : Cm.Pg) hn => FGA.fg ((vc_spec_l2Tab a b).mpr (by
  obtain ⟨ha, hb⟩ := (show Cm.okP a = true ∧ Cm.okP b = true from hn)
  have la := Cm.okP_len ha
  have lb := Cm.okP_len hb
  have ga := Cm.okP_get ha
  have gb := Cm.okP_get hb
  simp only [ifb_iff, imp_self, true_and, and_true, implies_true]
  refine ⟨⟨0, by omega, rfl, rfl⟩, fun i h1 => ⟨fun hl => ⟨fun h4 => ?_, fun h4 => ?_⟩, fun hl => ?_⟩⟩
  · have h4 : (i : Int) < 4 := by simpa using h4
    refine ⟨by omega, by have := ga i; omega, ?_, i + 1, by omega, (wsucc (by omega)).symm, ?_⟩
    · show ((List.take i (Cm.tabGen [a, b])).length + 1) * 24 ≤ _; rw [List.length_take]; omega
    · have : i = 0 ∨ i = 1 ∨ i = 2 ∨ i = 3 := by omega
      rcases this with rfl | rfl | rfl | rfl <;> rfl
  · have h4 : ¬ (i : Int) < 4 := by simpa using h4
    have hl : (i : Int) < 6 := by simpa using hl
    have w1 : IntKind.wrap .i64 ((i : Int) - 4) = (i : Int) - 4 := Cm.wrap_id (by omega) (by omega)
    rw [w1]
    refine ⟨by omega, by have := gb ((i : Int) - 4).toNat; omega, ?_, i + 1, by omega, (wsucc (by omega)).symm, ?_⟩
    · show ((List.take i (Cm.tabGen [a, b])).length + 1) * 24 ≤ _; rw [List.length_take]; omega
    · have : i = 4 ∨ i = 5 := by omega
      rcases this with rfl | rfl <;> rfl
  · have hl : ¬ (i : Int) < 6 := by simpa using hl
    exact List.take_of_length_le (by rw [Cm.tabGen_len]; omega)))
theorem ok_impl_MemTab : FOk E_impl_MemTab Try.f84 sMemTab := FOk.of1 fun (m : Cm.Mm) hn => FGA.fg ((vc_impl_MemTab m).mpr (by
  have hn : Cm.bd m := hn
  simp only [ifb_iff, imp_self, true_and, and_true, implies_true]
  refine ⟨hn, fun h => ?_, fun h => ⟨⟨0, by omega, rfl, rfl⟩, fun i h1 => ⟨fun hl => ?_, fun hl => ?_⟩⟩⟩
  · rw [Cm.memTab, bnt h]; rfl
  · have hl : (i : Int) < 6 := by simpa using hl
    have h := bnf h
    have hlen := Cm.okG_len h
    have d1 : (i : Int).tdiv 4 = ((i / 4 : Nat) : Int) := rfl
    have d2 : (i : Int).tmod 4 = ((i % 4 : Nat) : Int) := rfl
    have w1 : IntKind.wrap .i64 ((i / 4 : Nat) : Int) = ((i / 4 : Nat) : Int) := Cm.wrap_id (by omega) (by omega)
    rw [d1, d2, w1, Int.toNat_natCast, Int.toNat_natCast]
    have hr := Cm.okG_row h (show i / 4 < 6 by omega)
    have hg := Cm.okP_get (Cm.okG_okP h (show i / 4 < 6 by omega)) (i % 4)
    refine ⟨by decide, by omega, by decide, by rw [hr]; omega, by omega, ?_, i + 1, by omega, (wsucc (by omega)).symm, ?_⟩
    · show ((List.take i (Cm.tabGen m)).length + 1) * 24 ≤ _; rw [List.length_take]; omega
    · have : i = 0 ∨ i = 1 ∨ i = 2 ∨ i = 3 ∨ i = 4 ∨ i = 5 := by omega
      rcases this with rfl | rfl | rfl | rfl | rfl | rfl <;> rfl
  · have hl : ¬ (i : Int) < 6 := by simpa using hl
    rw [Cm.memTab, bnf h]
    exact List.take_of_length_le (by rw [Cm.tabGen_len]; omega)))
theorem ok_spec_MemTab : FOk E_spec_MemTab Try.f150 sMemTab := FOk.of1 fun (m : Cm.Mm) hn => FGA.fg ((vc_spec_MemTab m).mpr (by
  have hn : Cm.bd m := hn
  simp only [ifb_iff, imp_self, true_and, and_true, implies_true]
  refine ⟨hn, fun h => by rw [h]; rfl, fun h => ?_, fun h => ?_⟩
  · rw [Cm.memTab, if_neg]
    intro hg
    unfold Cm.okG at hg
    simp at hg h
    rcases h with h | h
    · rw [h] at hg; exact absurd hg.1 (by simp)
    · omega
  · have hg : Cm.okG m = true := by
      unfold Cm.okG
      rw [Bool.or_eq_false_iff] at h
      rw [bnf h.1, decide_eq_true]; · rfl
      have := h.2; simp at this; omega
    rw [Cm.memTab, if_pos hg]
    have := Cm.okG_len hg
    exact ⟨by omega, by omega, ⟨Cm.okG_okP hg (by omega), Cm.okG_okP hg (by omega)⟩, rfl⟩))
end Go.Proofs.Ytcfmelkegjpciaa.T

open Go Go.Am Go.Proofs
open Go.Cm (R rdOk)
namespace Go.Proofs.Ytcfmelkegjpciaa.T
set_option maxRecDepth 10000
theorem bb (b : Bool) : b = false ∨ b = true := by cases b <;> simp
theorem within_f {n lo hi : Int} (h : Cm.within n lo hi = true) : lo ≤ n ∧ n ≤ hi := within_iff.mp h
theorem ok_spec_MemAt : FOk E_spec_MemAt Try.f124 sMemAt := FOk.of3 fun (m : Cm.Mm) (p o : Int) hn => FGA.fg ((vc_spec_MemAt m p o).mpr (by
  have hn : Cm.bd m := hn
  have hl := hn.1
  have hw : IntKind.wrap .i64 ((m.length : Int) - 1) = (m.length : Int) - 1 := Cm.wrap_id (by omega) (by omega)
  simp only [hw, ifb_iff, Cm.memAt, Cm.spotM]
  rcases bb (Cm.okM m) with hA | hA <;> rcases bb (Cm.within p 0 ((m.length : Int) - 1)) with hB | hB <;> rcases bb (Cm.within o 0 3) with hC | hC <;> simp [hn, hA, hB, hC]
  have h1 := within_f hB
  have h2 := within_f hC
  have h3 := Cm.okP_len (Cm.okM_get hA p.toNat (by omega))
  simp only [List.getD_eq_getElem?_getD] at h3
  exact ⟨by omega, by omega, rfl⟩))
theorem ok_spec_MemWith : FOk E_spec_MemWith Try.f125 sMemWith := FOk.of4 fun (m : Cm.Mm) (p o w : Int) hn => FGA.fg ((vc_spec_MemWith m p o w).mpr (by
  have hn : Cm.bd m := hn
  simp only [ifb_iff, Cm.memWith, Cm.memAt, Cm.spotM]
  rcases bb (Cm.okM m) with hA | hA <;> rcases bb (Cm.within p 0 ((m.length : Int) - 1)) with hB | hB <;> rcases bb (Cm.within o 0 3) with hC | hC <;> rcases bb (Cm.within w 0 63) with hD | hD <;> simp [hn, hA, hB, hC, hD]
  have h1 := within_f hB
  have h2 := within_f hC
  have h3 := Cm.okP_len (Cm.okM_get hA p.toNat (by omega))
  simp only [List.getD_eq_getElem?_getD] at h3
  exact ⟨by omega, by omega, by simp [Cm.set2]⟩))
theorem spot_f {p o : Int} (h : Cm.spot p o = true) : (0 ≤ p ∧ p ≤ 5) ∧ 0 ≤ o ∧ o ≤ 3 := by
  unfold Cm.spot at h; rw [Bool.and_eq_true] at h; exact ⟨within_f h.1, within_f h.2⟩
theorem spotM_spot {m : Cm.Mm} (h : Cm.okG m = true) (p o : Int) : Cm.spotM m p o = Cm.spot p o := by
  unfold Cm.spotM Cm.spot; rw [Cm.okG_len h]; rfl
theorem okG_okM {m : Cm.Mm} (h : Cm.okG m = true) : Cm.okM m = true := by unfold Cm.okG at h; rw [Bool.and_eq_true] at h; exact h.1
theorem row_len {m : Cm.Mm} (h : Cm.okG m = true) {p : Int} (hp : 0 ≤ p ∧ p ≤ 5) : (m[p.toNat]?.getD []).length = 4 := by
  have := Cm.okG_row h (i := p.toNat) (by omega)
  simpa only [List.getD_eq_getElem?_getD] using this
theorem ok_impl_FlatRead : FOk E_impl_FlatRead Try.f33 sFRead := FOk.of3 fun (m : Cm.Mm) (p o : Int) hn => FGA.fg ((vc_impl_FlatRead m p o).mpr (by
  have hn : Cm.bd m := hn
  simp only [ifb_iff, Cm.fRead]
  rcases bb (Cm.okG m) with hA | hA <;> rcases bb (Cm.spot p o) with hB | hB <;> simp [hn, hA, hB]
  have h1 := spot_f hB
  rw [row_len hA h1.1, Cm.okG_len hA]
  exact ⟨by omega, by omega, by simp [Cm.at2]⟩))
theorem ok_spec_FlatRead : FOk E_spec_FlatRead Try.f73 sFRead := FOk.of3 fun (m : Cm.Mm) (p o : Int) hn => FGA.fg ((vc_spec_FlatRead m p o).mpr (by
  have hn : Cm.bd m := hn
  simp only [ifb_iff, Cm.fRead, Cm.memAt]
  rcases bb (Cm.okG m) with hA | hA
  · simp [hn, hA]
  · rcases bb (Cm.spot p o) with hB | hB <;> simp [hn, hA, hB, spotM_spot hA, okG_okM hA]))
theorem ok_impl_FlatWrite : FOk E_impl_FlatWrite Try.f34 sFWrite := FOk.of4 fun (m : Cm.Mm) (p o w : Int) hn => FGA.fg ((vc_impl_FlatWrite m p o w).mpr (by
  have hn : Cm.bd m := hn
  simp only [ifb_iff, Cm.fWrite]
  rcases bb (Cm.okG m) with hA | hA <;> rcases bb (Cm.spot p o) with hB | hB <;> rcases bb (Cm.within w 0 63) with hC | hC <;> simp [hn, hA, hB, hC]
  have h1 := spot_f hB
  rw [row_len hA h1.1, Cm.okG_len hA]
  exact ⟨by omega, by omega, by omega, by omega, by simp [Cm.set2], by simp [Cm.at2]⟩))
theorem ok_spec_FlatWrite : FOk E_spec_FlatWrite Try.f74 sFWrite := FOk.of4 fun (m : Cm.Mm) (p o w : Int) hn => FGA.fg ((vc_spec_FlatWrite m p o w).mpr (by
  have hn : Cm.bd m := hn
  simp only [ifb_iff, Cm.fWrite, Cm.memAt, Cm.memWith]
  rcases bb (Cm.okG m) with hA | hA
  · simp [hn, hA]
  · rcases bb (Cm.spot p o) with hB | hB <;> rcases bb (Cm.within w 0 63) with hC | hC <;> simp [hn, hA, hB, hC, spotM_spot hA, okG_okM hA]))
theorem ok_spec_l11Walk : FOk E_spec_l11Walk Try.f126 sFWalk := FOk.of4 fun (m : Cm.Mm) (p o : Int) (w : Bool) hn => FGA.fg ((vc_spec_l11Walk m p o w).mpr (by
  have hn : Cm.bd m := hn
  simp only [ifb_iff, Cm.fWalk, Cm.memTab, Cm.spot]
  rcases bb (Cm.okG m) with hA | hA <;> rcases bb (Cm.within p 0 5) with hB | hB <;> rcases bb (Cm.within o 0 3) with hC | hC <;> simp only [hn, hA, hB, hC]
  all_goals try (simp [Cm.e0]; done)
  have h1 := within_f hB
  have e : List.getD (Cm.tabGen m) p.toNat (false, 0, false) = List.getD (Cm.tabGen m) p.toNat Cm.e0 := rfl
  simp only [e, ite_true]
  generalize List.getD (Cm.tabGen m) p.toNat Cm.e0 = x
  have hl := Cm.tabGen_len m
  have hp : (0 ≤ p ∧ p < ((Cm.tabGen m).length : Int)) = True := by rw [hl]; simp; omega
  obtain ⟨x1, x2, x3⟩ := x
  simp only [hp]
  cases x1 <;> cases x3 <;> cases w <;> simp))
/-- A row of the table that is there leads to a page above the table. -/
theorem entry_pg {w : Int} (h : (Cm.entryOf w).1 = true) : 2 ≤ (Cm.entryOf w).2.1 ∧ (Cm.entryOf w).2.1 ≤ 5 := by
  unfold Cm.entryOf at h ⊢
  split
  · dsimp only; omega
  · rename_i c; rw [if_neg c] at h; cases h
theorem tab_pg {m : Cm.Mm} {i : Nat} (h : (List.getD (Cm.tabGen m) i Cm.e0).1 = true) : 2 ≤ (List.getD (Cm.tabGen m) i Cm.e0).2.1 ∧ (List.getD (Cm.tabGen m) i Cm.e0).2.1 ≤ 5 := by
  match i with
  | 0 => exact entry_pg h
  | 1 => exact entry_pg h
  | 2 => exact entry_pg h
  | 3 => exact entry_pg h
  | 4 => exact entry_pg h
  | 5 => exact entry_pg h
  | n + 6 => cases h
theorem ok_impl_FlatReadIn : FOk E_impl_FlatReadIn Try.f35 sFReadIn := FOk.of3 fun (m : Cm.Mm) (p o : Int) hn => FGA.fg ((vc_impl_FlatReadIn m p o).mpr (by
  have hn : Cm.bd m := hn
  simp only [ifb_iff, Cm.fReadIn, Cm.fWalk, Cm.memTab]
  rcases bb (Cm.okG m) with hA | hA <;> rcases bb (Cm.spot p o) with hB | hB <;> simp only [hn, hA, hB]
  all_goals try (simp; done)
  have h1 := spot_f hB
  have e : List.getD (Cm.tabGen m) p.toNat (false, 0, false) = List.getD (Cm.tabGen m) p.toNat Cm.e0 := rfl
  have ht := tab_pg (m := m) (i := p.toNat)
  simp only [e, ite_true]
  generalize List.getD (Cm.tabGen m) p.toNat Cm.e0 = x at ht
  have hl := Cm.tabGen_len m
  have hp : (0 ≤ p ∧ p < ((Cm.tabGen m).length : Int)) = True := by rw [hl]; simp; omega
  obtain ⟨x1, x2, x3⟩ := x
  simp only [hp]
  cases x1
  · simp
  · have ht : 2 ≤ x2 ∧ x2 ≤ 5 := ht rfl
    have hr := row_len hA (p := x2) (by omega)
    simp
    rw [hr, Cm.okG_len hA]
    exact ⟨by omega, by omega, by simp [Cm.at2]⟩))
theorem ok_spec_FlatReadIn : FOk E_spec_FlatReadIn Try.f75 sFReadIn := FOk.of3 fun (m : Cm.Mm) (p o : Int) hn => FGA.fg ((vc_spec_FlatReadIn m p o).mpr (by
  have hn : Cm.bd m := hn
  simp only [ifb_iff, Cm.fReadIn]
  refine ⟨hn, fun h => ⟨by rw [if_pos (by simpa using h)], trivial⟩, fun h => ?_⟩
  have h : ¬ (Cm.fWalk m p o false).2 < 0 := by simpa using h
  rw [if_neg h]
  unfold Cm.fWalk at h ⊢
  split at h
  · rename_i c
    rw [if_pos c]
    have h1 := spot_f c.2
    have ht := tab_pg (m := m) (i := p.toNat)
    generalize List.getD (Cm.tabGen m) p.toNat Cm.e0 = x at h ht ⊢
    obtain ⟨x1, x2, x3⟩ := x
    cases x1
    · simp at h
    · have ht : 2 ≤ x2 ∧ x2 ≤ 5 := ht rfl
      have hr := row_len c.1 (p := x2) (by omega)
      simp
      rw [hr, Cm.okG_len c.1]
      exact ⟨by omega, by omega, by simp [Cm.at2]⟩
  · simp at h))
theorem ok_impl_FlatWriteIn : FOk E_impl_FlatWriteIn Try.f36 sFWriteIn := FOk.of4 fun (m : Cm.Mm) (p o w : Int) hn => FGA.fg ((vc_impl_FlatWriteIn m p o w).mpr (by
  have hn : Cm.bd m := hn
  simp only [ifb_iff, Cm.fWriteIn, Cm.fWalk, Cm.memTab, Cm.fWrite]
  rcases bb (Cm.okG m) with hA | hA <;> rcases bb (Cm.spot p o) with hB | hB <;> rcases bb (Cm.within w 0 63) with hC | hC <;> simp only [hn, hA, hB, hC]
  all_goals try (simp; done)
  have h1 := spot_f hB
  have e : List.getD (Cm.tabGen m) p.toNat (false, 0, false) = List.getD (Cm.tabGen m) p.toNat Cm.e0 := rfl
  have ht := tab_pg (m := m) (i := p.toNat)
  simp only [e, ite_true]
  generalize List.getD (Cm.tabGen m) p.toNat Cm.e0 = x at ht
  have hl := Cm.tabGen_len m
  have hp : (0 ≤ p ∧ p < ((Cm.tabGen m).length : Int)) = True := by rw [hl]; simp; omega
  obtain ⟨x1, x2, x3⟩ := x
  simp only [hp]
  cases x1
  · simp
  · have ht : 2 ≤ x2 ∧ x2 ≤ 5 := ht rfl
    have hs : Cm.spot x2 o = true := by
      unfold Cm.spot; rw [within_iff.mpr (by omega), within_iff.mpr (by omega)]; rfl
    cases x3 <;> simp [hs]))
theorem ok_spec_FlatWriteIn : FOk E_spec_FlatWriteIn Try.f76 sFWriteIn := FOk.of4 fun (m : Cm.Mm) (p o w : Int) hn => FGA.fg ((vc_spec_FlatWriteIn m p o w).mpr (by
  have hn : Cm.bd m := hn
  simp only [ifb_iff, Cm.fWriteIn]
  rcases bb (Cm.within w 0 63) with hC | hC
  · simp [hn, hC]
  · refine ⟨hn, trivial, fun h => (by rw [hC] at h; cases h), fun _ => ⟨fun h => ?_, fun h => ?_⟩⟩
    · have h : (Cm.fWalk m p o true).2 < 0 := by simpa using h
      simp [hn, h, hC]
    · have h : ¬ (Cm.fWalk m p o true).2 < 0 := by simpa using h
      simp only [h, hC, if_neg (show ¬ (true = false) by simp), ite_false]
      unfold Cm.fWalk at h ⊢
      split at h
      · rename_i c
        rw [if_pos c]
        have h1 := spot_f c.2
        have ht := tab_pg (m := m) (i := p.toNat)
        generalize List.getD (Cm.tabGen m) p.toNat Cm.e0 = x at h ht ⊢
        obtain ⟨x1, x2, x3⟩ := x
        cases x1
        · simp at h
        · have ht : 2 ≤ x2 ∧ x2 ≤ 5 := ht rfl
          have hr := row_len c.1 (p := x2) (by omega)
          cases x3
          · simp at h
          · simp
            rw [hr, Cm.okG_len c.1]
            refine ⟨hn, by omega, by omega, by omega, by omega, by simp [Cm.set2], by simp [Cm.at2]⟩
      · simp at h))
theorem fDo_cases (m : Cm.Mm) (a : Cm.A) : (a.1 = 1 ∨ a.1 = 2 ∨ a.1 = 3 ∨ a.1 = 4) ∨ (¬ a.1 = 1 ∧ ¬ a.1 = 2 ∧ ¬ a.1 = 3 ∧ ¬ a.1 = 4) := by omega
theorem ok_impl_FlatDo : FOk E_impl_FlatDo Try.f27 sFDo := FOk.of2 fun (m : Cm.Mm) (a : Cm.A) hn => FGA.fg ((vc_impl_FlatDo m a).mpr (by
  have hn : Cm.bd m := hn
  simp only [ifb_iff, Cm.fDo, hn, beq_iff_eq, beq_eq_false_iff_ne, ne_eq]
  refine ⟨fun h => by simp [h], fun h1 => ⟨fun h => by simp [h], fun h2 => ⟨fun h => by simp [h], fun h3 => ⟨fun h => by simp [h], fun h4 => by simp [h1, h2, h3, h4]⟩⟩⟩⟩))
theorem ok_spec_FlatDo : FOk E_spec_FlatDo Try.f24 sFDo := FOk.of2 fun (m : Cm.Mm) (a : Cm.A) hn => FGA.fg ((vc_spec_FlatDo m a).mpr (by
  have hn : Cm.bd m := hn
  simp only [ifb_iff, Cm.fDo, hn, beq_iff_eq, beq_eq_false_iff_ne, ne_eq]
  refine ⟨fun h => by simp [h], fun h1 => ⟨fun h => by simp [h], fun h2 => ⟨fun h => by simp [h], fun h3 => ⟨fun h => by simp [h], fun h4 => by simp [h1, h2, h3, h4]⟩⟩⟩⟩))
theorem set2_bd {m : Cm.Mm} (h : Cm.bd m) (p o w : Int) : Cm.bd (Cm.set2 m p o w) := by
  refine ⟨by simpa [Cm.set2] using h.1, fun i hi => ?_⟩
  have hi : i < m.length := by simpa [Cm.set2] using hi
  have h2 := h.2 i hi
  unfold Cm.set2
  simp only [List.getD_eq_getElem?_getD, List.getElem?_set] at h2 ⊢
  split
  · rename_i e; subst e; simp [hi] at h2 ⊢; exact h2
  · exact h2
theorem fDo_bd {m : Cm.Mm} (h : Cm.bd m) (a : Cm.A) : Cm.bd (Cm.fDo m a).1 := by
  unfold Cm.fDo Cm.fWrite Cm.fWriteIn
  split; · exact h
  split
  · split
    · exact set2_bd h _ _ _
    · exact h
  split; · exact h
  split
  · split
    · exact h
    · split
      · exact h
      · exact set2_bd h _ _ _
  · exact h
theorem ok_laws_FnExactFlatDo : FOk E_laws_FnExactFlatDo Try.f7 sLawMA := FOk.of2 fun (m : Cm.Mm) (a : Cm.A) hn => FGA.fg ((vc_laws_FnExactFlatDo m a).mpr (by
  have hn : Cm.wfM m := hn
  simp only [ifb_iff]
  refine ⟨⟨hn, by decide, by decide⟩, fun _ => ⟨by trivial, trivial⟩, fun h => ?_⟩
  have hb := Cm.szLL_bd (n := 1048576) ⟨by decide, by decide⟩ hn (by simpa using h)
  have hd := fDo_bd hb a
  have hm := Cm.markM_bd hd 1
  have c1 := Cm.cnt_nn m
  have c2 := Cm.cnt_nn (Cm.fDo m a).1
  have n1 : ¬ 1 + Cm.cnt m < 0 := by omega
  have n2 : ¬ 1 + Cm.cnt (Cm.fDo m a).1 < 0 := by omega
  simp [hb, hd, hm, Cm.eqM_refl, Cm.heldM_mark, n1, n2]))
theorem kn_laws_szIntS : Known Try.prog 71 (sSz kI) := known_of tabOk (kn0) mixed Try.func71 (by kernel_rfl) ok_laws_szIntS
theorem kn_laws_szIntSS : Known Try.prog 23 sSzM := known_of tabOk (AllK.cons kn0 kn_laws_szIntS) mixed Try.func23 (by kernel_rfl) ok_laws_szIntSS
theorem kn_laws_toIntS : Known Try.prog 77 sToP := known_of tabOk (kn0) mixed Try.func77 (by kernel_rfl) ok_laws_toIntS
theorem kn_laws_toIntSS : Known Try.prog 25 sToM := known_of tabOk (AllK.cons kn0 kn_laws_toIntS) mixed Try.func25 (by kernel_rfl) ok_laws_toIntSS
theorem kn_laws_eqIntS : Known Try.prog 47 sEqP := known_of tabOk (kn0) mixed Try.func47 (by kernel_rfl) ok_laws_eqIntS
theorem kn_laws_eqIntSS : Known Try.prog 28 sEqM := known_of tabOk (AllK.cons kn0 kn_laws_eqIntS) mixed Try.func28 (by kernel_rfl) ok_laws_eqIntSS
theorem kn_laws_lkInts : Known Try.prog 52 sEqP := known_of tabOk (kn0) mixed Try.func52 (by kernel_rfl) ok_laws_lkInts
theorem kn_laws_lkMem : Known Try.prog 32 sEqM := known_of tabOk (AllK.cons kn0 kn_laws_lkInts) mixed Try.func32 (by kernel_rfl) ok_laws_lkMem
theorem kn_laws_markIntS : Known Try.prog 49 sMarkP := known_of tabOk (kn0) mixed Try.func49 (by kernel_rfl) ok_laws_markIntS
theorem kn_laws_markIntSS : Known Try.prog 29 sMarkM := known_of tabOk (AllK.cons kn0 kn_laws_markIntS) mixed Try.func29 (by kernel_rfl) ok_laws_markIntSS
theorem kn_laws_heldIntS : Known Try.prog 50 sHeldP := known_of tabOk (kn0) mixed Try.func50 (by kernel_rfl) ok_laws_heldIntS
theorem kn_laws_heldIntSS : Known Try.prog 30 sHeldM := known_of tabOk (AllK.cons kn0 kn_laws_heldIntS) mixed Try.func30 (by kernel_rfl) ok_laws_heldIntSS
theorem kn_spec_l2Copy : Known Try.prog 72 sToM := known_of tabOk (kn0) mixed Try.func72 (by kernel_rfl) ok_spec_l2Copy
theorem kn_impl_cloneMem : Known Try.prog 78 sToM := known_of tabOk (kn0) mixed Try.func78 (by kernel_rfl) ok_impl_cloneMem
theorem kn_spec_l2Page : Known Try.prog 135 sPage := known_of tabOk (kn0) mixed Try.func135 (by kernel_rfl) ok_spec_l2Page
theorem kn_spec_MemNew : Known Try.prog 103 sMemNew := known_of tabOk (AllK.cons (AllK.cons kn0 kn_spec_l2Page) kn_107) mixed Try.func103 (by kernel_rfl) ok_spec_MemNew
theorem kn_impl_pageOk : Known Try.prog 145 sOkP := known_of tabOk (AllK.cons kn0 kn_98) mixed Try.func145 (by kernel_rfl) ok_impl_pageOk
theorem kn_spec_l2PageOk : Known Try.prog 147 sOkP := known_of tabOk (AllK.cons kn0 kn_107) mixed Try.func147 (by kernel_rfl) ok_spec_l2PageOk
theorem kn_impl_MemOk : Known Try.prog 117 sOkM := known_of tabOk (AllK.cons kn0 kn_impl_pageOk) mixed Try.func117 (by kernel_rfl) ok_impl_MemOk
theorem kn_spec_MemOk : Known Try.prog 119 sOkM := known_of tabOk (AllK.cons kn0 kn_spec_l2PageOk) mixed Try.func119 (by kernel_rfl) ok_spec_MemOk
theorem kn_impl_guestMem : Known Try.prog 81 sOkG := known_of tabOk (AllK.cons kn0 kn_impl_MemOk) mixed Try.func81 (by kernel_rfl) ok_impl_guestMem
theorem kn_spec_l11Guest : Known Try.prog 120 sOkG := known_of tabOk (AllK.cons kn0 kn_spec_MemOk) mixed Try.func120 (by kernel_rfl) ok_spec_l11Guest
theorem kn_impl_spot : Known Try.prog 82 sSpot := known_of tabOk (AllK.cons kn0 kn_98) mixed Try.func82 (by kernel_rfl) ok_impl_spot
theorem kn_impl_wordOk : Known Try.prog 83 sWordOk := known_of tabOk (AllK.cons kn0 kn_98) mixed Try.func83 (by kernel_rfl) ok_impl_wordOk
theorem kn_impl_EntryNum : Known Try.prog 151 sEntryNum := known_of tabOk (kn0) mixed Try.func151 (by kernel_rfl) ok_impl_EntryNum
theorem kn_impl_EntryOf : Known Try.prog 129 sEntryOf := known_of tabOk (AllK.cons kn0 kn_impl_EntryNum) mixed Try.func129 (by kernel_rfl) ok_impl_EntryOf
theorem kn_spec_EntryOf : Known Try.prog 153 sEntryOf := known_of tabOk (AllK.cons kn0 kn_107) mixed Try.func153 (by kernel_rfl) ok_spec_EntryOf
theorem kn_spec_l2Tab : Known Try.prog 166 sTab2 := known_of tabOk (AllK.cons kn0 kn_spec_EntryOf) mixed Try.func166 (by kernel_rfl) ok_spec_l2Tab
theorem kn_impl_MemTab : Known Try.prog 84 sMemTab := known_of tabOk (AllK.cons (AllK.cons kn0 kn_impl_EntryOf) kn_impl_guestMem) mixed Try.func84 (by kernel_rfl) ok_impl_MemTab
theorem kn_spec_MemTab : Known Try.prog 150 sMemTab := known_of tabOk (AllK.cons (AllK.cons kn0 kn_spec_l2Tab) kn_spec_MemOk) mixed Try.func150 (by kernel_rfl) ok_spec_MemTab
theorem kn_spec_MemAt : Known Try.prog 124 sMemAt := known_of tabOk (AllK.cons (AllK.cons kn0 kn_spec_MemOk) kn_107) mixed Try.func124 (by kernel_rfl) ok_spec_MemAt
theorem kn_spec_MemWith : Known Try.prog 125 sMemWith := known_of tabOk (AllK.cons (AllK.cons (AllK.cons kn0 kn_spec_MemAt) kn_107) kn_spec_l2Copy) mixed Try.func125 (by kernel_rfl) ok_spec_MemWith
theorem kn_impl_FlatRead : Known Try.prog 33 sFRead := known_of tabOk (AllK.cons (AllK.cons kn0 kn_impl_spot) kn_impl_guestMem) mixed Try.func33 (by kernel_rfl) ok_impl_FlatRead
theorem kn_spec_FlatRead : Known Try.prog 73 sFRead := known_of tabOk (AllK.cons (AllK.cons kn0 kn_spec_MemAt) kn_spec_l11Guest) mixed Try.func73 (by kernel_rfl) ok_spec_FlatRead
theorem kn_impl_FlatWrite : Known Try.prog 34 sFWrite := known_of tabOk (AllK.cons (AllK.cons (AllK.cons (AllK.cons kn0 kn_impl_wordOk) kn_impl_spot) kn_impl_guestMem) kn_impl_cloneMem) mixed Try.func34 (by kernel_rfl) ok_impl_FlatWrite
theorem kn_spec_FlatWrite : Known Try.prog 74 sFWrite := known_of tabOk (AllK.cons (AllK.cons (AllK.cons (AllK.cons kn0 kn_spec_MemWith) kn_spec_MemAt) kn_spec_l11Guest) kn_spec_l2Copy) mixed Try.func74 (by kernel_rfl) ok_spec_FlatWrite
theorem kn_spec_l11Walk : Known Try.prog 126 sFWalk := known_of tabOk (AllK.cons (AllK.cons (AllK.cons kn0 kn_spec_MemTab) kn_spec_l11Guest) kn_107) mixed Try.func126 (by kernel_rfl) ok_spec_l11Walk
theorem kn_impl_FlatReadIn : Known Try.prog 35 sFReadIn := known_of tabOk (AllK.cons (AllK.cons (AllK.cons kn0 kn_impl_MemTab) kn_impl_spot) kn_impl_guestMem) mixed Try.func35 (by kernel_rfl) ok_impl_FlatReadIn
theorem kn_spec_FlatReadIn : Known Try.prog 75 sFReadIn := known_of tabOk (AllK.cons kn0 kn_spec_l11Walk) mixed Try.func75 (by kernel_rfl) ok_spec_FlatReadIn
theorem kn_impl_FlatWriteIn : Known Try.prog 36 sFWriteIn := known_of tabOk (AllK.cons (AllK.cons (AllK.cons (AllK.cons (AllK.cons (AllK.cons kn0 kn_impl_MemTab) kn_impl_wordOk) kn_impl_spot) kn_impl_guestMem) kn_impl_cloneMem) kn_impl_FlatWrite) mixed Try.func36 (by kernel_rfl) ok_impl_FlatWriteIn
theorem kn_spec_FlatWriteIn : Known Try.prog 76 sFWriteIn := known_of tabOk (AllK.cons (AllK.cons (AllK.cons kn0 kn_spec_l11Walk) kn_107) kn_spec_l2Copy) mixed Try.func76 (by kernel_rfl) ok_spec_FlatWriteIn
theorem kn_impl_FlatDo : Known Try.prog 27 sFDo := known_of tabOk (AllK.cons (AllK.cons (AllK.cons (AllK.cons (AllK.cons kn0 kn_impl_cloneMem) kn_impl_FlatWriteIn) kn_impl_FlatReadIn) kn_impl_FlatWrite) kn_impl_FlatRead) mixed Try.func27 (by kernel_rfl) ok_impl_FlatDo
theorem kn_spec_FlatDo : Known Try.prog 24 sFDo := known_of tabOk (AllK.cons (AllK.cons (AllK.cons (AllK.cons (AllK.cons kn0 kn_spec_FlatWriteIn) kn_spec_FlatReadIn) kn_spec_FlatWrite) kn_spec_FlatRead) kn_spec_l2Copy) mixed Try.func24 (by kernel_rfl) ok_spec_FlatDo
theorem kn_laws_FnExactFlatDo : Known Try.prog 7 sLawMA := known_of tabOk (AllK.cons (AllK.cons (AllK.cons (AllK.cons (AllK.cons (AllK.cons (AllK.cons (AllK.cons kn0 kn_laws_heldIntSS) kn_laws_markIntSS) kn_laws_eqIntSS) kn_impl_FlatDo) kn_26) kn_laws_toIntSS) kn_spec_FlatDo) kn_laws_szIntSS) mixed Try.func7 (by kernel_rfl) ok_laws_FnExactFlatDo
end Go.Proofs.Ytcfmelkegjpciaa.T

open Go Go.Am Go.Proofs
open Go.Cm (R rdOk)
namespace Go.Proofs.Ytcfmelkegjpciaa.T
set_option maxRecDepth 10000
theorem shp_set {m : Cm.Mm} (h : Cm.shp m) (i : Nat) {q : Cm.Pg} (hq : i < 6 → q.length = 4) : Cm.shp (m.set i q) := by
  refine ⟨by simpa using h.1, fun j hj => ?_⟩
  have h2 := h.2 j hj
  have h1 := h.1
  simp only [List.getD_eq_getElem?_getD, List.getElem?_set] at h2 ⊢
  split
  · rename_i e; subst e
    rw [if_pos (by omega)]; exact hq hj
  · exact h2
theorem shp_new : Cm.shp (Cm.memNew 6) := ⟨rfl, fun i hi => by
  have : i = 0 ∨ i = 1 ∨ i = 2 ∨ i = 3 ∨ i = 4 ∨ i = 5 := by omega
  rcases this with rfl | rfl | rfl | rfl | rfl | rfl <;> rfl⟩
theorem memGo1_pos {p : R → Int → Int} {k : Nat} (s : R × Cm.Mm) (h : 0 < k) : Cm.memGo1 p k s = Cm.memGo1 p (k - 1) (Cm.memS1 p s) := by
  obtain ⟨n, rfl⟩ : ∃ n, k = n + 1 := ⟨k - 1, by omega⟩; rfl
theorem memGo2_pos {p : R → Int → Int} {k : Nat} (s : R × Cm.Mm) (h : 0 < k) : Cm.memGo2 p k s = Cm.memGo2 p (k - 1) (Cm.memS2 p s) := by
  obtain ⟨n, rfl⟩ : ∃ n, k = n + 1 := ⟨k - 1, by omega⟩; rfl
theorem ok127 {p : R → Int → Int} (hp : PickOk p) : FOk (Em p) Try.f127 (sMemD (Cm.memD p)) := FOk.of1 fun (r : R) h => FGA.fg (an := an_memD p r) ((vc127 p r).mpr (by
  obtain ⟨h1, h2, h3⟩ := (show rdOk r 137438953472 from h)
  have q : ∀ n m : Int, 0 ≤ n → n ≤ m → rdOk (r.1, n) m := fun n m a b => ⟨h1, a, b⟩
  have b0 := hp r 26 ⟨h1, h2, by omega⟩ (by omega)
  simp only [ifb_iff, imp_self, true_and, and_true, Cm.inc]
  refine ⟨⟨h1, h2, by omega⟩, ⟨((p r 26).toNat, (r.1, r.2 + 1), Cm.memNew 6), ⟨⟨by dsimp only; omega, shp_new⟩, q _ _ (by omega) (by dsimp only; omega), rfl⟩, Int.toNat_of_nonneg b0.1, rfl, rfl, rfl⟩, ?_⟩
  rintro ⟨k, s, m⟩ ⟨⟨i1, i2⟩, ⟨j1, j2, j3⟩, i4⟩
  dsimp only at i1 i2 j1 j2 j3 i4 ⊢
  have qs : ∀ n m : Int, 0 ≤ n → n ≤ m → rdOk (s.1, n) m := fun n m a b => ⟨j1, a, b⟩
  have hs : ∀ m : Int, s.2 ≤ m → rdOk s m := fun m b => ⟨j1, j2, b⟩
  refine ⟨fun hk => ?_, fun hk => ⟨hs _ (by omega), ?_, ?_⟩⟩
  · have hk : 0 < k := by have := of_decide_eq_true hk; omega
    rw [memGo1_pos _ hk] at i4
    have c6 := hp s 6 (hs _ (by omega)) (by omega)
    have c4 := hp (s.1, s.2 + 1) 4 (qs _ _ (by omega) (by omega)) (by omega)
    have hl := i2.1
    have hr := i2.2 (p s 6).toNat (by omega)
    have hw : IntKind.wrap .i64 ((k : Int) - 1) = ((k - 1 : Nat) : Int) := by rw [Cm.wrap_id (by omega) (by omega)]; omega
    rw [hr, hl]
    refine ⟨hs _ (by omega), by omega, qs _ _ (by omega) (by omega), qs _ _ (by omega) (by omega), by omega, (k - 1, Cm.memS1 p (s, m)), ⟨⟨⟨by dsimp only; omega, shp_set i2 _ fun _ => by simp only [List.length_set]; exact hr⟩, ⟨j1, ?_, ?_⟩, i4⟩, by dsimp only; omega⟩, hw.symm, rfl, rfl, rfl⟩
    · show 0 ≤ s.2 + 1 + 1 + 1 + 1; omega
    · show s.2 + 1 + 1 + 1 + 1 ≤ _; dsimp only; omega
  · have hk : k = 0 := by have := of_decide_eq_false hk; omega
    subst hk
    have i4 : Cm.memA p r = (s, m) := i4
    have b1 := hp s 7 (hs _ (by omega)) (by omega)
    refine ⟨((p s 7).toNat, (s.1, s.2 + 1), m), ⟨⟨by dsimp only; omega, i2⟩, qs _ _ (by omega) (by dsimp only; omega), ?_⟩, Int.toNat_of_nonneg b1.1, rfl, rfl, rfl⟩
    unfold Cm.memD; rw [i4]; rfl
  · rintro ⟨k, s, m⟩ ⟨⟨i1, i2⟩, ⟨j1, j2, j3⟩, i4⟩
    dsimp only at i1 i2 j1 j2 j3 i4 ⊢
    have qs : ∀ n m : Int, 0 ≤ n → n ≤ m → rdOk (s.1, n) m := fun n m a b => ⟨j1, a, b⟩
    have hs : ∀ m : Int, s.2 ≤ m → rdOk s m := fun m b => ⟨j1, j2, b⟩
    refine ⟨fun hk => ?_, fun hk => ?_⟩
    · have hk : 0 < k := by have := of_decide_eq_true hk; omega
      rw [memGo2_pos _ hk] at i4
      have c6 := hp s 6 (hs _ (by omega)) (by omega)
      have c8 := hp (s.1, s.2 + 1) 8 (qs _ _ (by omega) (by omega)) (by omega)
      have e1 : Int.tdiv (p s 6) 4 = p s 6 / 4 := Int.tdiv_eq_ediv_of_nonneg (by omega)
      have e2 : Int.tmod (p s 6) 4 = p s 6 % 4 := Int.tmod_eq_emod_of_nonneg (by omega)
      have w1 : IntKind.wrap .i64 (p s 6 / 4) = p s 6 / 4 := Cm.wrap_id (by omega) (by omega)
      have w2 : IntKind.wrap .i64 (5 + p (s.1, s.2 + 1) 8) = 5 + p (s.1, s.2 + 1) 8 := Cm.wrap_id (by omega) (by omega)
      have hl := i2.1
      have hr := i2.2 (p s 6 / 4).toNat (by omega)
      have hw : IntKind.wrap .i64 ((k : Int) - 1) = ((k - 1 : Nat) : Int) := by rw [Cm.wrap_id (by omega) (by omega)]; omega
      rw [e1, e2, w1, w2, hr, hl]
      refine ⟨hs _ (by omega), by decide, by omega, by decide, qs _ _ (by omega) (by omega), by omega, (k - 1, Cm.memS2 p (s, m)), ⟨⟨⟨by dsimp only; omega, shp_set i2 _ fun _ => by simp only [List.length_set]; exact hr⟩, ⟨j1, ?_, ?_⟩, i4⟩, by dsimp only; omega⟩, hw.symm, rfl, rfl, rfl⟩
      · show 0 ≤ s.2 + 1 + 1; omega
      · show s.2 + 1 + 1 ≤ _; dsimp only; omega
    · have hk : k = 0 := by have := of_decide_eq_false hk; omega
      subst hk
      rw [i4]; exact ⟨rfl, rfl⟩))
/-- What is asked of drawn memory. -/
def MemDOk (P : Cm.Mm → Prop) (n : Int) (mf : R → R × Cm.Mm) : Prop := ∀ r, rdOk r 137438953472 → ((mf r).1.1 = r.1 ∧ r.2 ≤ (mf r).1.2 ∧ (mf r).1.2 ≤ r.2 + n) ∧ P (mf r).2
theorem memGo1_good {p : R → Int → Int} : ∀ (n : Nat) (s : R × Cm.Mm), Cm.shp s.2 → ((Cm.memGo1 p n s).1.1 = s.1.1 ∧ s.1.2 ≤ (Cm.memGo1 p n s).1.2 ∧ (Cm.memGo1 p n s).1.2 ≤ s.1.2 + 4 * n) ∧ Cm.shp (Cm.memGo1 p n s).2
  | 0, s, h => by simp [Cm.memGo1, h]
  | n + 1, s, h => by
    have hs : Cm.shp (Cm.memS1 p s).2 := shp_set h _ fun hi => by simp only [List.length_set]; exact h.2 _ hi
    obtain ⟨⟨h1, h2, h3⟩, h4⟩ := memGo1_good (p := p) n (Cm.memS1 p s) hs
    have e1 : (Cm.memS1 p s).1.1 = s.1.1 := rfl
    have e2 : (Cm.memS1 p s).1.2 = s.1.2 + 1 + 1 + 1 + 1 := rfl
    rw [Cm.memGo1]
    exact ⟨⟨by rw [h1, e1], by omega, by omega⟩, h4⟩
theorem memGo2_good {p : R → Int → Int} : ∀ (n : Nat) (s : R × Cm.Mm), Cm.shp s.2 → ((Cm.memGo2 p n s).1.1 = s.1.1 ∧ s.1.2 ≤ (Cm.memGo2 p n s).1.2 ∧ (Cm.memGo2 p n s).1.2 ≤ s.1.2 + 4 * n) ∧ Cm.shp (Cm.memGo2 p n s).2
  | 0, s, h => by simp [Cm.memGo2, h]
  | n + 1, s, h => by
    have hs : Cm.shp (Cm.memS2 p s).2 := shp_set h _ fun hi => by simp only [List.length_set]; exact h.2 _ hi
    obtain ⟨⟨h1, h2, h3⟩, h4⟩ := memGo2_good (p := p) n (Cm.memS2 p s) hs
    have e1 : (Cm.memS2 p s).1.1 = s.1.1 := rfl
    have e2 : (Cm.memS2 p s).1.2 = s.1.2 + 1 + 1 := rfl
    rw [Cm.memGo2]
    exact ⟨⟨by rw [h1, e1], by omega, by omega⟩, h4⟩
theorem memD_good {p : R → Int → Int} (hp : PickOk p) : MemDOk Cm.shp 140 (Cm.memD p) := fun r hr => by
  obtain ⟨g1, g2, g3⟩ := hr
  have b0 := hp r 26 ⟨g1, g2, by omega⟩ (by omega)
  obtain ⟨⟨h1, h2, h3⟩, h4⟩ := memGo1_good (p := p) (p r 26).toNat ((r.1, Cm.inc r.2), Cm.memNew 6) shp_new
  rw [show Cm.memGo1 p (p r 26).toNat ((r.1, Cm.inc r.2), Cm.memNew 6) = Cm.memA p r from rfl] at h1 h2 h3 h4
  simp only [Cm.inc] at h1 h2 h3
  have b1 := hp (Cm.memA p r).1 7 ⟨h1 ▸ g1, by omega, by omega⟩ (by omega)
  obtain ⟨⟨h5, h6, h7⟩, h8⟩ := memGo2_good (p := p) (p (Cm.memA p r).1 7).toNat (((Cm.memA p r).1.1, Cm.inc (Cm.memA p r).1.2), (Cm.memA p r).2) h4
  rw [show Cm.memGo2 p (p (Cm.memA p r).1 7).toNat (((Cm.memA p r).1.1, Cm.inc (Cm.memA p r).1.2), (Cm.memA p r).2) = Cm.memD p r from rfl] at h5 h6 h7 h8
  simp only [Cm.inc] at h5 h6 h7
  exact ⟨⟨by rw [h5, h1], by omega, by omega⟩, h8⟩
theorem shpW_of {m : Cm.Mm} (h : Cm.shp m) : Cm.shpW m := ⟨by have := h.1; omega, fun i hi => by rw [h.2 i (by have := h.1; omega)]; omega⟩
theorem shpW_bd {m : Cm.Mm} (h : Cm.shpW m) : Cm.bd m := ⟨by have := h.1; omega, fun i hi => by have := h.2 i hi; omega⟩
theorem shpW_set {m : Cm.Mm} (h : Cm.shp m) (i : Nat) {q : Cm.Pg} (hq : q.length ≤ 4) : Cm.shpW (m.set i q) := by
  refine ⟨by have := h.1; simp; omega, fun j hj => ?_⟩
  have hj : j < m.length := by simpa using hj
  have h1 := h.1
  have h2 := h.2 j (by omega)
  simp only [List.getD_eq_getElem?_getD, List.getElem?_set] at h2 ⊢
  split
  · rename_i e; subst e
    rw [if_pos hj]; exact hq
  · rw [h2]; omega
theorem off_ex {p : R → Int → Int} {mf : R → R × Cm.Mm} (hp : PickOk p) (hm : MemDOk Cm.shp 140 mf) (r : R) (h : rdOk r 137438953472) :
    ∃ X : R × Cm.Mm, FGA (Eo p mf) Try.f79 (sMemD fun _ => X) [⟨kR, r⟩] no ∧ (X.1.1 = r.1 ∧ r.2 ≤ X.1.2 ∧ X.1.2 ≤ r.2 + 150) ∧ Cm.shpW X.2 := by
  obtain ⟨⟨g1, g2, g3⟩, g4⟩ := hm r h
  have hr := h
  obtain ⟨h1, h2, h3⟩ := h
  obtain ⟨s, hs⟩ : ∃ s, mf r = s := ⟨_, rfl⟩
  simp only [vc79]
  rw [hs] at g1 g2 g3 g4 ⊢
  have q : ∀ n m : Int, 0 ≤ n → n ≤ m → rdOk (s.1.1, n) m := fun n m a b => ⟨g1 ▸ h1, a, b⟩
  have qs : rdOk s.1 1099511627776 := ⟨g1 ▸ h1, by omega, by omega⟩
  have hl := g4.1
  have b1 := hp s.1 20 qs (by omega)
  have b2 := hp (s.1.1, s.1.2 + 1) 6 (q _ _ (by omega) (by omega)) (by omega)
  have b3 := hp (s.1.1, s.1.2 + 1 + 1) 2 (q _ _ (by omega) (by omega)) (by omega)
  simp only [Cm.inc, hl]
  have hl' : ((6 : Nat) : Int) = 6 := rfl
  rw [hl']
  rcases bb (p s.1 20 == 0) with e0 | e0
  · rcases bb (p s.1 20 == 1) with e1 | e1
    · rcases bb (p s.1 20 == 2) with e2 | e2
      · simp only [e0, e1, e2, ifb]
        exact ⟨((s.1.1, s.1.2 + 1), s.2), ⟨hr, qs, rfl, rfl, trivial⟩, ⟨g1, by dsimp only; omega, by dsimp only; omega⟩, shpW_of g4⟩
      · simp only [e0, e1, e2, ifb]
        have hrow := g4.2 (p (s.1.1, s.1.2 + 1) 6).toNat (by omega)
        rw [hrow]
        exact ⟨((_, _), _), ⟨hr, qs, q _ _ (by omega) (by omega), by omega, q _ _ (by omega) (by omega), ⟨by omega, by show _ < ((2 : Nat) : Int); omega⟩, by decide, rfl, rfl, trivial⟩, ⟨g1, by dsimp only; omega, by dsimp only; omega⟩, shpW_set g4 _ (by simp only [List.length_set]; omega)⟩
    · simp only [e0, e1, ifb]
      exact ⟨((_, _), _), ⟨hr, qs, q _ _ (by omega) (by omega), by omega, rfl, rfl, trivial⟩, ⟨g1, by dsimp only; omega, by dsimp only; omega⟩, shpW_set g4 _ (by decide)⟩
  · simp only [e0, ifb]
    refine ⟨((s.1.1, s.1.2 + 1), List.drop 1 s.2), ⟨hr, qs, by decide, ⟨by decide, trivial⟩, rfl, rfl, trivial⟩, ⟨g1, by dsimp only; omega, by dsimp only; omega⟩, by simp; omega, fun i hi => ?_⟩
    have hi : i < 5 := by simpa [hl] using hi
    have := g4.2 (i + 1) (by omega)
    simp only [List.getD_eq_getElem?_getD, List.getElem?_drop] at this ⊢
    rw [Nat.add_comm 1 i, this]; omega
open Classical in
noncomputable def offF (p : R → Int → Int) (mf : R → R × Cm.Mm) (r : R) : R × Cm.Mm := if h : PickOk p ∧ MemDOk Cm.shp 140 mf ∧ rdOk r 137438953472 then (off_ex h.1 h.2.1 r h.2.2).choose else (r, [])
theorem offF_ok {p : R → Int → Int} {mf : R → R × Cm.Mm} (hp : PickOk p) (hm : MemDOk Cm.shp 140 mf) {r : R} (h : rdOk r 137438953472) :
    FGA (Eo p mf) Try.f79 (sMemD fun _ => offF p mf r) [⟨kR, r⟩] no ∧ ((offF p mf r).1.1 = r.1 ∧ r.2 ≤ (offF p mf r).1.2 ∧ (offF p mf r).1.2 ≤ r.2 + 150) ∧ Cm.shpW (offF p mf r).2 := by
  unfold offF; rw [dif_pos ⟨hp, hm, h⟩]; exact (off_ex hp hm r h).choose_spec
theorem ok79 {p : R → Int → Int} {mf : R → R × Cm.Mm} (hp : PickOk p) (hm : MemDOk Cm.shp 140 mf) : FOk (Eo p mf) Try.f79 (sMemD (offF p mf)) :=
  FOk.of1 fun (r : R) h => FGA.fg (an := no) (((vc79 p mf (offF p mf) r).trans (vc79 p mf (fun _ => offF p mf r) r).symm).mpr (offF_ok hp hm h).1)
theorem off_good {p : R → Int → Int} {mf : R → R × Cm.Mm} (hp : PickOk p) (hm : MemDOk Cm.shp 140 mf) : MemDOk Cm.shpW 150 (offF p mf) := fun _ h => (offF_ok hp hm h).2
def flatD (act : R → Int → R × Cm.A) (mf : R → R × Cm.Mm) (b : List Int) : Cm.Mm × Cm.A := ((mf (Cm.cut2 b, 0)).2, (act (mf (Cm.cut2 b, 0)).1 2).2)
theorem ok31 {act : R → Int → R × Cm.A} {mf : R → R × Cm.Mm} (hm : MemDOk Cm.shpW 150 mf) : FOk (Ed act mf) Try.f31 (sDrawFlat (flatD act mf)) :=
  FOk.of1 fun (b : List Int) h => FGA.fg (an := no) ((vc31 act mf (flatD act mf) b).mpr (by
    have h0 : rdOk (Cm.cut2 b, 0) 137438953472 := cut2_ok h (by decide)
    obtain ⟨⟨g1, g2, g3⟩, _⟩ := hm _ h0
    dsimp only at g1 g2 g3
    have hb := h0.1
    dsimp only at hb
    rw [← g1] at hb
    exact ⟨trivial, h0, ⟨⟨hb, by omega, by omega⟩, by decide, by decide⟩, rfl, rfl, trivial⟩))
theorem ok8 {D : List Int → Cm.Mm × Cm.A} (hD : ∀ b, Cm.bytes b → Cm.bd (D b).1) : FOk (E8 D) Try.f8 sLawB := FOk.of1 fun (b : List Int) hb => FGA.fg (an := no) ((vc8 D b).mpr (by
  have hn := hD b hb
  have hb : Cm.bytes b := hb
  have hd := fDo_bd hn (D b).2
  generalize (D b).1 = m at hn hd ⊢
  generalize (D b).2 = a at hd ⊢
  simp only [ifb_iff, hb, hn, hd, Cm.eqM_refl, beq_iff_eq, beq_eq_false_iff_ne, ne_eq]
  refine ⟨fun _ => ⟨by trivial, trivial⟩, fun _ => ⟨trivial, trivial, trivial, by simp, by simp, by simp, by simp, by simp, fun h => by simp at h, fun _ => ?_⟩⟩
  unfold Cm.fDo
  refine ⟨fun h => by simp [h, Cm.eqM_refl, hn], fun h1 => ⟨fun h => ?_, fun h2 => ⟨fun h => by simp [h, Cm.eqM_refl, hn], fun h3 => ⟨fun h => ?_, fun h4 => by simp [h1, h2, h3, h4, Cm.eqM_refl, hn]⟩⟩⟩⟩
  · unfold Cm.fDo at hd; simp [h] at hd; simp [h, Cm.eqM_refl, hd]
  · unfold Cm.fDo at hd; simp [h] at hd; simp [h, Cm.eqM_refl, hd]))
noncomputable def memF (r : R) : R × Cm.Mm := offF pickF (Cm.memD pickF) r
theorem memF_good : MemDOk Cm.shpW 150 memF := off_good pickF_good (memD_good pickF_good)
noncomputable def flatF (b : List Int) : Cm.Mm × Cm.A := flatD (actF pickF) memF b
theorem flatF_good (b : List Int) (h : Cm.bytes b) : Cm.bd (flatF b).1 := shpW_bd (memF_good _ (cut2_ok h (by decide))).2
theorem kn_127 : Known Try.prog 127 (sMemD (Cm.memD pickF)) := known_of tabOk (AllK.cons (AllK.cons (AllK.cons kn0 kn_128) kn_105) kn_spec_MemNew) mixed Try.func127 (by kernel_rfl) (ok127 pickF_good)
theorem kn_79 : Known Try.prog 79 (sMemD memF) := known_of tabOk (AllK.cons (AllK.cons kn0 kn_127) kn_105) mixed Try.func79 (by kernel_rfl) (ok79 pickF_good (memD_good pickF_good))
theorem kn_31 : Known Try.prog 31 (sDrawFlat flatF) := known_of tabOk (AllK.cons (AllK.cons (AllK.cons kn0 kn_80) kn_79) kn_69) mixed Try.func31 (by kernel_rfl) (ok31 memF_good)
theorem kn_8 : Known Try.prog 8 sLawB := known_of tabOk (AllK.cons (AllK.cons (AllK.cons (AllK.cons (AllK.cons (AllK.cons (AllK.cons (AllK.cons kn0 kn_impl_FlatWriteIn) kn_impl_FlatReadIn) kn_impl_FlatWrite) kn_impl_FlatRead) kn_laws_lkMem) kn_31) kn_impl_FlatDo) kn_spec_FlatDo) mixed Try.func8 (by kernel_rfl) (ok8 flatF_good)
end Go.Proofs.Ytcfmelkegjpciaa.T

open Go Go.Am Go.Proofs
open Go.Cm (R rdOk)
namespace Go.Proofs.Ytcfmelkegjpciaa.T
set_option maxRecDepth 10000
theorem ok_laws_markActS : FOk E_laws_markActS Try.f48 sMarkA := FOk.of2 fun (a : List Cm.A) (k : Int) hn => FGA.fg ((vc_laws_markActS a k).mpr (by
  obtain ⟨hn, hk⟩ := (show a.length ≤ 1048576 ∧ 0 ≤ k ∧ k ≤ 1048576 from hn)
  simp only [ifb_iff, imp_self, true_and, and_true, implies_true, Cm.modAt_len, List.length_append, Cm.markA_len, List.length_drop, List.length_take]
  refine ⟨⟨0, by omega, ⟨by omega, rfl⟩, rfl⟩, fun i h1 => ⟨fun hl => ?_, fun hl => ?_⟩⟩
  · have hl := lt_of hl
    have hl' : i < a.length := by omega
    have hml : (Cm.markA (a.take i) k).length = i := by rw [Cm.markA_len, List.length_take]; omega
    have w1 : IntKind.wrap .i64 (k + 5 * (i : Int) + 1) = k + 5 * (i : Int) + 1 := Cm.wrap_id (by omega) (by omega)
    have w2 : IntKind.wrap .i64 (k + 5 * (i : Int) + 1 + 1) = k + 5 * (i : Int) + 1 + 1 := Cm.wrap_id (by omega) (by omega)
    have w3 : IntKind.wrap .i64 (k + 5 * (i : Int) + 1 + 1 + 1) = k + 5 * (i : Int) + 1 + 1 + 1 := Cm.wrap_id (by omega) (by omega)
    have w4 : IntKind.wrap .i64 (k + 5 * (i : Int) + 1 + 1 + 1 + 1) = k + 5 * (i : Int) + 1 + 1 + 1 + 1 := Cm.wrap_id (by omega) (by omega)
    have w5 : IntKind.wrap .i64 (k + 5 * (i : Int) + 1 + 1 + 1 + 1 + 1) = k + 5 * (i : Int) + 1 + 1 + 1 + 1 + 1 := Cm.wrap_id (by omega) (by omega)
    simp only [w1, w2, w3, w4, w5]
    rw [Cm.drop_getD Cm.a0 hl']
    simp only [Cm.modAt_mid _ _ _ hml]
    refine ⟨by omega, by omega, by omega, by omega, by omega, i + 1, by omega, ⟨by omega, (wsucc (by omega)).symm⟩, ?_⟩
    have hti : (a.take i).length = i := by rw [List.length_take]; omega
    rw [Cm.take_succ_getD Cm.a0 hl', Cm.markA_snoc, hti, List.append_assoc]
    simp only [Int.add_assoc]; rfl
  · have hl := ge_of hl
    have e : i = a.length := by omega
    subst e; simp))
theorem ok_impl_MemNew : FOk E_impl_MemNew Try.f53 sMemNew6 := FOk.of1 fun (n : Int) hn => FGA.fg ((vc_impl_MemNew n).mpr (by
  have hn : n = 6 := hn
  subst hn
  simp only [ifb_iff, imp_self, true_and, and_true, implies_true]
  refine ⟨⟨0, by omega, ⟨by decide, rfl⟩, rfl⟩, fun i h1 => ⟨fun hl => ?_, fun hl => ⟨fun h => ?_, fun _ => ?_⟩⟩⟩
  · have hl : (i : Int) < 6 := by simpa using hl
    refine ⟨by decide, ?_, i + 1, by omega, (wsucc (by omega)).symm, ?_⟩
    · rw [List.length_replicate]; omega
    · exact List.replicate_succ'
  · rw [List.length_replicate] at h; simp at h; omega
  · have hl : ¬ (i : Int) < 6 := by simpa using hl
    have e : i = 6 := by omega
    subst e; rfl))
theorem new_bd : Cm.bd (Cm.memNew 6) := shpW_bd (shpW_of shp_new)
theorem plays_bd (g : Int) : ∀ (l : List Cm.A) (s : Cm.Pg × Cm.Mm), Cm.bd s.2 → Cm.bd (Cm.plays g l s).2
  | [], _, h => h
  | a :: l, s, h => by
    rw [Cm.plays]; split
    · exact plays_bd g l _ (fDo_bd h a)
    · exact plays_bd g l s h
theorem fPlay_bd (l : List Cm.A) (g : Int) : Cm.bd (Cm.fPlay l g).2 := by
  unfold Cm.fPlay; split
  · exact new_bd
  · exact plays_bd g l _ new_bd
theorem fPlay_len (l : List Cm.A) (g : Int) : (Cm.fPlay l g).1.length ≤ 60 := by
  unfold Cm.fPlay; split
  · simp
  · have := Cm.plays_len g l ([], Cm.memNew 6); simp at this; omega
theorem ok_spec_FlatPlay : FOk E_spec_FlatPlay Try.f45 sFPlay := FOk.of2 fun (l : List Cm.A) (g : Int) hn => FGA.fg ((vc_spec_FlatPlay l g).mpr (by
  have hn : l.length ≤ 16777216 := hn
  simp only [ifb_iff, imp_self, true_and, and_true, implies_true]
  refine ⟨fun h => ?_, fun h => ?_⟩
  · have h : l.length > 60 := by have := of_decide_eq_true h; omega
    unfold Cm.fPlay; rw [if_pos h]; exact ⟨rfl, rfl⟩
  · have h : ¬ l.length > 60 := by have := of_decide_eq_false h; omega
    refine ⟨⟨(0, [], Cm.memNew 6), ⟨⟨by omega, by simp, new_bd⟩, rfl⟩, rfl, rfl, rfl⟩, ?_⟩
    rintro ⟨i, o, m⟩ ⟨⟨h1, h2, h3⟩, h4⟩
    dsimp only at h1 h2 h3 h4 ⊢
    refine ⟨fun hl => ?_, fun hl => ?_⟩
    · have hl := lt_of hl
      have hd := Cm.drop_getD Cm.a0 hl
      generalize l.getD i Cm.a0 = x at hd ⊢
      rw [hd, Cm.plays] at h4
      refine ⟨by omega, fun _ => by omega, fun c => ?_, fun c => ?_⟩
      · rw [Bool.and_eq_true, beq_iff_eq] at c
        rw [if_pos ((Cm.ofGuest_iff x g).mpr c)] at h4
        exact ⟨by omega, h3, by omega, (i + 1, o ++ [(Cm.fDo m x).2], (Cm.fDo m x).1), ⟨⟨⟨by omega, by simp; omega, fDo_bd h3 x⟩, h4⟩, by dsimp only; omega⟩, (wsucc (by omega)).symm, rfl, rfl⟩
      · have c : ¬ (x.2.1 = g ∧ Cm.own x = true) := by
          intro h; rw [beq_iff_eq.mpr h.1, h.2] at c; cases c
        rw [if_neg (fun h => c ((Cm.ofGuest_iff x g).mp h))] at h4
        exact ⟨(i + 1, o, m), ⟨⟨⟨by omega, by dsimp only; omega, h3⟩, h4⟩, by dsimp only; omega⟩, (wsucc (by omega)).symm, rfl, rfl⟩
    · have hl := ge_of hl
      rw [List.drop_of_length_le hl] at h4
      unfold Cm.fPlay; rw [if_neg h, h4]; exact ⟨rfl, rfl⟩))
theorem ok_impl_FlatPlay : FOk E_impl_FlatPlay Try.f46 sFPlay := FOk.of2 fun (l : List Cm.A) (g : Int) hn => FGA.fg ((vc_impl_FlatPlay l g).mpr (by
  have hn : l.length ≤ 16777216 := hn
  simp only [ifb_iff, imp_self, true_and, and_true, implies_true]
  refine ⟨fun h => ?_, fun h => ?_⟩
  · have h : l.length > 60 := by have := of_decide_eq_true h; omega
    unfold Cm.fPlay; rw [if_pos h]; exact ⟨rfl, rfl⟩
  · have h : ¬ l.length > 60 := by have := of_decide_eq_false h; omega
    refine ⟨⟨(0, [], Cm.memNew 6), ⟨⟨by omega, by simp, new_bd⟩, rfl⟩, rfl, rfl, rfl⟩, ?_⟩
    rintro ⟨i, o, m⟩ ⟨⟨h1, h2, h3⟩, h4⟩
    dsimp only at h1 h2 h3 h4 ⊢
    refine ⟨fun hl => ?_, fun hl => ?_⟩
    · have hl := lt_of hl
      have hd := Cm.drop_getD Cm.a0 hl
      generalize l.getD i Cm.a0 = x at hd ⊢
      rw [hd, Cm.plays] at h4
      refine ⟨by omega, fun c => ?_, fun c => ?_⟩
      · rw [if_pos c] at h4
        exact ⟨h3, by omega, (i + 1, o ++ [(Cm.fDo m x).2], (Cm.fDo m x).1), ⟨⟨⟨by omega, by simp; omega, fDo_bd h3 x⟩, h4⟩, by dsimp only; omega⟩, (wsucc (by omega)).symm, rfl, rfl⟩
      · rw [if_neg (by rw [c]; simp)] at h4
        exact ⟨(i + 1, o, m), ⟨⟨⟨by omega, by dsimp only; omega, h3⟩, h4⟩, by dsimp only; omega⟩, (wsucc (by omega)).symm, rfl, rfl⟩
    · have hl := ge_of hl
      rw [List.drop_of_length_le hl] at h4
      unfold Cm.fPlay; rw [if_neg h, h4]; exact ⟨rfl, rfl⟩))
theorem eqI_refl (a : Cm.Pg) : Cm.eqI a a = true := by unfold Cm.eqI; simp
theorem heldI_up (k : Int) (n : Nat) : Cm.heldI (Cm.upFrom k n) k = k + n := by unfold Cm.heldI; rw [Cm.upFrom_len, if_pos rfl]
theorem ok_laws_FnExactFlatPlay : FOk E_laws_FnExactFlatPlay Try.f10 sLawAI := FOk.of2 fun (l : List Cm.A) (g : Int) hn => FGA.fg ((vc_laws_FnExactFlatPlay l g).mpr (by
  have hn : l.length ≤ 9223372036854775807 := hn
  simp only [ifb_iff]
  refine ⟨trivial, fun _ => ⟨by trivial, trivial⟩, fun h => ?_⟩
  have h : ¬ Cm.szL l 1048576 < 0 := by simpa using h
  have hb : l.length ≤ 1048576 := by
    rw [Cm.szL_eq ⟨by decide, by decide⟩ hn] at h
    split at h <;> omega
  have b1 : l.length ≤ 16777216 := by omega
  have f1 := fPlay_len l g
  have f2 := fPlay_bd l g
  generalize hq : Cm.fPlay l g = q at f1 f2 ⊢
  have f3 : q.1.length ≤ 1048576 := by omega
  have f4 := Cm.markM_bd f2 (1 + (q.1.length : Int))
  have c2 := Cm.cnt_nn q.2
  have n1 : ¬ 1 + 5 * (l.length : Int) < 0 := by omega
  have n2 : ¬ 1 + (q.1.length : Int) < 0 := by omega
  have n3 : 0 ≤ 1 + (q.1.length : Int) := by omega
  have n4 : 1 + (q.1.length : Int) ≤ 1099511627776 := by omega
  have n5 : ¬ 1 + (q.1.length : Int) + Cm.cnt q.2 < 0 := by omega
  simp [hb, b1, f2, f3, f4, n1, n2, n3, n4, n5, eqI_refl, Cm.eqM_refl, Cm.eqL_refl Cm.eqA_refl, heldI_up, Cm.heldM_mark, Cm.upFrom_len]))
/-- Drawn acts and a guest. -/
def PlaysOk (pl : R → R × Int × List Cm.A) : Prop := ∀ r, rdOk r 137438953472 → ((pl r).1.1 = r.1 ∧ r.2 ≤ (pl r).1.2 ∧ (pl r).1.2 ≤ r.2 + 1200) ∧ (pl r).2.2.length ≤ 60
theorem fp_ex {p : R → Int → Int} {pl : R → R × Int × List Cm.A} (hp : PlaysOk pl) (b : List Int) (hb : Cm.bytes b) :
    ∃ X : List Cm.A × Int, FGA (Efp p pl) Try.f51 (sDrawFP fun _ => X) [⟨kU, b⟩] (one (an_drawFP pl (Cm.cut2 b, 0))) ∧ X.1.length ≤ 61 := by
  have h0 : rdOk (Cm.cut2 b, 0) 137438953472 := cut2_ok hb (by decide)
  obtain ⟨⟨g1, g2, g3⟩, g4⟩ := hp _ h0
  simp only [vc51]
  generalize hs : pl (Cm.cut2 b, 0) = s at g1 g2 g3 g4 ⊢
  dsimp only at g1 g2 g3
  have hc := h0.1
  dsimp only at hc
  rw [← g1] at hc
  have q : ∀ n m : Int, 0 ≤ n → n ≤ m → rdOk (s.1.1, n) m := fun n m a b => ⟨hc, a, b⟩
  have qs : rdOk s.1 1099511627776 := ⟨hc, by omega, by omega⟩
  simp only [Cm.inc]
  rcases bb (p s.1 40 == 0) with e | e
  · simp only [e, ifb]
    exact ⟨(s.2.2, _), ⟨trivial, h0, qs, q _ _ (by omega) (by omega), q _ _ (by omega) (by omega), by decide, rfl, rfl, trivial⟩, by dsimp only; omega⟩
  · simp only [e, ifb_iff, imp_self, true_and, and_true]
    refine ⟨(Cm.padA s.2.2, _), ⟨h0, qs, fun _ => ⟨⟨s.2.2, ⟨by omega, rfl⟩, rfl⟩, fun a ⟨h1, h2⟩ => ⟨fun hl => ⟨by omega, a ++ [(7, 0, 0, 0, 0)], ⟨⟨?_, ?_⟩, ?_⟩, rfl⟩, fun hl => ⟨q _ _ (by omega) (by omega), q _ _ (by omega) (by omega), by decide, ?_, rfl⟩⟩⟩, fun h => by cases h⟩, ?_⟩
    · have := of_decide_eq_true hl; simp; omega
    · have := of_decide_eq_true hl
      rw [h2]; unfold Cm.padA
      have e2 : 61 - a.length = (61 - (a ++ [((7 : Int), (0 : Int), (0 : Int), (0 : Int), (0 : Int))]).length) + 1 := by simp; omega
      rw [e2, List.replicate_succ, List.append_assoc]; rfl
    · have := of_decide_eq_true hl; simp; omega
    · have := of_decide_eq_false hl
      show a = Cm.padA s.2.2
      rw [h2]; unfold Cm.padA; rw [show 61 - a.length = 0 by omega]; simp
    · unfold Cm.padA; simp; omega
open Classical in
noncomputable def fpF (p : R → Int → Int) (pl : R → R × Int × List Cm.A) (b : List Int) : List Cm.A × Int := if h : PlaysOk pl ∧ Cm.bytes b then (fp_ex (p := p) h.1 b h.2).choose else ([], 0)
theorem fpF_ok {p : R → Int → Int} {pl : R → R × Int × List Cm.A} (hp : PlaysOk pl) {b : List Int} (hb : Cm.bytes b) :
    FGA (Efp p pl) Try.f51 (sDrawFP fun _ => fpF p pl b) [⟨kU, b⟩] (one (an_drawFP pl (Cm.cut2 b, 0))) ∧ (fpF p pl b).1.length ≤ 61 := by
  unfold fpF; rw [dif_pos ⟨hp, hb⟩]; exact (fp_ex hp b hb).choose_spec
theorem ok51 {p : R → Int → Int} {pl : R → R × Int × List Cm.A} (hp : PlaysOk pl) : FOk (Efp p pl) Try.f51 (sDrawFP (fpF p pl)) :=
  FOk.of1 fun (b : List Int) h => FGA.fg (an := one (an_drawFP pl (Cm.cut2 b, 0))) (((vc51 p pl (fpF p pl) b).trans (vc51 p pl (fun _ => fpF p pl b) b).symm).mpr (fpF_ok hp h).1)
theorem ok11 {D : List Int → List Cm.A × Int} (hD : ∀ b, Cm.bytes b → (D b).1.length ≤ 61) : FOk (E11 D) Try.f11 sLawB := FOk.of1 fun (b : List Int) hb => FGA.fg ((vc11 D b).mpr (by
  have hl := hD b hb
  have hb : Cm.bytes b := hb
  have hlen : (D b).1.length ≤ 16777216 := by omega
  have f1 := fPlay_len (D b).1 (D b).2
  have f2 := fPlay_bd (D b).1 (D b).2
  have f3 : (Cm.fPlay (D b).1 (D b).2).1.length ≤ 1048576 := by omega
  simp only [ifb_iff, hb, hlen, f2, f3, eqI_refl, Cm.eqM_refl, imp_self, implies_true, true_and, and_true, Bool.not_true, Bool.not_false, Bool.false_or]
  refine fun _ => ⟨by simp, fun h => ?_⟩
  have h : ¬ (D b).1.length > 60 := by have := of_decide_eq_false h; omega
  have hrun : Cm.fPlay (D b).1 (D b).2 = Cm.runs (Cm.ownL (Cm.justL (D b).2 (D b).1)) ([], Cm.memNew 6) := by
    unfold Cm.fPlay; rw [if_neg h, Cm.runs_plays]
  generalize Cm.ownL (Cm.justL (D b).2 (D b).1) = mine at hrun ⊢
  have hgl : (Cm.fPlay (D b).1 (D b).2).1.length = mine.length := by rw [hrun, Cm.runs_len]; simp
  generalize Cm.fPlay (D b).1 (D b).2 = q at hrun f1 f2 f3 hgl ⊢
  refine ⟨⟨(0, Cm.memNew 6), ⟨⟨by omega, new_bd⟩, hrun⟩, rfl, rfl⟩, ?_⟩
  rintro ⟨i, m⟩ ⟨⟨h1, h2⟩, h3⟩
  dsimp only at h1 h2 h3 ⊢
  refine ⟨fun hi => ?_, fun hi => ?_⟩
  · have hi := lt_of hi
    have hd := Cm.drop_getD Cm.a0 hi
    generalize mine.getD i Cm.a0 = x at hd ⊢
    rw [hd, Cm.runs] at h3
    have hge : decide ((i : Int) ≥ (q.1.length : Int)) = false := decide_eq_false (by omega)
    obtain ⟨r, hr⟩ := Cm.runs_pre (mine.drop (i + 1)) (q.1.take i ++ [(Cm.fDo m x).2], (Cm.fDo m x).1)
    dsimp only at h3 hr
    rw [← h3] at hr
    have hti : (q.1.take i).length = i := by rw [List.length_take]; omega
    have hg : q.1.getD i 0 = (Cm.fDo m x).2 := by
      rw [hr, List.append_assoc]; exact Cm.getD_mid _ _ hti
    have ht : q.1.take (i + 1) = q.1.take i ++ [(Cm.fDo m x).2] := by rw [Cm.take_succ_getD (0 : Int) (by omega), hg]
    rw [hge, hg]
    refine ⟨by omega, h2, fun _ => by omega, by simp, by simp, fun _ => ⟨(i + 1, (Cm.fDo m x).1), ⟨⟨⟨by omega, fDo_bd h2 x⟩, ?_⟩, by dsimp only; omega⟩, (wsucc (by omega)).symm, rfl⟩⟩
    dsimp only
    rw [ht]; exact h3
  · have hi := ge_of hi
    rw [List.drop_of_length_le hi, List.take_of_length_le (by omega)] at h3
    have e : q.2 = m := by rw [h3]; rfl
    rw [e, Cm.eqM_refl, hgl]
    exact ⟨h2, by simp⟩))
theorem playGo_pos {act : R → Int → R × Cm.A} (ha : ActOk act) {g : Int} (hg : 1 ≤ g ∧ g ≤ 100) (t : Bool) : ∀ (n : Nat) (s : R × List Cm.A), rdOk s.1 (274877906944 - 20 * (n : Int)) →
    (Cm.playGo act g t n s).1.1 = s.1.1 ∧ s.1.2 ≤ (Cm.playGo act g t n s).1.2 ∧ (Cm.playGo act g t n s).1.2 ≤ s.1.2 + 20 * (n : Int)
  | 0, s, _ => by simp [Cm.playGo]
  | n + 1, s, h => by
    rw [Cm.playGo]
    split
    · obtain ⟨h1, h2, h3⟩ := h
      obtain ⟨a1, a2, a3⟩ := ha s.1 g ⟨h1, h2, by omega⟩ hg.1 hg.2
      have hs : (Cm.playStep act g t s).1 = (act s.1 g).1 := rfl
      obtain ⟨b1, b2, b3⟩ := playGo_pos ha hg t n (Cm.playStep act g t s) (by rw [hs]; exact ⟨a1 ▸ h1, by omega, by omega⟩)
      rw [hs] at b1 b2 b3
      exact ⟨by rw [b1, a1], by omega, by omega⟩
    · exact ⟨rfl, by omega, by omega⟩
theorem play_ok {p : R → Int → Int} {act : R → Int → R × Cm.A} {tb : R → Int → R × List Cm.A} (hp : PickOk p) (ha : ActOk act) (ht : TabsOk tb) : PlaysOk (Cm.playM p act tb) := fun r h => by
  refine ⟨?_, play_len ht h⟩
  obtain ⟨h1, h2, h3⟩ := h
  have g0 := hp (r.1, r.2) 2 ⟨h1, h2, by dsimp only; omega⟩ (by omega)
  have hG : 1 ≤ Cm.playG p r ∧ Cm.playG p r ≤ 100 := by show 1 ≤ 1 + p (r.1, r.2) 2 ∧ 1 + p (r.1, r.2) 2 ≤ 100; omega
  have h0 : (Cm.play0 p tb r).1.1 = r.1 ∧ r.2 ≤ (Cm.play0 p tb r).1.2 ∧ (Cm.play0 p tb r).1.2 ≤ r.2 + 23 := by
    unfold Cm.play0
    split
    · obtain ⟨⟨t1, t2, t3⟩, _⟩ := ht (r.1, Cm.inc (Cm.inc (Cm.inc r.2))) (p (r.1, Cm.inc (Cm.inc r.2)) (Cm.playG p r)) ⟨h1, by simp only [Cm.inc]; omega, by simp only [Cm.inc]; omega⟩
      simp only [Cm.inc] at t1 t2 t3 ⊢
      exact ⟨t1, by omega, by omega⟩
    · simp only [Cm.inc]; exact ⟨trivial, by omega, by omega⟩
  obtain ⟨e1, e2, e3⟩ := h0
  have hn := hp ((Cm.play0 p tb r).1.1, Cm.inc (Cm.play0 p tb r).1.2) 52 ⟨e1 ▸ h1, by simp only [Cm.inc]; omega, by simp only [Cm.inc]; omega⟩ (by omega)
  have hN : Cm.playN p tb r ≤ 52 := by show (p _ 52).toNat ≤ 52; omega
  have hst : rdOk ((Cm.play0 p tb r).1.1, Cm.inc (Cm.inc (Cm.play0 p tb r).1.2)) (274877906944 - 20 * (Cm.playN p tb r : Int)) := ⟨e1 ▸ h1, by simp only [Cm.inc]; omega, by simp only [Cm.inc]; omega⟩
  obtain ⟨b1, b2, b3⟩ := playGo_pos ha hG (Cm.playT p tb r) (Cm.playN p tb r) (((Cm.play0 p tb r).1.1, Cm.inc (Cm.inc (Cm.play0 p tb r).1.2)), (Cm.play0 p tb r).2) hst
  simp only [Cm.inc] at b1 b2 b3
  show (Cm.playE p act tb r).1.1 = r.1 ∧ r.2 ≤ (Cm.playE p act tb r).1.2 ∧ (Cm.playE p act tb r).1.2 ≤ r.2 + 1200
  unfold Cm.playE
  simp only [Cm.inc]
  exact ⟨by rw [b1, e1], by omega, by omega⟩
noncomputable def playF : R → R × Int × List Cm.A := Cm.playM pickF (actF pickF) fun r g => Cm.tabGo pickF g 6 0 (r, [])
theorem playF_good : PlaysOk playF := play_ok pickF_good (act_good pickF_good) (tabs_good pickF)
noncomputable def fpD (b : List Int) : List Cm.A × Int := fpF pickF playF b
theorem kn_laws_markActS : Known Try.prog 48 sMarkA := known_of tabOk (kn0) mixed Try.func48 (by kernel_rfl) ok_laws_markActS
theorem kn_impl_MemNew : Known Try.prog 53 sMemNew6 := known_of tabOk (kn0) mixed Try.func53 (by kernel_rfl) ok_impl_MemNew
theorem kn_spec_FlatPlay : Known Try.prog 45 sFPlay := known_of tabOk (AllK.cons (AllK.cons (AllK.cons kn0 kn_104) kn_spec_MemNew) kn_spec_FlatDo) mixed Try.func45 (by kernel_rfl) ok_spec_FlatPlay
theorem kn_impl_FlatPlay : Known Try.prog 46 sFPlay := known_of tabOk (AllK.cons (AllK.cons (AllK.cons kn0 kn_67) kn_impl_MemNew) kn_impl_FlatDo) mixed Try.func46 (by kernel_rfl) ok_impl_FlatPlay
theorem kn_laws_FnExactFlatPlay : Known Try.prog 10 sLawAI := known_of tabOk (AllK.cons (AllK.cons (AllK.cons (AllK.cons (AllK.cons (AllK.cons (AllK.cons (AllK.cons (AllK.cons (AllK.cons (AllK.cons (AllK.cons kn0 kn_laws_heldIntS) kn_laws_markIntS) kn_laws_markActS) kn_laws_eqIntS) kn_impl_FlatPlay) kn_spec_FlatPlay) kn_laws_heldIntSS) kn_laws_markIntSS) kn_laws_eqIntSS) kn_19) kn_17) kn_15) mixed Try.func10 (by kernel_rfl) ok_laws_FnExactFlatPlay
theorem kn_51 : Known Try.prog 51 (sDrawFP fpD) := known_of tabOk (AllK.cons (AllK.cons (AllK.cons kn0 kn_105) kn_70) kn_69) mixed Try.func51 (by kernel_rfl) (ok51 playF_good)
theorem kn_11 : Known Try.prog 11 sLawB := known_of tabOk (AllK.cons (AllK.cons (AllK.cons (AllK.cons (AllK.cons (AllK.cons (AllK.cons (AllK.cons kn0 kn_impl_MemNew) kn_laws_lkInts) kn_51) kn_impl_FlatPlay) kn_spec_FlatPlay) kn_laws_lkMem) kn_impl_FlatDo) kn_21) mixed Try.func11 (by kernel_rfl) (ok11 fun _ hb => (fpF_ok playF_good hb).2)
end Go.Proofs.Ytcfmelkegjpciaa.T

