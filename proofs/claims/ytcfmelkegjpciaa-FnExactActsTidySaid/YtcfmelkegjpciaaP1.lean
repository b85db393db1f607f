/-
  For each function: its contract holds; the conditions stand in the contracts.
-/
import Derived.Test.YtcfmelkegjpciaaV1
open Go Go.Am Go.Proofs
namespace Go.Proofs.Ytcfmelkegjpciaa.T
theorem ok98 : FOk E0 Try.f98 sWithin := FOk.of3 fun (n lo hi : Int) _ => FGA.fg ((vc98 n lo hi).mpr (by simp [Cm.within]))
theorem ok107 : FOk E0 Try.f107 sWithin := FOk.of3 fun (n lo hi : Int) _ => FGA.fg ((vc107 n lo hi).mpr (by simp [Cm.within]))
theorem ok15 : FOk E0 Try.f15 (sSz kA) := FOk.of2 fun (l : List Cm.A) (n : Int) _ => FGA.fg ((vc15 l n).mpr (by
  refine ⟨fun h => ⟨?_, trivial⟩, fun h => ⟨?_, trivial⟩⟩
  · rw [Cm.szL, if_pos (by simpa using h)]
  · rw [Cm.szL, if_neg (by simpa using h)]))
theorem ok26 : FOk E0 Try.f26 sToAct := FOk.of1 fun a _ => FGA.fg ((vc26 a).mpr ⟨rfl, trivial⟩)
theorem ok104 : FOk E1 Try.f104 sOwn := FOk.of1 fun a _ => FGA.fg ((vc104 a).mpr (by simp [Cm.own]))
theorem ok67 : FOk E1 Try.f67 sOfGuest := FOk.of2 fun a g _ => FGA.fg ((vc67 a g).mpr (by simp [Cm.ofGuest]; rfl))
theorem ok68 : FOk E0 Try.f68 sEqA := FOk.of2 fun a b _ => FGA.fg ((vc68 a b).mpr (by
  simp only [Cm.eqA, bne_iff_ne, ne_eq, bne_eq_false_iff_eq, and_true]
  refine ⟨fun h => by simp [h], fun h0 => ⟨fun h => by simp [h], fun h1 => ⟨fun h => by simp [h], fun h2 => ⟨fun h => by simp [h], fun h3 => ⟨fun h => by simp [h], fun h4 => by simp [h0, h1, h2, h3, h4]⟩⟩⟩⟩⟩))
theorem ok66 : FOk E2 Try.f66 sNext := FOk.of3 fun (l : List Cm.A) (i g : Int) hp => FGA.fg ((vc66 l i g).mpr (by
  obtain ⟨hp, hn⟩ := (show (0 ≤ i ∧ i ≤ (l.length : Int)) ∧ l.length ≤ 16777216 from hp)
  refine ⟨⟨i.toNat, ⟨by omega, rfl⟩, ⟨rfl, rfl, by omega⟩, trivial, trivial⟩, fun a ⟨h1, h2⟩ => ⟨fun hlt => ?_, fun hge => ?_⟩⟩
  · have hlt : a < l.length := by simpa using hlt
    have hd := Cm.drop_getD ((0 : Int), (0 : Int), (0 : Int), (0 : Int), (0 : Int)) hlt
    simp only [Int.toNat_natCast]
    generalize l.getD a ((0 : Int), (0 : Int), (0 : Int), (0 : Int), (0 : Int)) = x at hd
    rw [h2, hd]
    have hq : (0 : Int) ≤ (a : Int) ∧ (a : Int) < (l.length : Int) := by omega
    simp only [hq, imp_self, implies_true, and_true, true_and, Cm.next]
    refine ⟨fun h => ?_, fun h => ⟨a + 1, ⟨⟨by omega, ?_⟩, by omega⟩, ?_⟩⟩
    · have h : x.2.1 = g ∧ Cm.own x = true := by simpa using h
      rw [if_pos h]; rfl
    · have h : ¬ (x.2.1 = g ∧ Cm.own x = true) := by simpa using h
      rw [if_neg h]
    · exact (Cm.wrap_id (by omega) (by omega)).symm
  · have hge : ¬ a < l.length := by simpa using hge
    rw [h2, List.drop_of_length_le (by omega)]
    exact ⟨rfl, trivial⟩))
theorem ok16 : FOk E3 Try.f16 sTidy := FOk.of1 fun (l : List Cm.A) hn => FGA.fg ((vc16 l).mpr (by
  have hn : l.length ≤ 16777216 := hn
  refine ⟨⟨0, ⟨by omega, rfl⟩, ⟨rfl, rfl⟩, trivial, trivial⟩, fun a ⟨h1, h2⟩ => ⟨fun hlt => ?_, fun hge => ?_⟩⟩
  · have hlt : a < l.length := by simpa using hlt
    have hd := Cm.drop_getD ((0 : Int), (0 : Int), (0 : Int), (0 : Int), (0 : Int)) hlt
    have hw : IntKind.wrap .i64 ((a : Int) + 1) = ((a + 1 : Nat) : Int) := by rw [Cm.wrap_id (by omega) (by omega)]; omega
    obtain ⟨x, hx⟩ : ∃ x : Cm.A, l.getD a ((0 : Int), (0 : Int), (0 : Int), (0 : Int), (0 : Int)) = x := ⟨_, rfl⟩
    rw [hx] at hd
    simp only [hw, Int.toNat_natCast, hx, and_true, true_and, Int.natCast_inj, exists_eq_right]
    rw [h2, hd]
    have hq : (0 : Int) ≤ (a : Int) ∧ (a : Int) < (l.length : Int) := by omega
    have hr : ((0 : Int) ≤ ((a + 1 : Nat) : Int) ∧ ((a + 1 : Nat) : Int) ≤ (l.length : Int)) ∧ l.length ≤ 16777216 := by omega
    have hr' : ((0 : K.T kI) ≤ ((a + 1 : Nat) : Int) ∧ ((a + 1 : Nat) : Int) ≤ (l.length : Int)) ∧ l.length ≤ 16777216 := hr
    simp only [hq, hr', imp_self, implies_true, and_true, true_and, Cm.tidy]
    refine ⟨fun h => ?_, fun h => ⟨⟨by omega, ?_⟩, by omega⟩⟩
    · have h : (x.1 = 2 ∧ x.2.2.1 < 2) ∧ Cm.next x.2.1 (l.drop (a + 1)) = false := by simpa using h
      rw [if_pos h]
    · have h : ¬ ((x.1 = 2 ∧ x.2.2.1 < 2) ∧ Cm.next x.2.1 (l.drop (a + 1)) = false) := by simpa using h
      rw [if_neg h]
  · have hge : ¬ a < l.length := by simpa using hge
    rw [h2, List.drop_of_length_le (by omega)]
    exact ⟨rfl, trivial⟩))
theorem ok17 : FOk E1 Try.f17 (sTo kA fun l => l.length ≤ 16777216) := FOk.of1 fun (l : List Cm.A) hn => FGA.fg ((vc17 l).mpr (by
  have hn : l.length ≤ 16777216 := hn
  refine ⟨⟨rfl, by omega, ?_⟩, ⟨0, by omega, ⟨rfl, rfl, rfl⟩, by rw [Cm.fill_zero]; simp, trivial⟩, fun a h1 => ⟨fun hlt => ?_, fun hge => ?_⟩⟩
  · show (l.length : Int) * ((40 : Nat) : Int) ≤ _; omega
  · have hlt : a < l.length := by simpa using hlt
    have hw : IntKind.wrap .i64 ((a : Int) + 1) = ((a + 1 : Nat) : Int) := by rw [Cm.wrap_id (by omega) (by omega)]; omega
    refine ⟨by omega, trivial, ?_, a + 1, by omega, ⟨rfl, rfl, by rw [hw]⟩, ?_, trivial⟩
    · rw [Cm.fill_len _ _ h1]; omega
    · rw [Int.toNat_natCast]; exact (Cm.fill_set _ _ l hlt).symm
  · have hge : ¬ a < l.length := by simpa using hge
    exact ⟨Cm.fill_all _ l (by omega), trivial⟩))
theorem ok19 : FOk E1 Try.f19 (sEqL kA Cm.eqA) := FOk.of2 fun (l m : List Cm.A) hn => FGA.fg ((vc19 l m).mpr (by
  have hn : l.length ≤ 16777216 := hn
  refine ⟨fun h => ⟨?_, trivial⟩, fun h => ⟨⟨0, ⟨by omega, rfl⟩, ⟨rfl, rfl, rfl⟩, trivial, trivial⟩, fun a ⟨h1, h2⟩ => ⟨fun hlt => ?_, fun hge => ?_⟩⟩⟩
  · exact (Cm.eqL_ne (by simpa [Int.natCast_inj] using h)).symm
  · have h : l.length = m.length := by simpa [Int.natCast_inj] using h
    have hlt : a < l.length := by simpa using hlt
    have hw : IntKind.wrap .i64 ((a : Int) + 1) = ((a + 1 : Nat) : Int) := by rw [Cm.wrap_id (by omega) (by omega)]; omega
    have hd := Cm.drop_getD ((0 : Int), (0 : Int), (0 : Int), (0 : Int), (0 : Int)) hlt
    have hd' := Cm.drop_getD (l := m) ((0 : Int), (0 : Int), (0 : Int), (0 : Int), (0 : Int)) (h ▸ hlt)
    obtain ⟨x, hx⟩ : ∃ x : Cm.A, l.getD a ((0 : Int), (0 : Int), (0 : Int), (0 : Int), (0 : Int)) = x := ⟨_, rfl⟩
    obtain ⟨y, hy⟩ : ∃ x : Cm.A, m.getD a ((0 : Int), (0 : Int), (0 : Int), (0 : Int), (0 : Int)) = x := ⟨_, rfl⟩
    rw [hx] at hd; rw [hy] at hd'
    simp only [hw, Int.toNat_natCast, hx, hy, and_true, true_and, Int.natCast_inj, exists_eq_right]
    rw [h2, hd, hd']
    refine ⟨by omega, by omega, fun h => ?_, fun h => ⟨⟨by omega, ?_⟩, by omega⟩⟩
    · have h : Cm.eqA x y = false := by simpa using h
      rw [Cm.eqL, h]; rfl
    · have h : Cm.eqA x y = true := by simpa using h
      rw [Cm.eqL, h]; rfl
  · have h : l.length = m.length := by simpa [Int.natCast_inj] using h
    have hge : ¬ a < l.length := by simpa using hge
    rw [h2, List.drop_of_length_le (by omega), List.drop_of_length_le (by omega)]
    exact ⟨rfl, trivial⟩))
theorem ok18 : FOk E2 Try.f18 sTidy := FOk.of1 fun (l : List Cm.A) hn => FGA.fg ((vc18 l).mpr (by
  have hn : l.length ≤ 16777216 := hn
  refine ⟨⟨0, ⟨by omega, rfl⟩, ⟨rfl, rfl, rfl, rfl⟩, trivial, trivial⟩, fun a ⟨h1, h2⟩ => ⟨fun hlt => ?_, fun hge => ?_⟩⟩
  · have hlt : a < l.length := by simpa using hlt
    have hw : IntKind.wrap .i64 ((a : Int) + 1) = ((a + 1 : Nat) : Int) := by rw [Cm.wrap_id (by omega) (by omega)]; omega
    have hd := Cm.drop_getD ((0 : Int), (0 : Int), (0 : Int), (0 : Int), (0 : Int)) hlt
    obtain ⟨x, hx⟩ : ∃ x : Cm.A, l.getD a ((0 : Int), (0 : Int), (0 : Int), (0 : Int), (0 : Int)) = x := ⟨_, rfl⟩
    rw [hx] at hd
    simp only [hw, Int.toNat_natCast, hx, List.take_length, and_true, true_and, Int.natCast_inj, exists_eq_right]
    have hl : (l.drop (a + 1)).length ≤ l.length - (a + 1) := by simp
    have hl' : (l.drop (a + 1)).length ≤ 16777216 := by omega
    have step : (Cm.tidy l = Cm.tidy (l.drop (a + 1))) → (a + 1 ≤ l.length ∧ Cm.tidy l = Cm.tidy (l.drop (a + 1))) ∧ l.length - (a + 1) < l.length - a :=
      fun h => ⟨⟨by omega, h⟩, by omega⟩
    refine ⟨by omega, fun h => h, fun h => h, fun h => by simpa using h, fun h => step ?_, fun h => ⟨by omega, ⟨0, ⟨by omega, rfl⟩, rfl⟩, fun j ⟨h3, h4⟩ => ⟨fun jlt => ?_, fun jge => step ?_⟩⟩⟩
    · rw [h2, hd, Cm.tidy, if_neg]
      intro h'
      simp at h
      omega
    · have jlt : j < (l.drop (a + 1)).length := by simpa using jlt
      have hj : IntKind.wrap .i64 ((j : Int) + 1) = ((j + 1 : Nat) : Int) := by rw [Cm.wrap_id (by omega) (by omega)]; omega
      have he := Cm.drop_getD ((0 : Int), (0 : Int), (0 : Int), (0 : Int), (0 : Int)) jlt
      obtain ⟨y, hy⟩ : ∃ x : Cm.A, (l.drop (a + 1)).getD j ((0 : Int), (0 : Int), (0 : Int), (0 : Int), (0 : Int)) = x := ⟨_, rfl⟩
      rw [hy] at he
      simp only [hj, hy, Int.natCast_inj, exists_eq_right]
      rw [he] at h4
      refine ⟨by omega, fun h5 => ⟨⟨by omega, ?_⟩, by omega⟩, fun h5 => ⟨fun h6 => ?_, fun h6 => step ?_⟩⟩
      · rw [h4, Cm.next, if_neg]
        intro h'
        simp [Cm.ofGuest, Cm.own] at h5 h'
        rcases h5 with h5 | h5
        · rw [h5] at h'; exact absurd h'.2 (by simp)
        · exact h5 h'.1
      · have h5 : Cm.ofGuest y x.2.1 = true := by simpa using h5
        have h5 : y.2.1 = x.2.1 ∧ Cm.own y = true := by simp [Cm.ofGuest] at h5; exact ⟨h5.2, h5.1⟩
        rw [Cm.next, if_pos h5] at h4
        rw [h2, hd, Cm.tidy, if_pos]
        refine ⟨by simp at h; omega, ?_⟩
        rw [h4]; simpa using h6
      · have h5 : Cm.ofGuest y x.2.1 = true := by simpa using h5
        have h5 : y.2.1 = x.2.1 ∧ Cm.own y = true := by simp [Cm.ofGuest] at h5; exact ⟨h5.2, h5.1⟩
        rw [Cm.next, if_pos h5] at h4
        rw [h2, hd, Cm.tidy, if_neg]
        intro h'
        rw [h4] at h'
        simp at h6 h'
        exact h'.2 h6
    · have jge : ¬ j < (l.drop (a + 1)).length := by simpa using jge
      rw [List.drop_of_length_le (l := l.drop (a + 1)) (by omega)] at h4
      rw [h2, hd, Cm.tidy, if_neg]
      rw [h4]
      simp [Cm.next]
  · have hge : ¬ a < l.length := by simpa using hge
    rw [h2, List.drop_of_length_le (by omega)]
    exact ⟨rfl, trivial⟩))
theorem ok3 : FOk E4 Try.f3 sLaw := FOk.of1 fun (l : List Cm.A) hn => FGA.fg ((vc3 l).mpr (by
  have hn : l.length ≤ 9223372036854775807 := hn
  have key : ¬ Cm.szL l 1048576 < 0 → l.length ≤ 16777216 := fun h => by
    unfold Cm.szL at h
    rw [Cm.wrap_id (by omega) (by omega)] at h
    split at h <;> omega
  refine ⟨trivial, fun _ => ⟨rfl, trivial⟩, fun h => ?_⟩
  have h := key (by simpa using h)
  refine ⟨h, h, h, h, fun e => by simp at e, fun _ => ⟨h, h, fun e => ?_, fun _ => ⟨rfl, trivial⟩⟩⟩
  rw [Cm.eqL_refl Cm.eqA_refl] at e; cases e))
set_option maxRecDepth 100000
theorem mixed : Try.prog.follows .mixedOrders = true := by kernel_rfl
theorem kn0 : AllK Try.prog L0 := trivial
theorem kn_98 : Known Try.prog 98 sWithin := known_of tabOk kn0 mixed Try.func98 (by kernel_rfl) ok98
theorem kn_107 : Known Try.prog 107 sWithin := known_of tabOk kn0 mixed Try.func107 (by kernel_rfl) ok107
theorem kn_15 : Known Try.prog 15 (sSz kA) := known_of tabOk kn0 mixed Try.func15 (by kernel_rfl) ok15
theorem kn_26 : Known Try.prog 26 sToAct := known_of tabOk kn0 mixed Try.func26 (by kernel_rfl) ok26
theorem kn_68 : Known Try.prog 68 sEqA := known_of tabOk kn0 mixed Try.func68 (by kernel_rfl) ok68
theorem kn1 : AllK Try.prog L1 := AllK.cons (AllK.cons (AllK.cons (AllK.cons (AllK.cons (kn0) kn_68) kn_26) kn_15) kn_107) kn_98
theorem kn_104 : Known Try.prog 104 sOwn := known_of tabOk kn1 mixed Try.func104 (by kernel_rfl) ok104
theorem kn_67 : Known Try.prog 67 sOfGuest := known_of tabOk kn1 mixed Try.func67 (by kernel_rfl) ok67
theorem kn_17 : Known Try.prog 17 (sTo kA fun l => l.length ≤ 16777216) := known_of tabOk kn1 mixed Try.func17 (by kernel_rfl) ok17
theorem kn_19 : Known Try.prog 19 (sEqL kA Cm.eqA) := known_of tabOk kn1 mixed Try.func19 (by kernel_rfl) ok19
theorem kn2 : AllK Try.prog L2 := AllK.cons (AllK.cons (AllK.cons (AllK.cons (kn1) kn_19) kn_17) kn_67) kn_104
theorem kn_66 : Known Try.prog 66 sNext := known_of tabOk kn2 mixed Try.func66 (by kernel_rfl) ok66
theorem kn_18 : Known Try.prog 18 sTidy := known_of tabOk kn2 mixed Try.func18 (by kernel_rfl) ok18
theorem kn3 : AllK Try.prog L3 := AllK.cons (AllK.cons (kn2) kn_18) kn_66
theorem kn_16 : Known Try.prog 16 sTidy := known_of tabOk kn3 mixed Try.func16 (by kernel_rfl) ok16
theorem kn4 : AllK Try.prog L4 := AllK.cons (kn3) kn_16
theorem kn_3 : Known Try.prog 3 sLaw := known_of tabOk kn4 mixed Try.func3 (by kernel_rfl) ok3
end Go.Proofs.Ytcfmelkegjpciaa.T

