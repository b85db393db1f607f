/-
  For each function: its contract holds; the conditions stand in the contracts.
-/
import Derived.Test.YtcfmelkegjpciaaV2
set_option linter.all false
open Go Go.Am Go.Proofs
namespace Go.Proofs.Ytcfmelkegjpciaa.T
theorem ok98 : FOk E0 Try.f98 sWithin := FOk.of3 fun (n lo hi : Int) _ => FGA.fg ((vc98 n lo hi).mpr (by simp [Cm.within]))
theorem ok107 : FOk E0 Try.f107 sWithin := FOk.of3 fun (n lo hi : Int) _ => FGA.fg ((vc107 n lo hi).mpr (by simp [Cm.within]))
theorem ok15 : FOk E0 Try.f15 (sSz kA) := FOk.of2 fun (l : List Cm.A) (n : Int) _ => FGA.fg ((vc15 l n).mpr (by
  simp only [ifb_iff]
  refine ⟨fun h => ⟨?_, trivial⟩, fun h => ⟨?_, trivial⟩⟩
  · rw [Cm.szL, if_pos (by simpa using h)]
  · rw [Cm.szL, if_neg (by simpa using h)]))
theorem ok26 : FOk E0 Try.f26 sToAct := FOk.of1 fun a _ => FGA.fg ((vc26 a).mpr ⟨rfl, trivial⟩)
theorem ok104 : FOk E1 Try.f104 sOwn := FOk.of1 fun a _ => FGA.fg ((vc104 a).mpr (by simp [Cm.own]))
theorem ok67 : FOk E1 Try.f67 sOfGuest := FOk.of2 fun a g _ => FGA.fg ((vc67 a g).mpr (by simp [Cm.ofGuest]; rfl))
theorem ok68 : FOk E0 Try.f68 sEqA := FOk.of2 fun a b _ => FGA.fg ((vc68 a b).mpr (by
  simp only [ifb_iff]
  simp only [Cm.eqA, bne_iff_ne, ne_eq, bne_eq_false_iff_eq, and_true]
  refine ⟨fun h => by simp [h], fun h0 => ⟨fun h => by simp [h], fun h1 => ⟨fun h => by simp [h], fun h2 => ⟨fun h => by simp [h], fun h3 => ⟨fun h => by simp [h], fun h4 => by simp [h0, h1, h2, h3, h4]⟩⟩⟩⟩⟩))
theorem ok66 : FOk E2 Try.f66 sNext := FOk.of3 fun (l : List Cm.A) (i g : Int) hp => FGA.fg ((vc66 l i g).mpr (by
  simp only [ifb_iff]
  obtain ⟨hp, hn⟩ := (show (0 ≤ i ∧ i ≤ (l.length : Int)) ∧ l.length ≤ 16777216 from hp)
  refine ⟨⟨i.toNat, ⟨by omega, (by trivial)⟩, ⟨(by trivial), (by trivial), by omega⟩, trivial, trivial⟩, fun a ⟨h1, h2⟩ => ⟨fun hlt => ?_, fun hge => ?_⟩⟩
  · have hlt : a < l.length := by simpa using hlt
    have hd := Cm.drop_getD Cm.a0 hlt
    generalize l.getD a Cm.a0 = x at hd
    rw [h2, hd]
    have hq : (0 : Int) ≤ (a : Int) ∧ (a : Int) < (l.length : Int) := by omega
    simp only [hq, imp_self, implies_true, and_true, true_and, Cm.next]
    refine ⟨fun h => ?_, fun h => ⟨a + 1, ⟨⟨by omega, ?_⟩, by omega⟩, ?_⟩⟩
    · have h : x.2.1 = g ∧ Cm.own x = true := by simpa using h
      rw [if_pos h]; rfl
    · have h : ¬ (x.2.1 = g ∧ Cm.own x = true) := by simpa using h
      rw [if_neg h]
    · exact (Cm.wrap_id (by omega) (by omega)).symm
  · have hge : ¬ a < l.length := by simpa using hge
    rw [h2, List.drop_of_length_le (by omega)]
    exact ⟨rfl, trivial⟩))
theorem ok16 : FOk E3 Try.f16 sTidy := FOk.of1 fun (l : List Cm.A) hn => FGA.fg ((vc16 l).mpr (by
  simp only [ifb_iff]
  have hn : l.length ≤ 16777216 := hn
  refine ⟨⟨0, ⟨by omega, (by trivial)⟩, ⟨(by trivial), (by trivial)⟩, trivial, trivial⟩, fun a ⟨h1, h2⟩ => ⟨fun hlt => ?_, fun hge => ?_⟩⟩
  · have hlt : a < l.length := by simpa using hlt
    have hd := Cm.drop_getD Cm.a0 hlt
    have hw : IntKind.wrap .i64 ((a : Int) + 1) = ((a + 1 : Nat) : Int) := by rw [Cm.wrap_id (by omega) (by omega)]; omega
    obtain ⟨x, hx⟩ : ∃ x : Cm.A, l.getD a Cm.a0 = x := ⟨_, rfl⟩
    rw [hx] at hd
    simp only [hw, Int.toNat_natCast, hx, and_true, true_and, Int.natCast_inj, exists_eq_right]
    rw [h2, hd]
    have hq : (0 : Int) ≤ (a : Int) ∧ (a : Int) < (l.length : Int) := by omega
    have hr : ((0 : Int) ≤ ((a + 1 : Nat) : Int) ∧ ((a + 1 : Nat) : Int) ≤ (l.length : Int)) ∧ l.length ≤ 16777216 := by omega
    have hr' : ((0 : K.T kI) ≤ ((a + 1 : Nat) : Int) ∧ ((a + 1 : Nat) : Int) ≤ (l.length : Int)) ∧ l.length ≤ 16777216 := hr
    simp only [hq, hr', imp_self, implies_true, and_true, true_and, Cm.tidy]
    refine ⟨fun h => ?_, fun h => ⟨⟨by omega, ?_⟩, by omega⟩⟩
    · have h : (x.1 = 2 ∧ x.2.2.1 < 2) ∧ Cm.next x.2.1 (l.drop (a + 1)) = false := by simpa using h
      rw [if_pos h]
    · have h : ¬ ((x.1 = 2 ∧ x.2.2.1 < 2) ∧ Cm.next x.2.1 (l.drop (a + 1)) = false) := by simpa using h
      rw [if_neg h]
  · have hge : ¬ a < l.length := by simpa using hge
    rw [h2, List.drop_of_length_le (by omega)]
    exact ⟨rfl, trivial⟩))
theorem ok17 : FOk E1 Try.f17 (sTo kA fun l => l.length ≤ 16777216) := FOk.of1 fun (l : List Cm.A) hn => FGA.fg ((vc17 l).mpr (by
  simp only [ifb_iff]
  have hn : l.length ≤ 16777216 := hn
  refine ⟨⟨(by trivial), by omega, ?_⟩, ⟨0, by omega, ⟨(by trivial), (by trivial), (by trivial)⟩, by rw [Cm.fill_zero], trivial⟩, fun a h1 => ⟨fun hlt => ?_, fun hge => ?_⟩⟩
  · show (l.length : Int) * ((40 : Nat) : Int) ≤ _; omega
  · have hlt : a < l.length := by simpa using hlt
    have hw : IntKind.wrap .i64 ((a : Int) + 1) = ((a + 1 : Nat) : Int) := by rw [Cm.wrap_id (by omega) (by omega)]; omega
    refine ⟨by omega, trivial, ?_, a + 1, by omega, ⟨(by trivial), (by trivial), by rw [hw]⟩, ?_, trivial⟩
    · rw [Cm.fill_len _ _ h1]; omega
    · exact (Cm.fill_set _ _ l hlt).symm
  · have hge : ¬ a < l.length := by simpa using hge
    exact ⟨Cm.fill_all _ l (by omega), trivial⟩))
theorem ok19 : FOk E1 Try.f19 (sEqL kA Cm.eqA) := FOk.of2 fun (l m : List Cm.A) hn => FGA.fg ((vc19 l m).mpr (by
  simp only [ifb_iff]
  have hn : l.length ≤ 16777216 := hn
  refine ⟨fun h => ⟨?_, trivial⟩, fun h => ⟨⟨0, ⟨by omega, (by trivial)⟩, ⟨(by trivial), (by trivial), (by trivial)⟩, trivial, trivial⟩, fun a ⟨h1, h2⟩ => ⟨fun hlt => ?_, fun hge => ?_⟩⟩⟩
  · exact (Cm.eqL_ne (by simpa [Int.natCast_inj] using h)).symm
  · have h : l.length = m.length := by simpa [Int.natCast_inj] using h
    have hlt : a < l.length := by simpa using hlt
    have hw : IntKind.wrap .i64 ((a : Int) + 1) = ((a + 1 : Nat) : Int) := by rw [Cm.wrap_id (by omega) (by omega)]; omega
    have hd := Cm.drop_getD Cm.a0 hlt
    have hd' := Cm.drop_getD (l := m) Cm.a0 (h ▸ hlt)
    obtain ⟨x, hx⟩ : ∃ x : Cm.A, l.getD a Cm.a0 = x := ⟨_, rfl⟩
    obtain ⟨y, hy⟩ : ∃ x : Cm.A, m.getD a Cm.a0 = x := ⟨_, rfl⟩
    rw [hx] at hd; rw [hy] at hd'
    simp only [hw, Int.toNat_natCast, hx, hy, and_true, true_and, Int.natCast_inj, exists_eq_right]
    rw [h2, hd, hd']
    refine ⟨by omega, by omega, fun h => ?_, fun h => ⟨⟨by omega, ?_⟩, by omega⟩⟩
    · have h : Cm.eqA x y = false := by simpa using h
      rw [Cm.eqL, h]; rfl
    · have h : Cm.eqA x y = true := by simpa using h
      rw [Cm.eqL, h]; rfl
  · have h : l.length = m.length := by simpa [Int.natCast_inj] using h
    have hge : ¬ a < l.length := by simpa using hge
    rw [h2, List.drop_of_length_le (by omega), List.drop_of_length_le (by omega)]
    exact ⟨rfl, trivial⟩))
theorem ok18 : FOk E2 Try.f18 sTidy := FOk.of1 fun (l : List Cm.A) hn => FGA.fg ((vc18 l).mpr (by
  simp only [ifb_iff]
  have hn : l.length ≤ 16777216 := hn
  refine ⟨⟨0, ⟨by omega, (by trivial)⟩, ⟨(by trivial), (by trivial), (by trivial), (by trivial)⟩, trivial, trivial⟩, fun a ⟨h1, h2⟩ => ⟨fun hlt => ?_, fun hge => ?_⟩⟩
  · have hlt : a < l.length := by simpa using hlt
    have hw : IntKind.wrap .i64 ((a : Int) + 1) = ((a + 1 : Nat) : Int) := by rw [Cm.wrap_id (by omega) (by omega)]; omega
    have hd := Cm.drop_getD Cm.a0 hlt
    obtain ⟨x, hx⟩ : ∃ x : Cm.A, l.getD a Cm.a0 = x := ⟨_, rfl⟩
    rw [hx] at hd
    simp only [hw, Int.toNat_natCast, hx, List.take_length, and_true, true_and, Int.natCast_inj, exists_eq_right]
    have hl : (l.drop (a + 1)).length ≤ l.length - (a + 1) := by simp
    have hl' : (l.drop (a + 1)).length ≤ 16777216 := by omega
    have step : (Cm.tidy l = Cm.tidy (l.drop (a + 1))) → (a + 1 ≤ l.length ∧ Cm.tidy l = Cm.tidy (l.drop (a + 1))) ∧ l.length - (a + 1) < l.length - a :=
      fun h => ⟨⟨by omega, h⟩, by omega⟩
    refine ⟨by omega, fun h => h, fun h => h, fun h => by simpa using h, fun h => step ?_, fun h => ⟨by omega, ⟨0, ⟨by omega, rfl⟩, rfl⟩, fun j ⟨h3, h4⟩ => ⟨fun jlt => ?_, fun jge => step ?_⟩⟩⟩
    · rw [h2, hd, Cm.tidy, if_neg]
      intro h'
      simp at h
      omega
    · have jlt : j < (l.drop (a + 1)).length := by simpa using jlt
      have hj : IntKind.wrap .i64 ((j : Int) + 1) = ((j + 1 : Nat) : Int) := by rw [Cm.wrap_id (by omega) (by omega)]; omega
      have he := Cm.drop_getD Cm.a0 jlt
      obtain ⟨y, hy⟩ : ∃ x : Cm.A, (l.drop (a + 1)).getD j Cm.a0 = x := ⟨_, rfl⟩
      rw [hy] at he
      simp only [hj, hy, Int.natCast_inj, exists_eq_right]
      rw [he] at h4
      refine ⟨by omega, fun h5 => ⟨⟨by omega, ?_⟩, by omega⟩, fun h5 => ⟨fun h6 => ?_, fun h6 => step ?_⟩⟩
      · rw [h4, Cm.next, if_neg]
        intro h'
        simp [Cm.ofGuest, Cm.own] at h5 h'
        rcases h5 with h5 | h5
        · rw [h5] at h'; exact absurd h'.2 (by simp)
        · exact h5 h'.1
      · have h5 : Cm.ofGuest y x.2.1 = true := by simpa using h5
        have h5 : y.2.1 = x.2.1 ∧ Cm.own y = true := by simp [Cm.ofGuest] at h5; exact ⟨h5.2, h5.1⟩
        rw [Cm.next, if_pos h5] at h4
        rw [h2, hd, Cm.tidy, if_pos]
        refine ⟨by simp at h; omega, ?_⟩
        rw [h4]; simpa using h6
      · have h5 : Cm.ofGuest y x.2.1 = true := by simpa using h5
        have h5 : y.2.1 = x.2.1 ∧ Cm.own y = true := by simp [Cm.ofGuest] at h5; exact ⟨h5.2, h5.1⟩
        rw [Cm.next, if_pos h5] at h4
        rw [h2, hd, Cm.tidy, if_neg]
        intro h'
        rw [h4] at h'
        simp at h6 h'
        exact h'.2 h6
    · have jge : ¬ j < (l.drop (a + 1)).length := by simpa using jge
      rw [List.drop_of_length_le (l := l.drop (a + 1)) (by omega)] at h4
      rw [h2, hd, Cm.tidy, if_neg]
      rw [h4]
      simp [Cm.next]
  · have hge : ¬ a < l.length := by simpa using hge
    rw [h2, List.drop_of_length_le (by omega)]
    exact ⟨rfl, trivial⟩))
theorem ok3 : FOk E4 Try.f3 sLaw := FOk.of1 fun (l : List Cm.A) hn => FGA.fg ((vc3 l).mpr (by
  simp only [ifb_iff]
  have hn : l.length ≤ 9223372036854775807 := hn
  have key : ¬ Cm.szL l 1048576 < 0 → l.length ≤ 16777216 := fun h => by
    unfold Cm.szL at h
    rw [Cm.wrap_id (by omega) (by omega)] at h
    split at h <;> omega
  refine ⟨trivial, fun _ => ⟨(by trivial), trivial⟩, fun h => ?_⟩
  have h := key (by simpa using h)
  refine ⟨h, h, h, h, fun e => by simp at e, fun _ => ⟨h, h, fun e => ?_, fun _ => ⟨(by trivial), trivial⟩⟩⟩
  rw [Cm.eqL_refl Cm.eqA_refl] at e; cases e))
set_option maxRecDepth 100000
theorem mixed : Try.prog.follows .mixedOrders = true := by kernel_rfl
theorem kn0 : AllK Try.prog L0 := trivial
theorem kn_98 : Known Try.prog 98 sWithin := known_of tabOk kn0 mixed Try.func98 (by kernel_rfl) ok98
theorem kn_107 : Known Try.prog 107 sWithin := known_of tabOk kn0 mixed Try.func107 (by kernel_rfl) ok107
theorem kn_15 : Known Try.prog 15 (sSz kA) := known_of tabOk kn0 mixed Try.func15 (by kernel_rfl) ok15
theorem kn_26 : Known Try.prog 26 sToAct := known_of tabOk kn0 mixed Try.func26 (by kernel_rfl) ok26
theorem kn_68 : Known Try.prog 68 sEqA := known_of tabOk kn0 mixed Try.func68 (by kernel_rfl) ok68
theorem kn1 : AllK Try.prog L1 := AllK.cons (AllK.cons (AllK.cons (AllK.cons (AllK.cons (kn0) kn_68) kn_26) kn_15) kn_107) kn_98
theorem kn_104 : Known Try.prog 104 sOwn := known_of tabOk kn1 mixed Try.func104 (by kernel_rfl) ok104
theorem kn_67 : Known Try.prog 67 sOfGuest := known_of tabOk kn1 mixed Try.func67 (by kernel_rfl) ok67
theorem kn_17 : Known Try.prog 17 (sTo kA fun l => l.length ≤ 16777216) := known_of tabOk kn1 mixed Try.func17 (by kernel_rfl) ok17
theorem kn_19 : Known Try.prog 19 (sEqL kA Cm.eqA) := known_of tabOk kn1 mixed Try.func19 (by kernel_rfl) ok19
theorem kn2 : AllK Try.prog L2 := AllK.cons (AllK.cons (AllK.cons (AllK.cons (kn1) kn_19) kn_17) kn_67) kn_104
theorem kn_66 : Known Try.prog 66 sNext := known_of tabOk kn2 mixed Try.func66 (by kernel_rfl) ok66
theorem kn_18 : Known Try.prog 18 sTidy := known_of tabOk kn2 mixed Try.func18 (by kernel_rfl) ok18
theorem kn3 : AllK Try.prog L3 := AllK.cons (AllK.cons (kn2) kn_18) kn_66
theorem kn_16 : Known Try.prog 16 sTidy := known_of tabOk kn3 mixed Try.func16 (by kernel_rfl) ok16
theorem kn4 : AllK Try.prog L4 := AllK.cons (kn3) kn_16
theorem kn_3 : Known Try.prog 3 sLaw := known_of tabOk kn4 mixed Try.func3 (by kernel_rfl) ok3
end Go.Proofs.Ytcfmelkegjpciaa.T

open Go Go.Am Go.Proofs
open Go.Cm (R rdOk)
namespace Go.Proofs.Ytcfmelkegjpciaa.T
theorem pick_ex (r : R) (n : Int) (h : rdOk r 1099511627776) : ∃ X : Int, FGA E0 Try.f105 (sPick fun _ _ => X) [⟨kR, r⟩, ⟨kI, n⟩] no ∧ (1 ≤ n → 0 ≤ X ∧ X < n) ∧ (n < 1 → X = 0) := by
  obtain ⟨⟨h1, h2⟩, h3, h4⟩ := h
  have e1 : IntKind.wrap .i64 (r.2 + 1) = r.2 + 1 := Cm.wrap_id (by omega) (by omega)
  have e2 : IntKind.wrap .i64 (r.2 + 1 - 1) = r.2 := by rw [Cm.wrap_id (by omega) (by omega)]; omega
  have e3 : IntKind.wrap .i64 (r.2 * 7) = r.2 * 7 := Cm.wrap_id (by omega) (by omega)
  have e4 : IntKind.wrap .i64 (r.2 * 7 + 3) = r.2 * 7 + 3 := Cm.wrap_id (by omega) (by omega)
  simp only [vc105, ifb_iff, Cm.inc, e1, e2, e3, e4]
  have hn : ∀ b : Bool, (b = true → b = true) = True := fun b => by simp
  by_cases c1 : n < 1 ∨ r.1.length = 0
  · refine ⟨0, ⟨fun h => h, fun h => h, fun h => h, fun h => h, fun h => h, fun h => by simpa using h, fun _ => ⟨rfl, trivial, trivial⟩, fun h => ?_⟩, fun h => by omega, fun _ => rfl⟩
    simp at h; rcases c1 with c | c
    · omega
    · exact absurd (List.length_eq_zero_iff.1 c) h.2
  · have hlen : 0 < r.1.length := by omega
    have hn1 : 1 ≤ n := by omega
    have hb : ∀ i : Int, 0 ≤ i → i < (r.1.length : Int) → 0 ≤ r.1.getD i.toNat 0 ∧ r.1.getD i.toNat 0 ≤ 255 := fun i g1 g2 => h2 i.toNat (by omega)
    have hcond : (decide (n < 1) || ((r.1.length : Int) == 0)) = false := by
      have q1 : ¬ n < 1 := by omega
      have q3 : r.1 ≠ [] := by intro h; rw [h] at hlen; simp at hlen
      simp [q1, q3]
    by_cases c2 : r.2 < (r.1.length : Int)
    · obtain ⟨b1, b2⟩ := hb r.2 h3 c2
      have hw : IntKind.wrap .i64 (r.1.getD r.2.toNat 0) = r.1.getD r.2.toNat 0 := Cm.wrap_id (by omega) (by omega)
      have := Cm.tmod_pos b1 (show 0 < n by omega)
      refine ⟨(r.1.getD r.2.toNat 0).tmod n, ⟨fun h => h, fun h => h, fun h => h, fun h => h, fun h => h, fun h => by simpa using h, fun h => ?_, fun _ => ⟨fun _ => ⟨⟨h3, c2⟩, by omega, by rw [hw], trivial, trivial⟩, fun h => ?_⟩⟩, fun _ => this, fun h => by omega⟩
      · rw [hcond] at h; cases h
      · simp at h; omega
    · have hl : (0 : Int) < (r.1.length : Int) := by omega
      obtain ⟨d1, d2⟩ := Cm.tmod_pos h3 hl
      obtain ⟨d3, d4⟩ := Cm.tmod_pos (show 0 ≤ r.2 * 7 + 3 by omega) hl
      obtain ⟨b1, b2⟩ := hb _ d1 d2
      obtain ⟨b3, b4⟩ := hb _ d3 d4
      obtain ⟨d5, d6⟩ := Cm.tdiv_bd h3 hl
      obtain ⟨u, hu⟩ : ∃ u, r.1.getD (r.2.tmod (r.1.length : Int)).toNat 0 = u := ⟨_, rfl⟩
      obtain ⟨v, hv⟩ : ∃ u, r.1.getD ((r.2 * 7 + 3).tmod (r.1.length : Int)).toNat 0 = u := ⟨_, rfl⟩
      obtain ⟨q, hq⟩ : ∃ u, r.2.tdiv (r.1.length : Int) = u := ⟨_, rfl⟩
      rw [hu] at b1 b2; rw [hv] at b3 b4; rw [hq] at d5 d6
      simp only [hu, hv, hq]
      have w1 : IntKind.wrap .i64 u = u := Cm.wrap_id (by omega) (by omega)
      have w2 : IntKind.wrap .i64 (u * 131) = u * 131 := Cm.wrap_id (by omega) (by omega)
      have w3 : IntKind.wrap .i64 v = v := Cm.wrap_id (by omega) (by omega)
      have w4 : IntKind.wrap .i64 (v * 1117) = v * 1117 := Cm.wrap_id (by omega) (by omega)
      have w5 : IntKind.wrap .i64 (u * 131 + v * 1117) = u * 131 + v * 1117 := Cm.wrap_id (by omega) (by omega)
      have w6 : IntKind.wrap .i64 (r.2 * 29) = r.2 * 29 := Cm.wrap_id (by omega) (by omega)
      have w7 : IntKind.wrap .i64 (u * 131 + v * 1117 + r.2 * 29) = u * 131 + v * 1117 + r.2 * 29 := Cm.wrap_id (by omega) (by omega)
      have w8 : IntKind.wrap .i64 q = q := Cm.wrap_id (by omega) (by omega)
      have w9 : IntKind.wrap .i64 (q * 53) = q * 53 := Cm.wrap_id (by omega) (by omega)
      have w10 : IntKind.wrap .i64 (u * 131 + v * 1117 + r.2 * 29 + q * 53) = u * 131 + v * 1117 + r.2 * 29 + q * 53 := Cm.wrap_id (by omega) (by omega)
      simp only [w1, w2, w3, w4, w5, w6, w7, w8, w9, w10]
      obtain ⟨z, hz⟩ : ∃ u', u * 131 + v * 1117 + r.2 * 29 + q * 53 = u' := ⟨_, rfl⟩
      have hz0 : 0 ≤ z ∧ z < 4611686018427387904 := by omega
      simp only [hz]
      obtain ⟨f1, f2⟩ := Cm.tdiv_bd hz0.1 (show (0 : Int) < 64 by omega)
      have w11 : IntKind.wrap .i64 (z.tdiv 64) = z.tdiv 64 := Cm.wrap_id (by omega) (by omega)
      simp only [w11]
      have hx := Cm.xor_nn hz0.1 hz0.2 f1 (by omega)
      have hl0 : (r.1.length : Int) ≠ 0 := by omega
      refine ⟨(xorI .i64 z (z.tdiv 64)).tmod n, ⟨fun h => h, fun h => h, fun h => h, fun h => h, fun h => h, fun h => by simpa using h, fun h => ?_, fun _ => ⟨fun h => ?_, fun _ => ⟨hl0, ⟨d1, d2⟩, hl0, ⟨d3, d4⟩, hl0, ?_⟩⟩⟩, fun _ => Cm.tmod_pos hx (by omega), fun h => by omega⟩
      · rw [hcond] at h; cases h
      · simp at h; omega
      · exact ⟨by decide, by omega, rfl, trivial, trivial⟩
open Classical in
noncomputable def pickF (r : R) (n : Int) : Int := if h : rdOk r 1099511627776 then (pick_ex r n h).choose else 0
theorem pickF_ok {r : R} {n : Int} (h : rdOk r 1099511627776) : FGA E0 Try.f105 (sPick fun _ _ => pickF r n) [⟨kR, r⟩, ⟨kI, n⟩] no ∧ (1 ≤ n → 0 ≤ pickF r n ∧ pickF r n < n) ∧ (n < 1 → pickF r n = 0) := by
  unfold pickF; rw [dif_pos h]; exact (pick_ex r n h).choose_spec
theorem ok105 : FOk E0 Try.f105 (sPick pickF) := FOk.of2 fun (r : R) (n : Int) h => FGA.fg (an := no) (((vc105 pickF r n).trans (vc105 (fun _ _ => pickF r n) r n).symm).mpr (pickF_ok h).1)
end Go.Proofs.Ytcfmelkegjpciaa.T

open Go Go.Am Go.Proofs
open Go.Cm (R rdOk)
namespace Go.Proofs.Ytcfmelkegjpciaa.T
/-- What is asked of a pick. -/
def PickOk (p : R → Int → Int) : Prop := ∀ r n, rdOk r 1099511627776 → 1 ≤ n → 0 ≤ p r n ∧ p r n < n
theorem pickF_good : PickOk pickF := fun r n h hn => (pickF_ok h).2.1 hn
theorem ok69 : FOk E0 Try.f69 sOpen := FOk.of1 fun (b : List Int) _ => FGA.fg (an := no) ((vc69 b).mpr (by
  simp only [ifb_iff, Cm.cut2]
  refine ⟨fun h => ?_, fun h => ?_⟩
  · have h : b.length > 2000 := by have := of_decide_eq_true h; omega
    refine ⟨by omega, ?_, trivial⟩
    rw [if_pos h]
  · have h : ¬ b.length > 2000 := by have := of_decide_eq_false h; omega
    rw [if_neg h]; exact ⟨rfl, trivial⟩))
theorem ok128 (p : R → Int → Int) : FOk (Ep p) Try.f128 (sWord (Cm.wordM p)) := FOk.of1 fun (r : R) h => FGA.fg (an := no) ((vc128 p r).mpr (by
  obtain ⟨h1, h2, h3⟩ := (show rdOk r 549755813888 from h)
  have q : ∀ n : Int, 0 ≤ n → n ≤ 1099511627776 → rdOk (r.1, n) 1099511627776 := fun n a b => ⟨h1, a, b⟩
  simp only [ifb_iff, Cm.inc]
  refine ⟨q _ (by omega) (by omega), fun c => ⟨q _ (by omega) (by omega), ?_, trivial, trivial⟩, fun c => ⟨q _ (by omega) (by omega), ?_, trivial, trivial⟩⟩
  · have c : p r 3 = 0 := by simpa using c
    rw [Cm.wordM, if_pos c]; rfl
  · have c : ¬ p r 3 = 0 := by simpa using c
    rw [Cm.wordM, if_neg c]; rfl))
end Go.Proofs.Ytcfmelkegjpciaa.T

open Go Go.Am Go.Proofs
open Go.Cm (R rdOk)
namespace Go.Proofs.Ytcfmelkegjpciaa.T
set_option maxRecDepth 10000
theorem act_ex {p : R → Int → Int} (hp : PickOk p) (r : R) (g : Int) (h : rdOk r 274877906944 ∧ 1 ≤ g ∧ g ≤ 100) :
    ∃ X : R × Cm.A, FGA (Ew p) Try.f80 (sAct fun _ _ => X) [⟨kR, r⟩, ⟨kI, g⟩] no ∧ X.1.1 = r.1 ∧ r.2 ≤ X.1.2 ∧ X.1.2 ≤ r.2 + 20 := by
  obtain ⟨⟨h1, h2, h3⟩, h4, h5⟩ := h
  have q : ∀ n : Int, 0 ≤ n → n ≤ 1099511627776 → rdOk (r.1, n) 1099511627776 := fun n a b => ⟨h1, a, b⟩
  have q' : ∀ n : Int, 0 ≤ n → n ≤ 549755813888 → rdOk (r.1, n) 549755813888 := fun n a b => ⟨h1, a, b⟩
  simp only [vc80, Cm.inc]
  obtain ⟨t, ht⟩ : ∃ t, p (r.1, r.2 + 1 + 1 + 1 + 1 + 1) 20 = t := ⟨_, rfl⟩
  have hb := hp (r.1, r.2 + 1 + 1 + 1 + 1 + 1) 20 (q _ (by omega) (by omega)) (by omega)
  rw [ht] at hb
  simp only [ht]
  have hc : t = 0 ∨ t = 1 ∨ t = 2 ∨ t = 3 ∨ t = 4 ∨ t = 5 ∨ t = 6 ∨ t = 7 ∨ t = 8 ∨ t = 9 ∨ t = 10 ∨ t = 11 ∨ t = 12 ∨ t = 13 ∨ t = 14 ∨ t = 15 ∨ t = 16 ∨ t = 17 ∨ t = 18 ∨ t = 19 := by omega
  have b0 : rdOk (r.1, r.2) 1099511627776 ∧ rdOk (r.1, r.2 + 1) 1099511627776 ∧ rdOk (r.1, r.2 + 1 + 1) 1099511627776 ∧ rdOk (r.1, r.2 + 1 + 1 + 1) 549755813888 ∧ rdOk (r.1, r.2 + 1 + 1 + 1 + 1 + 1) 1099511627776 ∧
    rdOk (r.1, r.2 + 1 + 1 + 1 + 1 + 1 + 1) 1099511627776 ∧ rdOk (r.1, r.2 + 1 + 1 + 1 + 1 + 1 + 1 + 1) 1099511627776 ∧ rdOk (r.1, r.2 + 1 + 1 + 1 + 1 + 1 + 1 + 1 + 1) 1099511627776 :=
    ⟨q _ (by omega) (by omega), q _ (by omega) (by omega), q _ (by omega) (by omega), q' _ (by omega) (by omega), q _ (by omega) (by omega), q _ (by omega) (by omega), q _ (by omega) (by omega), q _ (by omega) (by omega)⟩
  have c3 := hp (r.1, r.2 + 1 + 1 + 1 + 1 + 1 + 1) 3 (q _ (by omega) (by omega)) (by omega)
  have c2 := hp (r.1, r.2 + 1 + 1 + 1 + 1 + 1 + 1 + 1) 2 (q _ (by omega) (by omega)) (by omega)
  rcases hc with rfl | rfl | rfl | rfl | rfl | rfl | rfl | rfl | rfl | rfl | rfl | rfl | rfl | rfl | rfl | rfl | rfl | rfl | rfl | rfl
  all_goals simp only [b0, true_and, and_true, Int.reduceBEq, ifb]
  all_goals first
    | (refine ⟨(_, _), ⟨rfl, rfl⟩, rfl, ?_, ?_⟩ <;> dsimp only <;> omega)
    | (refine ⟨(_, _), ⟨by decide, by decide, rfl, rfl⟩, rfl, ?_, ?_⟩ <;> dsimp only <;> omega)
    | (refine ⟨(_, _), ⟨c3, rfl, rfl⟩, rfl, ?_, ?_⟩ <;> dsimp only <;> omega)
    | skip
  cases e1 : (p (r.1, r.2 + 1 + 1 + 1 + 1 + 1 + 1) 4 == 0) <;> cases e2 : (IntKind.i64.wrap (p (r.1, r.2 + 1 + 1 + 1 + 1 + 1 + 1 + 1) 12 - 1) == 0) <;> cases e3 : (p (r.1, r.2 + 1 + 1 + 1 + 1 + 1 + 1) 4 == 1) <;> cases e4 : (p (r.1, r.2 + 1 + 1 + 1 + 1 + 1 + 1) 4 == 2)
  all_goals simp only [e1, e2, e3, e4]
  all_goals first
    | (refine ⟨(_, _), ⟨rfl, rfl⟩, rfl, ?_, ?_⟩ <;> dsimp only <;> omega)
    | (refine ⟨(_, _), ⟨c2, rfl, rfl⟩, rfl, ?_, ?_⟩ <;> dsimp only <;> omega)
open Classical in
noncomputable def actF (p : R → Int → Int) (r : R) (g : Int) : R × Cm.A := if h : PickOk p ∧ (rdOk r 274877906944 ∧ 1 ≤ g ∧ g ≤ 100) then (act_ex h.1 r g h.2).choose else (r, 0, 0, 0, 0, 0)
theorem actF_ok {p : R → Int → Int} (hp : PickOk p) {r : R} {g : Int} (h : rdOk r 274877906944 ∧ 1 ≤ g ∧ g ≤ 100) :
    FGA (Ew p) Try.f80 (sAct fun _ _ => actF p r g) [⟨kR, r⟩, ⟨kI, g⟩] no ∧ (actF p r g).1.1 = r.1 ∧ r.2 ≤ (actF p r g).1.2 ∧ (actF p r g).1.2 ≤ r.2 + 20 := by
  unfold actF; rw [dif_pos ⟨hp, h⟩]; exact (act_ex hp r g h).choose_spec
theorem ok80 {p : R → Int → Int} (hp : PickOk p) : FOk (Ew p) Try.f80 (sAct (actF p)) := FOk.of2 fun (r : R) (g : Int) h => FGA.fg (an := no) (((vc80 p (actF p) r g).trans (vc80 p (fun _ _ => actF p r g) r g).symm).mpr (actF_ok hp h).1)
theorem ok123 (p : R → Int → Int) (hp : PickOk p) : FOk (Ep p) Try.f123 (sTables fun r g => Cm.tabGo p g 6 0 (r, [])) := FOk.of2 fun (r : R) (g : Int) h => FGA.fg (an := fun _ => anTab p r g) ((vc123 p r g).mpr (by
  obtain ⟨h1, h2, h3⟩ := (show rdOk r 274877906944 from h)
  simp only [ifb_iff, Cm.inc]
  refine ⟨⟨(0, r, []), ⟨⟨by omega, by simp⟩, ⟨h1, h2, by simpa using h3⟩, rfl⟩, ⟨trivial, trivial, trivial, rfl⟩, rfl, rfl, rfl⟩, fun ⟨k, s, out⟩ ⟨⟨i1, i2⟩, ⟨j1, j2, j3⟩, i4⟩ => ⟨fun hk => ?_, fun hk => ?_⟩⟩
  · have hk : (k : Int) < 6 := of_decide_eq_true hk
    have hw : IntKind.wrap .i64 ((k : Int) + 1) = ((k + 1 : Nat) : Int) := by rw [Cm.wrap_id (by omega) (by omega)]; omega
    dsimp only at i1 i2 j1 j2 j3 i4 ⊢
    have q : ∀ n : Int, 0 ≤ n → n ≤ 1099511627776 → rdOk (s.1, n) 1099511627776 := fun n a b => ⟨j1, a, b⟩
    have e6 : 6 - k = (6 - (k + 1)) + 1 := by omega
    have hstep : Cm.tabGo p g (6 - k) k (s, out) = Cm.tabGo p g (6 - (k + 1)) (k + 1) (Cm.tabStep p g k (s, out)) := by rw [e6]; rfl
    rw [hstep] at i4
    refine ⟨q _ (by omega) (by omega), fun c => ?_, fun c => ⟨(k + 1, (s.1, s.2 + 1), out), ⟨⟨⟨by omega, by dsimp only; omega⟩, ⟨j1, by dsimp only; omega, by dsimp only; omega⟩, ?_⟩, by omega⟩, ⟨trivial, trivial, trivial, hw.symm⟩, rfl, rfl, rfl⟩⟩
    · have c : p s 4 > 0 := of_decide_eq_true c
      have hp8 := hp (s.1, s.2 + 1) 8 (q _ (by omega) (by omega)) (by omega)
      have w5 : IntKind.wrap .i64 (5 + p (s.1, s.2 + 1) 8) = 5 + p (s.1, s.2 + 1) 8 := Cm.wrap_id (by omega) (by omega)
      have d1 : (k : Int).tdiv 4 = ((k / 4 : Nat) : Int) := rfl
      have d2 : (k : Int).tmod 4 = ((k % 4 : Nat) : Int) := rfl
      have w6 : IntKind.wrap .i64 ((k / 4 : Nat) : Int) = ((k / 4 : Nat) : Int) := Cm.wrap_id (by omega) (by omega)
      simp only [d1, d2, w5, w6, hw]
      refine ⟨by decide, by decide, q _ (by omega) (by omega), ?_, (k + 1, (s.1, s.2 + 1 + 1), out ++ [(2, g, ((k / 4 : Nat) : Int), ((k % 4 : Nat) : Int), 5 + p (s.1, s.2 + 1) 8), (5, g, 0, 0, 0)]), ⟨⟨⟨by omega, by simp; omega⟩, ⟨j1, by dsimp only; omega, by dsimp only; omega⟩, ?_⟩, by omega⟩, ⟨trivial, trivial, trivial, rfl⟩, rfl, rfl, rfl⟩
      · show (out.length + 2) * 40 ≤ _; omega
      · rw [i4]
        unfold Cm.tabStep
        rw [if_pos c]
        simp [Cm.adv, Int.add_assoc]
    · have c : ¬ p s 4 > 0 := of_decide_eq_false c
      rw [i4]
      unfold Cm.tabStep
      rw [if_neg c]
      rfl
  · have hk : ¬ (k : Int) < 6 := of_decide_eq_false hk
    have : 6 - k = 0 := by omega
    rw [i4]
    dsimp only
    rw [this]
    exact ⟨rfl, rfl, trivial⟩))
end Go.Proofs.Ytcfmelkegjpciaa.T

open Go Go.Am Go.Proofs
open Go.Cm (R rdOk)
namespace Go.Proofs.Ytcfmelkegjpciaa.T
theorem cut2_ok {b : List Int} (h : Cm.bytes b) {m : Int} (hm : 0 ≤ m) : rdOk (Cm.cut2 b, 0) m := by
  refine ⟨⟨?_, fun i hi => ?_⟩, Int.le_refl _, hm⟩
  · unfold Cm.cut2; split
    · simp; omega
    · dsimp only; omega
  · dsimp only at hi ⊢
    unfold Cm.cut2 at hi ⊢
    split
    · rename_i hl
      rw [if_pos hl] at hi
      have hi' : i < 2000 := by simp at hi; omega
      have : (b.take 2000).getD i 0 = b.getD i 0 := by simp [List.getD, List.getElem?_take, hi']
      rw [this]; exact h i (by omega)
    · rename_i hl
      rw [if_neg hl] at hi
      exact h i hi
theorem ok20 (p : R → Int → Int) (act : R → Int → R × Cm.A) (tb : R → Int → R × List Cm.A) : FOk (Es p act tb) Try.f20 (sDrawTidy fun b => (Cm.playM p act tb (Cm.cut2 b, 0)).2.2) :=
  FOk.of1 fun (b : List Int) h => FGA.fg (an := no) ((vc20 p act tb b).mpr ⟨trivial, cut2_ok h (by decide), rfl, trivial⟩)
end Go.Proofs.Ytcfmelkegjpciaa.T

open Go Go.Am Go.Proofs
open Go.Cm (R rdOk)
namespace Go.Proofs.Ytcfmelkegjpciaa.T
set_option maxRecDepth 10000
/-- What is asked of an act drawn, and of tables drawn. -/
def ActOk (act : R → Int → R × Cm.A) : Prop := ∀ r g, rdOk r 274877906944 → 1 ≤ g → g ≤ 100 → (act r g).1.1 = r.1 ∧ r.2 ≤ (act r g).1.2 ∧ (act r g).1.2 ≤ r.2 + 20
def TabsOk (tb : R → Int → R × List Cm.A) : Prop := ∀ r g, rdOk r 274877906944 → ((tb r g).1.1 = r.1 ∧ r.2 ≤ (tb r g).1.2 ∧ (tb r g).1.2 ≤ r.2 + 20) ∧ (tb r g).2.length ≤ 20
theorem ok70 {p : R → Int → Int} {act : R → Int → R × Cm.A} {tb : R → Int → R × List Cm.A} (hp : PickOk p) (ha : ActOk act) (ht : TabsOk tb) : FOk (Ea p act tb) Try.f70 (sPlay (Cm.playM p act tb)) :=
  FOk.of1 fun (r : R) h => FGA.fg (an := fun _ => anPlay p act tb r) ((vc70 p act tb r).mpr (by
  obtain ⟨h1, h2, h3⟩ := (show rdOk r 137438953472 from h)
  have q : ∀ n m : Int, 0 ≤ n → n ≤ m → rdOk (r.1, n) m := fun n m a b => ⟨h1, a, b⟩
  have g0 := hp (r.1, r.2) 2 (q _ _ h2 (by omega)) (by omega)
  have hG : IntKind.wrap .i64 (1 + p (r.1, r.2) 2) = Cm.playG p r := Cm.wrap_id (by omega) (by omega)
  have hG1 : 1 ≤ Cm.playG p r ∧ Cm.playG p r ≤ 100 := by show 1 ≤ 1 + p (r.1, r.2) 2 ∧ 1 + p (r.1, r.2) 2 ≤ 100; omega
  simp only [ifb_iff, hG]
  refine ⟨q _ _ (by omega) (by omega), q _ _ (by show 0 ≤ r.2 + 1; omega) (by show r.2 + 1 ≤ _; omega), fun c => ?_, fun c => ?_⟩
  · have hs : Cm.play0 p tb r = tb (r.1, Cm.inc (Cm.inc (Cm.inc r.2))) (p (r.1, Cm.inc (Cm.inc r.2)) (Cm.playG p r)) := if_pos (of_decide_eq_true c)
    have qt := ht (r.1, Cm.inc (Cm.inc (Cm.inc r.2))) (p (r.1, Cm.inc (Cm.inc r.2)) (Cm.playG p r)) (q _ _ (by simp only [Cm.inc]; omega) (by simp only [Cm.inc]; omega))
    rw [← hs] at qt ⊢
    obtain ⟨⟨t1, t2, t3⟩, t4⟩ := qt
    simp only [Cm.inc] at t1 t2 t3
    have q2 : ∀ n m : Int, 0 ≤ n → n ≤ m → rdOk ((Cm.play0 p tb r).1.1, n) m := fun n m a b => ⟨t1 ▸ h1, a, b⟩
    have hn := hp ((Cm.play0 p tb r).1.1, Cm.inc (Cm.play0 p tb r).1.2) 52 (q2 _ _ (by simp only [Cm.inc]; omega) (by simp only [Cm.inc]; omega)) (by omega)
    refine ⟨q _ _ (by simp only [Cm.inc]; omega) (by simp only [Cm.inc]; omega), q _ _ (by simp only [Cm.inc]; omega) (by simp only [Cm.inc]; omega), ⟨t1 ▸ h1, by omega, by omega⟩, q2 _ _ (by simp only [Cm.inc]; omega) (by simp only [Cm.inc]; omega),
      ⟨(Cm.playN p tb r, ((Cm.play0 p tb r).1.1, Cm.inc (Cm.inc (Cm.play0 p tb r).1.2)), (Cm.play0 p tb r).2), ⟨⟨?_, ?_⟩, q2 _ _ ?_ ?_, rfl⟩, ⟨by trivial, by trivial, by trivial, by trivial, ?_⟩, by trivial, by trivial, by trivial⟩, ?_⟩
    · show (p _ 52).toNat ≤ 52; omega
    · dsimp only; omega
    · simp only [Cm.inc]; omega
    · have : (p ((Cm.play0 p tb r).1.1, Cm.inc (Cm.play0 p tb r).1.2) 52).toNat ≤ 52 := by omega
      simp only [Cm.inc, Cm.playN] at this ⊢; omega
    · exact Int.toNat_of_nonneg hn.1
    rintro ⟨k, s, out⟩ ⟨⟨i1, i2⟩, ⟨j1, j2, j3⟩, i4⟩
    dsimp only at i1 i2 j1 j2 j3 i4 ⊢
    refine ⟨fun h => h, fun h => h, fun h => h, fun hk => ?_, fun hk => ?_⟩
    · simp only [Bool.and_eq_true, decide_eq_true_eq] at hk
      have hk : 0 < k ∧ out.length < 58 := by omega
      rw [Cm.playGo_step hk.1 hk.2] at i4
      have hr : rdOk s 274877906944 := ⟨j1, j2, by omega⟩
      obtain ⟨a1, a2, a3⟩ := ha s _ hr hG1.1 hG1.2
      have hw : IntKind.wrap .i64 ((k : Int) - 1) = ((k - 1 : Nat) : Int) := by rw [Cm.wrap_id (by omega) (by omega)]; omega
      refine ⟨⟨hr, hG1⟩, ?_, fun h => h, fun h => h, fun h => h, fun h => h, fun h => h, fun h => h, fun c2 => ⟨?_, (k - 1, (act s (Cm.playG p r)).1, out ++ [(act s (Cm.playG p r)).2] ++ [(5, (act s (Cm.playG p r)).2.2.1, 0, 0, 0)]), ⟨⟨⟨by omega, ?_⟩, ⟨a1 ▸ j1, by dsimp only; omega, by dsimp only; omega⟩, ?_⟩, by dsimp only; omega⟩, ⟨by trivial, by trivial, by trivial, by trivial, hw.symm⟩, by trivial, by trivial, by trivial⟩,
        fun c2 => ⟨(k - 1, (act s (Cm.playG p r)).1, out ++ [(act s (Cm.playG p r)).2]), ⟨⟨⟨by omega, ?_⟩, ⟨a1 ▸ j1, by dsimp only; omega, by dsimp only; omega⟩, ?_⟩, by dsimp only; omega⟩, ⟨by trivial, by trivial, by trivial, by trivial, hw.symm⟩, by trivial, by trivial, by trivial⟩⟩
      · show (out.length + 1) * 40 ≤ _; omega
      · show ((out ++ [_]).length + 1) * 40 ≤ _; simp; omega
      · simp; omega
      · rw [i4]; unfold Cm.playStep
        simp only [Bool.and_eq_true, beq_iff_eq, decide_eq_true_eq] at c2
        rw [if_pos ⟨c2.1.1, c2.1.2, c2.2⟩]
      · simp; omega
      · rw [i4]; unfold Cm.playStep
        rw [if_neg]
        intro h'
        have h2 := h'.2.1; have h3 := h'.2.2; dsimp only at h2 h3
        simp [h'.1, h2] at c2
        exact absurd h3 (Int.not_lt.mpr c2)
    · have hk : ¬ (0 < k ∧ out.length < 58) := by
        intro h'
        simp [h'.1] at hk
        omega
      rw [Cm.playGo_end hk] at i4
      unfold Cm.playM
      rw [i4]
      exact ⟨rfl, rfl, rfl, trivial⟩
  · have hs : Cm.play0 p tb r = ((r.1, Cm.inc (Cm.inc r.2)), []) := if_neg (of_decide_eq_false c)
    have hn := hp (r.1, Cm.inc (Cm.inc (Cm.inc r.2))) 52 (q _ _ (by simp only [Cm.inc]; omega) (by simp only [Cm.inc]; omega)) (by omega)
    have hN : Cm.playN p tb r = (p (r.1, Cm.inc (Cm.inc (Cm.inc r.2))) 52).toNat := by unfold Cm.playN; rw [hs]
    refine ⟨q _ _ (by simp only [Cm.inc]; omega) (by simp only [Cm.inc]; omega), q _ _ (by simp only [Cm.inc]; omega) (by simp only [Cm.inc]; omega),
      ⟨(Cm.playN p tb r, (r.1, Cm.inc (Cm.inc (Cm.inc (Cm.inc r.2)))), []), ⟨⟨?_, ?_⟩, q _ _ ?_ ?_, ?_⟩, ⟨by trivial, by trivial, by trivial, ?_, ?_⟩, by trivial, by trivial, by trivial⟩, ?_⟩
    · rw [hN]; dsimp only; omega
    · simp
    · simp only [Cm.inc]; omega
    · rw [hN]; simp only [Cm.inc] at hn ⊢; omega
    · unfold Cm.playE; rw [hs]
    · unfold Cm.playT; rw [hs]
    · rw [hN]; exact Int.toNat_of_nonneg hn.1
    rintro ⟨k, s, out⟩ ⟨⟨i1, i2⟩, ⟨j1, j2, j3⟩, i4⟩
    dsimp only at i1 i2 j1 j2 j3 i4 ⊢
    refine ⟨fun h => h, fun h => h, fun h => h, fun hk => ?_, fun hk => ?_⟩
    · simp only [Bool.and_eq_true, decide_eq_true_eq] at hk
      have hk : 0 < k ∧ out.length < 58 := by omega
      rw [Cm.playGo_step hk.1 hk.2] at i4
      have hr : rdOk s 274877906944 := ⟨j1, j2, by omega⟩
      obtain ⟨a1, a2, a3⟩ := ha s _ hr hG1.1 hG1.2
      have hw : IntKind.wrap .i64 ((k : Int) - 1) = ((k - 1 : Nat) : Int) := by rw [Cm.wrap_id (by omega) (by omega)]; omega
      refine ⟨⟨hr, hG1⟩, ?_, fun h => h, fun h => h, fun h => h, fun h => h, fun h => h, fun h => h, fun c2 => ⟨?_, (k - 1, (act s (Cm.playG p r)).1, out ++ [(act s (Cm.playG p r)).2] ++ [(5, (act s (Cm.playG p r)).2.2.1, 0, 0, 0)]), ⟨⟨⟨by omega, ?_⟩, ⟨a1 ▸ j1, by dsimp only; omega, by dsimp only; omega⟩, ?_⟩, by dsimp only; omega⟩, ⟨by trivial, by trivial, by trivial, by trivial, hw.symm⟩, by trivial, by trivial, by trivial⟩,
        fun c2 => ⟨(k - 1, (act s (Cm.playG p r)).1, out ++ [(act s (Cm.playG p r)).2]), ⟨⟨⟨by omega, ?_⟩, ⟨a1 ▸ j1, by dsimp only; omega, by dsimp only; omega⟩, ?_⟩, by dsimp only; omega⟩, ⟨by trivial, by trivial, by trivial, by trivial, hw.symm⟩, by trivial, by trivial, by trivial⟩⟩
      · show (out.length + 1) * 40 ≤ _; omega
      · show ((out ++ [_]).length + 1) * 40 ≤ _; simp; omega
      · simp; omega
      · rw [i4]; unfold Cm.playStep
        simp only [Bool.and_eq_true, beq_iff_eq, decide_eq_true_eq] at c2
        rw [if_pos ⟨c2.1.1, c2.1.2, c2.2⟩]
      · simp; omega
      · rw [i4]; unfold Cm.playStep
        rw [if_neg]
        intro h'
        have h2 := h'.2.1; have h3 := h'.2.2; dsimp only at h2 h3
        simp [h'.1, h2] at c2
        exact absurd h3 (Int.not_lt.mpr c2)
    · have hk : ¬ (0 < k ∧ out.length < 58) := by
        intro h'
        simp [h'.1] at hk
        omega
      rw [Cm.playGo_end hk] at i4
      unfold Cm.playM
      rw [i4]
      exact ⟨rfl, rfl, rfl, trivial⟩))
end Go.Proofs.Ytcfmelkegjpciaa.T

open Go Go.Am Go.Proofs
open Go.Cm (R rdOk)
namespace Go.Proofs.Ytcfmelkegjpciaa.T
set_option maxRecDepth 10000
theorem ok22 : FOk E0 Try.f22 sWithout := FOk.of1 fun (l : List Cm.A) hn => FGA.fg (an := fun _ => an22 l) ((vc22 l).mpr (by
  have hn : l.length ≤ 16777216 := hn
  simp only [ifb_iff, imp_self, implies_true, true_and, and_true]
  refine ⟨⟨0, by omega, rfl, rfl⟩, fun a h1 => ⟨fun hlt => ?_, fun hge => ?_⟩⟩
  · have hlt : a < l.length := by simpa using hlt
    have hw : IntKind.wrap .i64 ((a : Int) + 1) = ((a + 1 : Nat) : Int) := by rw [Cm.wrap_id (by omega) (by omega)]; omega
    have ht := Cm.take_succ_getD Cm.a0 hlt
    generalize l.getD a Cm.a0 = x at ht ⊢
    have hle : (Cm.ownL (l.take a)).length ≤ l.length := Nat.le_trans (List.length_filter_le _ _) (by simp; omega)
    refine ⟨by omega, fun _ => by omega, fun c => ⟨by omega, by omega, a + 1, by omega, hw.symm, ?_⟩, fun c => ⟨a + 1, by omega, hw.symm, ?_⟩⟩
    · have c : Cm.own x = true := c
      rw [ht, Cm.ownL_append]; simp [Cm.ownL, c]
    · have c : Cm.own x = false := c
      rw [ht, Cm.ownL_append]; simp [Cm.ownL, c]
  · have hge : ¬ a < l.length := by simpa using hge
    rw [List.take_of_length_le (by omega)]))
theorem ok21 : FOk E22 Try.f21 sJust := FOk.of2 fun (l : List Cm.A) (g : Int) hn => FGA.fg (an := fun _ => an21 l g) ((vc21 l g).mpr (by
  have hn : l.length ≤ 16777216 := hn
  simp only [ifb_iff, imp_self, implies_true, true_and, and_true]
  refine ⟨⟨0, by omega, rfl, rfl⟩, fun a h1 => ⟨fun hlt => ?_, fun hge => ?_⟩⟩
  · have hlt : a < l.length := by simpa using hlt
    have hw : IntKind.wrap .i64 ((a : Int) + 1) = ((a + 1 : Nat) : Int) := by rw [Cm.wrap_id (by omega) (by omega)]; omega
    have ht := Cm.take_succ_getD Cm.a0 hlt
    generalize l.getD a Cm.a0 = x at ht ⊢
    have hle : (Cm.justL g (l.take a)).length ≤ l.length := Nat.le_trans (List.length_filter_le _ _) (by simp; omega)
    refine ⟨by omega, fun c => ⟨by omega, by omega, a + 1, by omega, hw.symm, ?_⟩, fun c => ⟨a + 1, by omega, hw.symm, ?_⟩⟩
    · rw [ht, Cm.justL_append]; simp only [beq_iff_eq] at c; simp [Cm.justL, c]
    · rw [ht, Cm.justL_append]; simp only [beq_eq_false_iff_ne] at c; simp [Cm.justL, c]
  · have hge : ¬ a < l.length := by simpa using hge
    have hle : (Cm.justL g l).length ≤ l.length := List.length_filter_le _ _
    rw [List.take_of_length_le (by omega)]
    exact ⟨by omega, rfl⟩))
/-- What is asked of drawn acts. -/
def DrawOk (D : List Int → List Cm.A) : Prop := ∀ b, Cm.bytes b → (D b).length ≤ 100
theorem ok4 {D : List Int → List Cm.A} (hD : DrawOk D) : FOk (Et D) Try.f4 sLawBB := FOk.of2 fun (b m : List Int) hb => FGA.fg (an := no) ((vc4 D b m).mpr (by
  have hl := hD b hb
  simp only [ifb_iff, imp_self, implies_true, true_and, and_true]
  refine ⟨fun h => by rw [h]; rfl, fun h => ⟨hb, by omega, by omega, ?_, fun h2 => ⟨by omega, by simp⟩, fun h2 => ?_⟩⟩
  · simp
  · have ht : Cm.tidy (D b) = true := by simpa using h2
    have hw : IntKind.wrap .i64 (((D b).length : Int) + 1) = ((D b).length : Int) + 1 := Cm.wrap_id (by omega) (by omega)
    have hm := Cm.tmod_pos (x := (m.length : Int)) (n := ((D b).length : Int) + 1) (by omega) (by omega)
    simp only [hw]
    refine ⟨by omega, ⟨by omega, hm.1, by omega⟩, Cm.len_take_le (by omega), fun _ => by omega, fun _ => ?_, ?_⟩
    · simp; omega
    · rw [List.take_length, Cm.tidy_take ht, Cm.tidy_drop ht]; rfl))
theorem ok5 {D : List Int → List Cm.A} (hD : DrawOk D) : FOk (Et D) Try.f5 sLawBB := FOk.of2 fun (b m : List Int) hb => FGA.fg (an := no) ((vc5 D b m).mpr (by
  have hl := hD b hb
  simp only [ifb_iff, imp_self, implies_true, true_and, and_true]
  have hm := Cm.tmod_pos (x := (m.length : Int)) (n := 2) (by omega) (by omega)
  obtain ⟨g, hg⟩ : ∃ g, Int.tmod (m.length : Int) 2 = g := ⟨_, rfl⟩
  rw [hg] at hm
  simp only [hg, List.append_eq]
  have hgg : g = 0 ∨ g = 1 := by omega
  have bad : Cm.tidy ((D b ++ [(5, 0, 0, 0, 0), (5, 1, 0, 0, 0)]) ++ [(2, g, g, 0, 5), (3, g, 0, 0, 0)]) = false := by
    cases e : Cm.tidy ((D b ++ [(5, 0, 0, 0, 0), (5, 1, 0, 0, 0)]) ++ [(2, g, g, 0, 5), (3, g, 0, 0, 0)])
    · rfl
    · have e := Cm.tidy_right e
      rcases hgg with rfl | rfl <;> exact absurd e (by decide)
  have good : Cm.tidy ((D b ++ [(5, 0, 0, 0, 0), (5, 1, 0, 0, 0)]) ++ [(2, g, g, 0, 5), (5, g, 0, 0, 0), (3, g, 0, 0, 0)]) = Cm.tidy (D b ++ [(5, 0, 0, 0, 0), (5, 1, 0, 0, 0)]) := by
    rw [List.append_assoc]
    exact Cm.tidy_f (fun a ha => by simp at ha; rcases ha with rfl | rfl | rfl <;> exact hgg) (by rcases hgg with rfl | rfl <;> decide) (D b)
  simp only [bad, good]
  refine ⟨fun h => by rw [h]; rfl, fun h => ⟨hb, by omega, by omega, fun h2 => by simp at h2, fun _ => ?_⟩⟩
  simp; omega))
theorem ok6 {D : List Int → List Cm.A} (hD : DrawOk D) : FOk (Ep6 D) Try.f6 sLawB := FOk.of1 fun (b : List Int) hb => FGA.fg (an := fun _ => an6 (D b)) ((vc6 D b).mpr (by
  have hl := hD b hb
  simp only [ifb_iff, imp_self, implies_true, true_and, and_true]
  refine fun _ => ⟨hb, by omega, by omega, fun h2 => by simp at h2, fun _ => ⟨⟨0, by omega, rfl, rfl⟩, fun a h1 => ⟨fun hlt => ?_, fun hge => ?_⟩⟩⟩
  · have hlt : a < (D b).length := by simpa using hlt
    have hw : IntKind.wrap .i64 ((a : Int) + 1) = ((a + 1 : Nat) : Int) := by rw [Cm.wrap_id (by omega) (by omega)]; omega
    refine ⟨by omega, by omega, ?_, a + 1, by omega, hw.symm, ?_⟩
    · rw [Cm.madeL_len, List.length_take]; omega
    · rw [Cm.take_succ_getD Cm.a0 hlt, Cm.madeL_append]; rfl
  · have hge : ¬ a < (D b).length := by simpa using hge
    rw [List.take_of_length_le (by omega)]
    have l1 : ∀ g, (Cm.justL g (D b)).length ≤ (D b).length := fun g => List.length_filter_le _ _
    have l2 : ∀ l, (Cm.ownL l).length ≤ l.length := fun l => List.length_filter_le _ _
    have l3 := fun g => Nat.le_trans (Nat.le_trans (l2 (Cm.justL g (D b))) (l1 g)) (show (D b).length ≤ 16777216 by omega)
    rw [Cm.tidy_madeL, Cm.madeL_len]
    refine ⟨by omega, fun _ => by omega, by simp, fun h2 => by simp [Cm.tidy] at h2, fun _ => ⟨by omega, l3 0, fun _ => by omega, fun _ => l3 1, fun _ => by omega, fun _ => Nat.le_trans (l2 _) (by omega), ?_, ?_, ?_⟩⟩
    · intro h3 h4; rw [h3, h4]; rfl
    · cases Cm.tidy (D b) <;> simp
    · cases e : Cm.tidy (D b)
      · rfl
      · rw [Cm.tidy_ownL e, Cm.tidy_ownL (Cm.tidy_justL e), Cm.tidy_ownL (Cm.tidy_justL e)]; rfl))
end Go.Proofs.Ytcfmelkegjpciaa.T

open Go Go.Am Go.Proofs
open Go.Cm (R rdOk)
namespace Go.Proofs.Ytcfmelkegjpciaa.T
theorem tabGo_ok (p : R → Int → Int) (g : Int) : ∀ (n k : Nat) (s : R × List Cm.A), ((Cm.tabGo p g n k s).1.1 = s.1.1 ∧ s.1.2 ≤ (Cm.tabGo p g n k s).1.2 ∧ (Cm.tabGo p g n k s).1.2 ≤ s.1.2 + 2 * n) ∧ (Cm.tabGo p g n k s).2.length ≤ s.2.length + 2 * n
  | 0, _, s => by simp [Cm.tabGo]
  | n + 1, k, s => by
    obtain ⟨⟨h1, h2, h3⟩, h4⟩ := tabGo_ok p g n (k + 1) (Cm.tabStep p g k s)
    have e : ((Cm.tabStep p g k s).1.1 = s.1.1 ∧ s.1.2 ≤ (Cm.tabStep p g k s).1.2 ∧ (Cm.tabStep p g k s).1.2 ≤ s.1.2 + 2) ∧ (Cm.tabStep p g k s).2.length ≤ s.2.length + 2 := by
      unfold Cm.tabStep Cm.adv
      split
      · simp; omega
      · simp; omega
    rw [Cm.tabGo]
    refine ⟨⟨by rw [h1]; exact e.1.1, by omega, by omega⟩, by omega⟩
theorem tabs_good (p : R → Int → Int) : TabsOk fun r g => Cm.tabGo p g 6 0 (r, []) := fun r g _ => by
  obtain ⟨⟨h1, h2, h3⟩, h4⟩ := tabGo_ok p g 6 0 (r, [])
  have h4 : (Cm.tabGo p g 6 0 (r, [])).2.length ≤ 0 + 2 * 6 := h4
  dsimp only at h1 h2 h3 h4 ⊢
  exact ⟨⟨h1, h2, by omega⟩, by omega⟩
theorem act_good {p : R → Int → Int} (hp : PickOk p) : ActOk (actF p) := fun _ _ h1 h2 h3 => (actF_ok hp ⟨h1, h2, h3⟩).2
theorem playGo_len (act : R → Int → R × Cm.A) (g : Int) (t : Bool) : ∀ (n : Nat) (s : R × List Cm.A), s.2.length ≤ 60 → (Cm.playGo act g t n s).2.length ≤ 60
  | 0, _, h => h
  | n + 1, s, h => by
    rw [Cm.playGo]
    split
    · refine playGo_len act g t n _ ?_
      unfold Cm.playStep
      dsimp only
      split
      · simp; omega
      · simp; omega
    · exact h
theorem play_len {p : R → Int → Int} {act : R → Int → R × Cm.A} {tb : R → Int → R × List Cm.A} (ht : TabsOk tb) {r : R} (h : rdOk r 137438953472) : (Cm.playM p act tb r).2.2.length ≤ 60 := by
  refine playGo_len _ _ _ _ _ ?_
  unfold Cm.play0
  dsimp only
  split
  · obtain ⟨h1, h2, h3⟩ := h
    have := (ht (r.1, Cm.inc (Cm.inc (Cm.inc r.2))) (p (r.1, Cm.inc (Cm.inc r.2)) (Cm.playG p r)) ⟨h1, by simp only [Cm.inc]; omega, by simp only [Cm.inc]; omega⟩).2
    omega
  · simp
noncomputable def drawF (b : List Int) : List Cm.A := (Cm.playM pickF (actF pickF) (fun r g => Cm.tabGo pickF g 6 0 (r, [])) (Cm.cut2 b, 0)).2.2
theorem draw_good : DrawOk drawF := fun _ h => Nat.le_trans (play_len (tabs_good _) (cut2_ok h (by decide))) (by decide)
theorem kn_105 : Known Try.prog 105 (sPick pickF) := known_of tabOk kn0 mixed Try.func105 (by kernel_rfl) ok105
theorem kn_69 : Known Try.prog 69 sOpen := known_of tabOk kn0 mixed Try.func69 (by kernel_rfl) ok69
theorem knEp : AllK Try.prog [(105, [sPick pickF])] := AllK.cons kn0 kn_105
theorem kn_128 : Known Try.prog 128 (sWord (Cm.wordM pickF)) := known_of tabOk knEp mixed Try.func128 (by kernel_rfl) (ok128 pickF)
theorem kn_123 : Known Try.prog 123 (sTables fun r g => Cm.tabGo pickF g 6 0 (r, [])) := known_of tabOk knEp mixed Try.func123 (by kernel_rfl) (ok123 pickF pickF_good)
theorem knEw : AllK Try.prog [(105, [sPick pickF]), (128, [sWord (Cm.wordM pickF)])] := AllK.cons (AllK.cons kn0 kn_128) kn_105
theorem kn_80 : Known Try.prog 80 (sAct (actF pickF)) := known_of tabOk knEw mixed Try.func80 (by kernel_rfl) (ok80 pickF_good)
theorem knEa : AllK Try.prog [(105, [sPick pickF]), (128, [sWord (Cm.wordM pickF)]), (80, [sAct (actF pickF)]), (123, [sTables fun r g => Cm.tabGo pickF g 6 0 (r, [])])] := AllK.cons (AllK.cons (AllK.cons (AllK.cons kn0 kn_123) kn_80) kn_128) kn_105
theorem kn_70 : Known Try.prog 70 (sPlay (Cm.playM pickF (actF pickF) fun r g => Cm.tabGo pickF g 6 0 (r, []))) := known_of tabOk knEa mixed Try.func70 (by kernel_rfl) (ok70 pickF_good (act_good pickF_good) (tabs_good pickF))
theorem kn_20 : Known Try.prog 20 (sDrawTidy drawF) := known_of tabOk (AllK.cons (AllK.cons kn0 kn_70) kn_69) mixed Try.func20 (by kernel_rfl) (ok20 pickF (actF pickF) fun r g => Cm.tabGo pickF g 6 0 (r, []))
theorem kn_22 : Known Try.prog 22 sWithout := known_of tabOk kn0 mixed Try.func22 (by kernel_rfl) ok22
theorem kn_21 : Known Try.prog 21 sJust := known_of tabOk (AllK.cons kn0 kn_22) mixed Try.func21 (by kernel_rfl) ok21
theorem knEt : AllK Try.prog [(18, [sTidy]), (16, [sTidy]), (20, [sDrawTidy drawF])] := AllK.cons (AllK.cons (AllK.cons kn0 kn_20) kn_16) kn_18
theorem kn_4 : Known Try.prog 4 sLawBB := known_of tabOk knEt mixed Try.func4 (by kernel_rfl) (ok4 draw_good)
theorem kn_5 : Known Try.prog 5 sLawBB := known_of tabOk knEt mixed Try.func5 (by kernel_rfl) (ok5 draw_good)
theorem kn_6 : Known Try.prog 6 sLawB := known_of tabOk (AllK.cons (AllK.cons (AllK.cons (AllK.cons (AllK.cons kn0 kn_22) kn_21) kn_20) kn_16) kn_18) mixed Try.func6 (by kernel_rfl) (ok6 draw_good)
end Go.Proofs.Ytcfmelkegjpciaa.T

