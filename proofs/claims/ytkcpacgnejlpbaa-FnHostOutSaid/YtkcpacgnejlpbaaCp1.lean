/-
  For each function: its contract holds; the conditions stand in the contracts.
-/
import Derived.Test.YtkcpacgnejlpbaaVc1
import Derived.OpenShut
import Derived.ShutString
import Derived.ChangeOld
import Derived.Carry
set_option linter.all false
set_option maxHeartbeats 0
open Go Go.Am Go.Proofs
namespace Go.Proofs.Ytkcpacgnejlpbaa.T
theorem ok98 : FOk E0 Try.f57 sWithin := FOk.of3 fun (n lo hi : Int) _ => FGA.fg ((vc98 n lo hi).mpr (by simp [Cm.within]))
theorem ok107 : FOk E0 Try.f66 sWithin := FOk.of3 fun (n lo hi : Int) _ => FGA.fg ((vc107 n lo hi).mpr (by simp [Cm.within]))
theorem ok104 : FOk E_spec_l21Own Try.f149 sOwn := FOk.of1 fun a _ => FGA.fg ((vc104 a).mpr (by simp [Cm.own]))
set_option maxRecDepth 100000
theorem mixed : Try.prog.follows .mixedOrders = true := by kernel_rfl
theorem kn0 : AllK Try.prog [] := trivial
theorem kn_98 : Known Try.prog 57 sWithin := known_of tabOk (kn0) mixed Try.func57 (by kernel_rfl) ok98
theorem kn_107 : Known Try.prog 66 sWithin := known_of tabOk (kn0) mixed Try.func66 (by kernel_rfl) ok107
theorem kn_104 : Known Try.prog 149 sOwn := known_of tabOk (AllK.cons kn0 kn_107) mixed Try.func149 (by kernel_rfl) ok104
end Go.Proofs.Ytkcpacgnejlpbaa.T
open Go Go.Am Go.Proofs
open Go.Cm (R rdOk)
namespace Go.Proofs.Ytkcpacgnejlpbaa.T
theorem pick_ex (r : R) (n : Int) (h : rdOk r 1099511627776) : ∃ X : Int, FGA E0 Try.f85 (sPick fun _ _ => X) [⟨kR, r⟩, ⟨kI, n⟩] no ∧ (1 ≤ n → 0 ≤ X ∧ X < n) ∧ (n < 1 → X = 0) := by
  obtain ⟨⟨h1, h2⟩, h3, h4⟩ := h
  have e1 : IntKind.wrap .i64 (r.2 + 1) = r.2 + 1 := Cm.wrap_id (by omega) (by omega)
  have e2 : IntKind.wrap .i64 (r.2 + 1 - 1) = r.2 := by rw [Cm.wrap_id (by omega) (by omega)]; omega
  have e3 : IntKind.wrap .i64 (r.2 * 7) = r.2 * 7 := Cm.wrap_id (by omega) (by omega)
  have e4 : IntKind.wrap .i64 (r.2 * 7 + 3) = r.2 * 7 + 3 := Cm.wrap_id (by omega) (by omega)
  simp only [vc105, ifb_iff, Cm.inc, e1, e2, e3, e4]
  have hn : ∀ b : Bool, (b = true → b = true) = True := fun b => by simp
  by_cases c1 : n < 1 ∨ r.1.length = 0
  · refine ⟨0, ⟨fun h => h, fun h => h, fun h => h, fun h => h, fun h => h, fun h => by simpa using h, fun _ => ⟨rfl, trivial, trivial⟩, fun h => ?_⟩, fun h => by omega, fun _ => rfl⟩
    simp at h; rcases c1 with c | c
    · omega
    · exact absurd (List.length_eq_zero_iff.1 c) h.2
  · have hlen : 0 < r.1.length := by omega
    have hn1 : 1 ≤ n := by omega
    have hb : ∀ i : Int, 0 ≤ i → i < (r.1.length : Int) → 0 ≤ r.1.getD i.toNat 0 ∧ r.1.getD i.toNat 0 ≤ 255 := fun i g1 g2 => h2 i.toNat (by omega)
    have hcond : (decide (n < 1) || ((r.1.length : Int) == 0)) = false := by
      have q1 : ¬ n < 1 := by omega
      have q3 : r.1 ≠ [] := by intro h; rw [h] at hlen; simp at hlen
      simp [q1, q3]
    by_cases c2 : r.2 < (r.1.length : Int)
    · obtain ⟨b1, b2⟩ := hb r.2 h3 c2
      have hw : IntKind.wrap .i64 (r.1.getD r.2.toNat 0) = r.1.getD r.2.toNat 0 := Cm.wrap_id (by omega) (by omega)
      have := Cm.tmod_pos b1 (show 0 < n by omega)
      refine ⟨(r.1.getD r.2.toNat 0).tmod n, ⟨fun h => h, fun h => h, fun h => h, fun h => h, fun h => h, fun h => by simpa using h, fun h => ?_, fun _ => ⟨fun _ => ⟨⟨h3, c2⟩, by omega, by rw [hw], trivial, trivial⟩, fun h => ?_⟩⟩, fun _ => this, fun h => by omega⟩
      · rw [hcond] at h; cases h
      · simp at h; omega
    · have hl : (0 : Int) < (r.1.length : Int) := by omega
      obtain ⟨d1, d2⟩ := Cm.tmod_pos h3 hl
      obtain ⟨d3, d4⟩ := Cm.tmod_pos (show 0 ≤ r.2 * 7 + 3 by omega) hl
      obtain ⟨b1, b2⟩ := hb _ d1 d2
      obtain ⟨b3, b4⟩ := hb _ d3 d4
      obtain ⟨d5, d6⟩ := Cm.tdiv_bd h3 hl
      obtain ⟨u, hu⟩ : ∃ u, r.1.getD (r.2.tmod (r.1.length : Int)).toNat 0 = u := ⟨_, rfl⟩
      obtain ⟨v, hv⟩ : ∃ u, r.1.getD ((r.2 * 7 + 3).tmod (r.1.length : Int)).toNat 0 = u := ⟨_, rfl⟩
      obtain ⟨q, hq⟩ : ∃ u, r.2.tdiv (r.1.length : Int) = u := ⟨_, rfl⟩
      rw [hu] at b1 b2; rw [hv] at b3 b4; rw [hq] at d5 d6
      simp only [hu, hv, hq]
      have w1 : IntKind.wrap .i64 u = u := Cm.wrap_id (by omega) (by omega)
      have w2 : IntKind.wrap .i64 (u * 131) = u * 131 := Cm.wrap_id (by omega) (by omega)
      have w3 : IntKind.wrap .i64 v = v := Cm.wrap_id (by omega) (by omega)
      have w4 : IntKind.wrap .i64 (v * 1117) = v * 1117 := Cm.wrap_id (by omega) (by omega)
      have w5 : IntKind.wrap .i64 (u * 131 + v * 1117) = u * 131 + v * 1117 := Cm.wrap_id (by omega) (by omega)
      have w6 : IntKind.wrap .i64 (r.2 * 29) = r.2 * 29 := Cm.wrap_id (by omega) (by omega)
      have w7 : IntKind.wrap .i64 (u * 131 + v * 1117 + r.2 * 29) = u * 131 + v * 1117 + r.2 * 29 := Cm.wrap_id (by omega) (by omega)
      have w8 : IntKind.wrap .i64 q = q := Cm.wrap_id (by omega) (by omega)
      have w9 : IntKind.wrap .i64 (q * 53) = q * 53 := Cm.wrap_id (by omega) (by omega)
      have w10 : IntKind.wrap .i64 (u * 131 + v * 1117 + r.2 * 29 + q * 53) = u * 131 + v * 1117 + r.2 * 29 + q * 53 := Cm.wrap_id (by omega) (by omega)
      simp only [w1, w2, w3, w4, w5, w6, w7, w8, w9, w10]
      obtain ⟨z, hz⟩ : ∃ u', u * 131 + v * 1117 + r.2 * 29 + q * 53 = u' := ⟨_, rfl⟩
      have hz0 : 0 ≤ z ∧ z < 4611686018427387904 := by omega
      simp only [hz]
      obtain ⟨f1, f2⟩ := Cm.tdiv_bd hz0.1 (show (0 : Int) < 64 by omega)
      have w11 : IntKind.wrap .i64 (z.tdiv 64) = z.tdiv 64 := Cm.wrap_id (by omega) (by omega)
      simp only [w11]
      have hx := Cm.xor_nn hz0.1 hz0.2 f1 (by omega)
      have hl0 : (r.1.length : Int) ≠ 0 := by omega
      refine ⟨(xorI .i64 z (z.tdiv 64)).tmod n, ⟨fun h => h, fun h => h, fun h => h, fun h => h, fun h => h, fun h => by simpa using h, fun h => ?_, fun _ => ⟨fun h => ?_, fun _ => ⟨hl0, ⟨d1, d2⟩, hl0, ⟨d3, d4⟩, hl0, ?_⟩⟩⟩, fun _ => Cm.tmod_pos hx (by omega), fun h => by omega⟩
      · rw [hcond] at h; cases h
      · simp at h; omega
      · exact ⟨by decide, by omega, rfl, trivial, trivial⟩
open Classical in
noncomputable def pickF (r : R) (n : Int) : Int := if h : rdOk r 1099511627776 then (pick_ex r n h).choose else 0
theorem pickF_ok {r : R} {n : Int} (h : rdOk r 1099511627776) : FGA E0 Try.f85 (sPick fun _ _ => pickF r n) [⟨kR, r⟩, ⟨kI, n⟩] no ∧ (1 ≤ n → 0 ≤ pickF r n ∧ pickF r n < n) ∧ (n < 1 → pickF r n = 0) := by
  unfold pickF; rw [dif_pos h]; exact (pick_ex r n h).choose_spec
theorem ok105 : FOk E0 Try.f85 (sPick pickF) := FOk.of2 fun (r : R) (n : Int) h => FGA.fg (an := no) (((vc105 pickF r n).trans (vc105 (fun _ _ => pickF r n) r n).symm).mpr (pickF_ok h).1)
end Go.Proofs.Ytkcpacgnejlpbaa.T
open Go Go.Am Go.Proofs
open Go.Cm (R rdOk)
namespace Go.Proofs.Ytkcpacgnejlpbaa.T
/-- What is asked of a pick. -/
def PickOk (p : R → Int → Int) : Prop := ∀ r n, rdOk r 1099511627776 → 1 ≤ n → 0 ≤ p r n ∧ p r n < n
theorem pickF_good : PickOk pickF := fun r n h hn => (pickF_ok h).2.1 hn
theorem ok69 : FOk E0 Try.f62 sOpen := FOk.of1 fun (b : List Int) _ => FGA.fg (an := no) ((vc69 b).mpr (by
  simp only [ifb_iff, Cm.cut2]
  refine ⟨fun h => ?_, fun h => ?_⟩
  · have h : b.length > 2000 := by have := of_decide_eq_true h; omega
    refine ⟨by omega, ?_, trivial⟩
    rw [if_pos h]
  · have h : ¬ b.length > 2000 := by have := of_decide_eq_false h; omega
    rw [if_neg h]; exact ⟨rfl, trivial⟩))
theorem ok128 (p : R → Int → Int) : FOk (Ep p) Try.f90 (sWord (Cm.wordM p)) := FOk.of1 fun (r : R) h => FGA.fg (an := no) ((vc128 p r).mpr (by
  obtain ⟨h1, h2, h3⟩ := (show rdOk r 549755813888 from h)
  have q : ∀ n : Int, 0 ≤ n → n ≤ 1099511627776 → rdOk (r.1, n) 1099511627776 := fun n a b => ⟨h1, a, b⟩
  simp only [ifb_iff, Cm.inc]
  refine ⟨q _ (by omega) (by omega), fun c => ⟨q _ (by omega) (by omega), ?_, trivial, trivial⟩, fun c => ⟨q _ (by omega) (by omega), ?_, trivial, trivial⟩⟩
  · have c : p r 3 = 0 := by simpa using c
    rw [Cm.wordM, if_pos c]; rfl
  · have c : ¬ p r 3 = 0 := by simpa using c
    rw [Cm.wordM, if_neg c]; rfl))
end Go.Proofs.Ytkcpacgnejlpbaa.T
open Go Go.Am Go.Proofs
open Go.Cm (R rdOk)
namespace Go.Proofs.Ytkcpacgnejlpbaa.T
set_option maxRecDepth 10000
theorem act_ex {p : R → Int → Int} (hp : PickOk p) (r : R) (g : Int) (h : rdOk r 274877906944 ∧ 1 ≤ g ∧ g ≤ 100) :
    ∃ X : R × Cm.A, FGA (Ew p) Try.f131 (sAct fun _ _ => X) [⟨kR, r⟩, ⟨kI, g⟩] no ∧ X.1.1 = r.1 ∧ r.2 ≤ X.1.2 ∧ X.1.2 ≤ r.2 + 20 := by
  obtain ⟨⟨h1, h2, h3⟩, h4, h5⟩ := h
  have q : ∀ n : Int, 0 ≤ n → n ≤ 1099511627776 → rdOk (r.1, n) 1099511627776 := fun n a b => ⟨h1, a, b⟩
  have q' : ∀ n : Int, 0 ≤ n → n ≤ 549755813888 → rdOk (r.1, n) 549755813888 := fun n a b => ⟨h1, a, b⟩
  simp only [vc80, Cm.inc]
  obtain ⟨t, ht⟩ : ∃ t, p (r.1, r.2 + 1 + 1 + 1 + 1 + 1) 20 = t := ⟨_, rfl⟩
  have hb := hp (r.1, r.2 + 1 + 1 + 1 + 1 + 1) 20 (q _ (by omega) (by omega)) (by omega)
  rw [ht] at hb
  simp only [ht]
  have hc : t = 0 ∨ t = 1 ∨ t = 2 ∨ t = 3 ∨ t = 4 ∨ t = 5 ∨ t = 6 ∨ t = 7 ∨ t = 8 ∨ t = 9 ∨ t = 10 ∨ t = 11 ∨ t = 12 ∨ t = 13 ∨ t = 14 ∨ t = 15 ∨ t = 16 ∨ t = 17 ∨ t = 18 ∨ t = 19 := by omega
  have b0 : rdOk (r.1, r.2) 1099511627776 ∧ rdOk (r.1, r.2 + 1) 1099511627776 ∧ rdOk (r.1, r.2 + 1 + 1) 1099511627776 ∧ rdOk (r.1, r.2 + 1 + 1 + 1) 549755813888 ∧ rdOk (r.1, r.2 + 1 + 1 + 1 + 1 + 1) 1099511627776 ∧
    rdOk (r.1, r.2 + 1 + 1 + 1 + 1 + 1 + 1) 1099511627776 ∧ rdOk (r.1, r.2 + 1 + 1 + 1 + 1 + 1 + 1 + 1) 1099511627776 ∧ rdOk (r.1, r.2 + 1 + 1 + 1 + 1 + 1 + 1 + 1 + 1) 1099511627776 :=
    ⟨q _ (by omega) (by omega), q _ (by omega) (by omega), q _ (by omega) (by omega), q' _ (by omega) (by omega), q _ (by omega) (by omega), q _ (by omega) (by omega), q _ (by omega) (by omega), q _ (by omega) (by omega)⟩
  have c3 := hp (r.1, r.2 + 1 + 1 + 1 + 1 + 1 + 1) 3 (q _ (by omega) (by omega)) (by omega)
  have c2 := hp (r.1, r.2 + 1 + 1 + 1 + 1 + 1 + 1 + 1) 2 (q _ (by omega) (by omega)) (by omega)
  rcases hc with rfl | rfl | rfl | rfl | rfl | rfl | rfl | rfl | rfl | rfl | rfl | rfl | rfl | rfl | rfl | rfl | rfl | rfl | rfl | rfl
  all_goals simp only [b0, true_and, and_true, Int.reduceBEq, ifb]
  all_goals first
    | (refine ⟨(_, _), ⟨rfl, rfl⟩, rfl, ?_, ?_⟩ <;> dsimp only <;> omega)
    | (refine ⟨(_, _), ⟨by decide, by decide, rfl, rfl⟩, rfl, ?_, ?_⟩ <;> dsimp only <;> omega)
    | (refine ⟨(_, _), ⟨c3, rfl, rfl⟩, rfl, ?_, ?_⟩ <;> dsimp only <;> omega)
    | skip
  cases e1 : (p (r.1, r.2 + 1 + 1 + 1 + 1 + 1 + 1) 4 == 0) <;> cases e2 : (IntKind.i64.wrap (p (r.1, r.2 + 1 + 1 + 1 + 1 + 1 + 1 + 1) 12 - 1) == 0) <;> cases e3 : (p (r.1, r.2 + 1 + 1 + 1 + 1 + 1 + 1) 4 == 1) <;> cases e4 : (p (r.1, r.2 + 1 + 1 + 1 + 1 + 1 + 1) 4 == 2)
  all_goals simp only [e1, e2, e3, e4]
  all_goals first
    | (refine ⟨(_, _), ⟨rfl, rfl⟩, rfl, ?_, ?_⟩ <;> dsimp only <;> omega)
    | (refine ⟨(_, _), ⟨c2, rfl, rfl⟩, rfl, ?_, ?_⟩ <;> dsimp only <;> omega)
open Classical in
noncomputable def actF (p : R → Int → Int) (r : R) (g : Int) : R × Cm.A := if h : PickOk p ∧ (rdOk r 274877906944 ∧ 1 ≤ g ∧ g ≤ 100) then (act_ex h.1 r g h.2).choose else (r, 0, 0, 0, 0, 0)
theorem actF_ok {p : R → Int → Int} (hp : PickOk p) {r : R} {g : Int} (h : rdOk r 274877906944 ∧ 1 ≤ g ∧ g ≤ 100) :
    FGA (Ew p) Try.f131 (sAct fun _ _ => actF p r g) [⟨kR, r⟩, ⟨kI, g⟩] no ∧ (actF p r g).1.1 = r.1 ∧ r.2 ≤ (actF p r g).1.2 ∧ (actF p r g).1.2 ≤ r.2 + 20 := by
  unfold actF; rw [dif_pos ⟨hp, h⟩]; exact (act_ex hp r g h).choose_spec
theorem ok80 {p : R → Int → Int} (hp : PickOk p) : FOk (Ew p) Try.f131 (sAct (actF p)) := FOk.of2 fun (r : R) (g : Int) h => FGA.fg (an := no) (((vc80 p (actF p) r g).trans (vc80 p (fun _ _ => actF p r g) r g).symm).mpr (actF_ok hp h).1)
theorem ok123 (p : R → Int → Int) (hp : PickOk p) : FOk (Ep p) Try.f130 (sTables fun r g => Cm.tabGo p g 6 0 (r, [])) := FOk.of2 fun (r : R) (g : Int) h => FGA.fg (an := fun _ => anTab p r g) ((vc123 p r g).mpr (by
  obtain ⟨h1, h2, h3⟩ := (show rdOk r 274877906944 from h)
  simp only [ifb_iff, Cm.inc]
  refine ⟨⟨(0, r, []), ⟨⟨by omega, by simp⟩, ⟨h1, h2, by simpa using h3⟩, rfl⟩, ⟨trivial, trivial, trivial, rfl⟩, rfl, rfl, rfl⟩, fun ⟨k, s, out⟩ ⟨⟨i1, i2⟩, ⟨j1, j2, j3⟩, i4⟩ => ⟨fun hk => ?_, fun hk => ?_⟩⟩
  · have hk : (k : Int) < 6 := of_decide_eq_true hk
    have hw : IntKind.wrap .i64 ((k : Int) + 1) = ((k + 1 : Nat) : Int) := by rw [Cm.wrap_id (by omega) (by omega)]; omega
    dsimp only at i1 i2 j1 j2 j3 i4 ⊢
    have q : ∀ n : Int, 0 ≤ n → n ≤ 1099511627776 → rdOk (s.1, n) 1099511627776 := fun n a b => ⟨j1, a, b⟩
    have e6 : 6 - k = (6 - (k + 1)) + 1 := by omega
    have hstep : Cm.tabGo p g (6 - k) k (s, out) = Cm.tabGo p g (6 - (k + 1)) (k + 1) (Cm.tabStep p g k (s, out)) := by rw [e6]; rfl
    rw [hstep] at i4
    refine ⟨q _ (by omega) (by omega), fun c => ?_, fun c => ⟨(k + 1, (s.1, s.2 + 1), out), ⟨⟨⟨by omega, by dsimp only; omega⟩, ⟨j1, by dsimp only; omega, by dsimp only; omega⟩, ?_⟩, by omega⟩, ⟨trivial, trivial, trivial, hw.symm⟩, rfl, rfl, rfl⟩⟩
    · have c : p s 4 > 0 := of_decide_eq_true c
      have hp8 := hp (s.1, s.2 + 1) 8 (q _ (by omega) (by omega)) (by omega)
      have w5 : IntKind.wrap .i64 (5 + p (s.1, s.2 + 1) 8) = 5 + p (s.1, s.2 + 1) 8 := Cm.wrap_id (by omega) (by omega)
      have d1 : (k : Int).tdiv 4 = ((k / 4 : Nat) : Int) := rfl
      have d2 : (k : Int).tmod 4 = ((k % 4 : Nat) : Int) := rfl
      have w6 : IntKind.wrap .i64 ((k / 4 : Nat) : Int) = ((k / 4 : Nat) : Int) := Cm.wrap_id (by omega) (by omega)
      simp only [d1, d2, w5, w6, hw]
      refine ⟨by decide, by decide, q _ (by omega) (by omega), ?_, (k + 1, (s.1, s.2 + 1 + 1), out ++ [(2, g, ((k / 4 : Nat) : Int), ((k % 4 : Nat) : Int), 5 + p (s.1, s.2 + 1) 8), (5, g, 0, 0, 0)]), ⟨⟨⟨by omega, by simp; omega⟩, ⟨j1, by dsimp only; omega, by dsimp only; omega⟩, ?_⟩, by omega⟩, ⟨trivial, trivial, trivial, rfl⟩, rfl, rfl, rfl⟩
      · show (out.length + 2) * 40 ≤ _; omega
      · rw [i4]
        unfold Cm.tabStep
        rw [if_pos c]
        simp [Cm.adv, Int.add_assoc]
    · have c : ¬ p s 4 > 0 := of_decide_eq_false c
      rw [i4]
      unfold Cm.tabStep
      rw [if_neg c]
      rfl
  · have hk : ¬ (k : Int) < 6 := of_decide_eq_false hk
    have : 6 - k = 0 := by omega
    rw [i4]
    dsimp only
    rw [this]
    exact ⟨rfl, rfl, trivial⟩))
end Go.Proofs.Ytkcpacgnejlpbaa.T
open Go Go.Am Go.Proofs
open Go.Cm (R rdOk)
namespace Go.Proofs.Ytkcpacgnejlpbaa.T
theorem cut2_ok {b : List Int} (h : Cm.bytes b) {m : Int} (hm : 0 ≤ m) : rdOk (Cm.cut2 b, 0) m := by
  refine ⟨⟨?_, fun i hi => ?_⟩, Int.le_refl _, hm⟩
  · unfold Cm.cut2; split
    · simp; omega
    · dsimp only; omega
  · dsimp only at hi ⊢
    unfold Cm.cut2 at hi ⊢
    split
    · rename_i hl
      rw [if_pos hl] at hi
      have hi' : i < 2000 := by simp at hi; omega
      have : (b.take 2000).getD i 0 = b.getD i 0 := by simp [List.getD, List.getElem?_take, hi']
      rw [this]; exact h i (by omega)
    · rename_i hl
      rw [if_neg hl] at hi
      exact h i hi
end Go.Proofs.Ytkcpacgnejlpbaa.T
open Go Go.Am Go.Proofs
open Go.Cm (R rdOk)
namespace Go.Proofs.Ytkcpacgnejlpbaa.T
set_option maxRecDepth 10000
/-- What is asked of an act drawn, and of tables drawn. -/
def ActOk (act : R → Int → R × Cm.A) : Prop := ∀ r g, rdOk r 274877906944 → 1 ≤ g → g ≤ 100 → (act r g).1.1 = r.1 ∧ r.2 ≤ (act r g).1.2 ∧ (act r g).1.2 ≤ r.2 + 20
def TabsOk (tb : R → Int → R × List Cm.A) : Prop := ∀ r g, rdOk r 274877906944 → ((tb r g).1.1 = r.1 ∧ r.2 ≤ (tb r g).1.2 ∧ (tb r g).1.2 ≤ r.2 + 20) ∧ (tb r g).2.length ≤ 20
theorem ok70 {p : R → Int → Int} {act : R → Int → R × Cm.A} {tb : R → Int → R × List Cm.A} (hp : PickOk p) (ha : ActOk act) (ht : TabsOk tb) : FOk (Ea p act tb) Try.f100 (sPlay (Cm.playM p act tb)) :=
  FOk.of1 fun (r : R) h => FGA.fg (an := fun _ => anPlay p act tb r) ((vc70 p act tb r).mpr (by
  obtain ⟨h1, h2, h3⟩ := (show rdOk r 137438953472 from h)
  have q : ∀ n m : Int, 0 ≤ n → n ≤ m → rdOk (r.1, n) m := fun n m a b => ⟨h1, a, b⟩
  have g0 := hp (r.1, r.2) 2 (q _ _ h2 (by omega)) (by omega)
  have hG : IntKind.wrap .i64 (1 + p (r.1, r.2) 2) = Cm.playG p r := Cm.wrap_id (by omega) (by omega)
  have hG1 : 1 ≤ Cm.playG p r ∧ Cm.playG p r ≤ 100 := by show 1 ≤ 1 + p (r.1, r.2) 2 ∧ 1 + p (r.1, r.2) 2 ≤ 100; omega
  simp only [ifb_iff, hG]
  refine ⟨q _ _ (by omega) (by omega), q _ _ (by show 0 ≤ r.2 + 1; omega) (by show r.2 + 1 ≤ _; omega), fun c => ?_, fun c => ?_⟩
  · have hs : Cm.play0 p tb r = tb (r.1, Cm.inc (Cm.inc (Cm.inc r.2))) (p (r.1, Cm.inc (Cm.inc r.2)) (Cm.playG p r)) := if_pos (of_decide_eq_true c)
    have qt := ht (r.1, Cm.inc (Cm.inc (Cm.inc r.2))) (p (r.1, Cm.inc (Cm.inc r.2)) (Cm.playG p r)) (q _ _ (by simp only [Cm.inc]; omega) (by simp only [Cm.inc]; omega))
    rw [← hs] at qt ⊢
    obtain ⟨⟨t1, t2, t3⟩, t4⟩ := qt
    simp only [Cm.inc] at t1 t2 t3
    have q2 : ∀ n m : Int, 0 ≤ n → n ≤ m → rdOk ((Cm.play0 p tb r).1.1, n) m := fun n m a b => ⟨t1 ▸ h1, a, b⟩
    have hn := hp ((Cm.play0 p tb r).1.1, Cm.inc (Cm.play0 p tb r).1.2) 52 (q2 _ _ (by simp only [Cm.inc]; omega) (by simp only [Cm.inc]; omega)) (by omega)
    refine ⟨q _ _ (by simp only [Cm.inc]; omega) (by simp only [Cm.inc]; omega), q _ _ (by simp only [Cm.inc]; omega) (by simp only [Cm.inc]; omega), ⟨t1 ▸ h1, by omega, by omega⟩, q2 _ _ (by simp only [Cm.inc]; omega) (by simp only [Cm.inc]; omega),
      ⟨(Cm.playN p tb r, ((Cm.play0 p tb r).1.1, Cm.inc (Cm.inc (Cm.play0 p tb r).1.2)), (Cm.play0 p tb r).2), ⟨⟨?_, ?_⟩, q2 _ _ ?_ ?_, rfl⟩, ⟨by trivial, by trivial, by trivial, by trivial, ?_⟩, by trivial, by trivial, by trivial⟩, ?_⟩
    · show (p _ 52).toNat ≤ 52; omega
    · dsimp only; omega
    · simp only [Cm.inc]; omega
    · have : (p ((Cm.play0 p tb r).1.1, Cm.inc (Cm.play0 p tb r).1.2) 52).toNat ≤ 52 := by omega
      simp only [Cm.inc, Cm.playN] at this ⊢; omega
    · exact Int.toNat_of_nonneg hn.1
    rintro ⟨k, s, out⟩ ⟨⟨i1, i2⟩, ⟨j1, j2, j3⟩, i4⟩
    dsimp only at i1 i2 j1 j2 j3 i4 ⊢
    refine ⟨fun h => h, fun h => h, fun h => h, fun hk => ?_, fun hk => ?_⟩
    · simp only [Bool.and_eq_true, decide_eq_true_eq] at hk
      have hk : 0 < k ∧ out.length < 58 := by omega
      rw [Cm.playGo_step hk.1 hk.2] at i4
      have hr : rdOk s 274877906944 := ⟨j1, j2, by omega⟩
      obtain ⟨a1, a2, a3⟩ := ha s _ hr hG1.1 hG1.2
      have hw : IntKind.wrap .i64 ((k : Int) - 1) = ((k - 1 : Nat) : Int) := by rw [Cm.wrap_id (by omega) (by omega)]; omega
      refine ⟨⟨hr, hG1⟩, ?_, fun h => h, fun h => h, fun h => h, fun h => h, fun h => h, fun h => h, fun c2 => ⟨?_, (k - 1, (act s (Cm.playG p r)).1, out ++ [(act s (Cm.playG p r)).2] ++ [(5, (act s (Cm.playG p r)).2.2.1, 0, 0, 0)]), ⟨⟨⟨by omega, ?_⟩, ⟨a1 ▸ j1, by dsimp only; omega, by dsimp only; omega⟩, ?_⟩, by dsimp only; omega⟩, ⟨by trivial, by trivial, by trivial, by trivial, hw.symm⟩, by trivial, by trivial, by trivial⟩,
        fun c2 => ⟨(k - 1, (act s (Cm.playG p r)).1, out ++ [(act s (Cm.playG p r)).2]), ⟨⟨⟨by omega, ?_⟩, ⟨a1 ▸ j1, by dsimp only; omega, by dsimp only; omega⟩, ?_⟩, by dsimp only; omega⟩, ⟨by trivial, by trivial, by trivial, by trivial, hw.symm⟩, by trivial, by trivial, by trivial⟩⟩
      · show (out.length + 1) * 40 ≤ _; omega
      · show ((out ++ [_]).length + 1) * 40 ≤ _; simp; omega
      · simp; omega
      · rw [i4]; unfold Cm.playStep
        simp only [Bool.and_eq_true, beq_iff_eq, decide_eq_true_eq] at c2
        rw [if_pos ⟨c2.1.1, c2.1.2, c2.2⟩]
      · simp; omega
      · rw [i4]; unfold Cm.playStep
        rw [if_neg]
        intro h'
        have h2 := h'.2.1; have h3 := h'.2.2; dsimp only at h2 h3
        simp [h'.1, h2] at c2
        exact absurd h3 (Int.not_lt.mpr c2)
    · have hk : ¬ (0 < k ∧ out.length < 58) := by
        intro h'
        simp [h'.1] at hk
        omega
      rw [Cm.playGo_end hk] at i4
      unfold Cm.playM
      rw [i4]
      exact ⟨rfl, rfl, rfl, trivial⟩
  · have hs : Cm.play0 p tb r = ((r.1, Cm.inc (Cm.inc r.2)), []) := if_neg (of_decide_eq_false c)
    have hn := hp (r.1, Cm.inc (Cm.inc (Cm.inc r.2))) 52 (q _ _ (by simp only [Cm.inc]; omega) (by simp only [Cm.inc]; omega)) (by omega)
    have hN : Cm.playN p tb r = (p (r.1, Cm.inc (Cm.inc (Cm.inc r.2))) 52).toNat := by unfold Cm.playN; rw [hs]
    refine ⟨q _ _ (by simp only [Cm.inc]; omega) (by simp only [Cm.inc]; omega), q _ _ (by simp only [Cm.inc]; omega) (by simp only [Cm.inc]; omega),
      ⟨(Cm.playN p tb r, (r.1, Cm.inc (Cm.inc (Cm.inc (Cm.inc r.2)))), []), ⟨⟨?_, ?_⟩, q _ _ ?_ ?_, ?_⟩, ⟨by trivial, by trivial, by trivial, ?_, ?_⟩, by trivial, by trivial, by trivial⟩, ?_⟩
    · rw [hN]; dsimp only; omega
    · simp
    · simp only [Cm.inc]; omega
    · rw [hN]; simp only [Cm.inc] at hn ⊢; omega
    · unfold Cm.playE; rw [hs]
    · unfold Cm.playT; rw [hs]
    · rw [hN]; exact Int.toNat_of_nonneg hn.1
    rintro ⟨k, s, out⟩ ⟨⟨i1, i2⟩, ⟨j1, j2, j3⟩, i4⟩
    dsimp only at i1 i2 j1 j2 j3 i4 ⊢
    refine ⟨fun h => h, fun h => h, fun h => h, fun hk => ?_, fun hk => ?_⟩
    · simp only [Bool.and_eq_true, decide_eq_true_eq] at hk
      have hk : 0 < k ∧ out.length < 58 := by omega
      rw [Cm.playGo_step hk.1 hk.2] at i4
      have hr : rdOk s 274877906944 := ⟨j1, j2, by omega⟩
      obtain ⟨a1, a2, a3⟩ := ha s _ hr hG1.1 hG1.2
      have hw : IntKind.wrap .i64 ((k : Int) - 1) = ((k - 1 : Nat) : Int) := by rw [Cm.wrap_id (by omega) (by omega)]; omega
      refine ⟨⟨hr, hG1⟩, ?_, fun h => h, fun h => h, fun h => h, fun h => h, fun h => h, fun h => h, fun c2 => ⟨?_, (k - 1, (act s (Cm.playG p r)).1, out ++ [(act s (Cm.playG p r)).2] ++ [(5, (act s (Cm.playG p r)).2.2.1, 0, 0, 0)]), ⟨⟨⟨by omega, ?_⟩, ⟨a1 ▸ j1, by dsimp only; omega, by dsimp only; omega⟩, ?_⟩, by dsimp only; omega⟩, ⟨by trivial, by trivial, by trivial, by trivial, hw.symm⟩, by trivial, by trivial, by trivial⟩,
        fun c2 => ⟨(k - 1, (act s (Cm.playG p r)).1, out ++ [(act s (Cm.playG p r)).2]), ⟨⟨⟨by omega, ?_⟩, ⟨a1 ▸ j1, by dsimp only; omega, by dsimp only; omega⟩, ?_⟩, by dsimp only; omega⟩, ⟨by trivial, by trivial, by trivial, by trivial, hw.symm⟩, by trivial, by trivial, by trivial⟩⟩
      · show (out.length + 1) * 40 ≤ _; omega
      · show ((out ++ [_]).length + 1) * 40 ≤ _; simp; omega
      · simp; omega
      · rw [i4]; unfold Cm.playStep
        simp only [Bool.and_eq_true, beq_iff_eq, decide_eq_true_eq] at c2
        rw [if_pos ⟨c2.1.1, c2.1.2, c2.2⟩]
      · simp; omega
      · rw [i4]; unfold Cm.playStep
        rw [if_neg]
        intro h'
        have h2 := h'.2.1; have h3 := h'.2.2; dsimp only at h2 h3
        simp [h'.1, h2] at c2
        exact absurd h3 (Int.not_lt.mpr c2)
    · have hk : ¬ (0 < k ∧ out.length < 58) := by
        intro h'
        simp [h'.1] at hk
        omega
      rw [Cm.playGo_end hk] at i4
      unfold Cm.playM
      rw [i4]
      exact ⟨rfl, rfl, rfl, trivial⟩))
end Go.Proofs.Ytkcpacgnejlpbaa.T
open Go Go.Am Go.Proofs
open Go.Cm (R rdOk)
namespace Go.Proofs.Ytkcpacgnejlpbaa.T
set_option maxRecDepth 10000
end Go.Proofs.Ytkcpacgnejlpbaa.T
open Go Go.Am Go.Proofs
open Go.Cm (R rdOk)
namespace Go.Proofs.Ytkcpacgnejlpbaa.T
theorem tabGo_ok (p : R → Int → Int) (g : Int) : ∀ (n k : Nat) (s : R × List Cm.A), ((Cm.tabGo p g n k s).1.1 = s.1.1 ∧ s.1.2 ≤ (Cm.tabGo p g n k s).1.2 ∧ (Cm.tabGo p g n k s).1.2 ≤ s.1.2 + 2 * n) ∧ (Cm.tabGo p g n k s).2.length ≤ s.2.length + 2 * n
  | 0, _, s => by simp [Cm.tabGo]
  | n + 1, k, s => by
    obtain ⟨⟨h1, h2, h3⟩, h4⟩ := tabGo_ok p g n (k + 1) (Cm.tabStep p g k s)
    have e : ((Cm.tabStep p g k s).1.1 = s.1.1 ∧ s.1.2 ≤ (Cm.tabStep p g k s).1.2 ∧ (Cm.tabStep p g k s).1.2 ≤ s.1.2 + 2) ∧ (Cm.tabStep p g k s).2.length ≤ s.2.length + 2 := by
      unfold Cm.tabStep Cm.adv
      split
      · simp; omega
      · simp; omega
    rw [Cm.tabGo]
    refine ⟨⟨by rw [h1]; exact e.1.1, by omega, by omega⟩, by omega⟩
theorem tabs_good (p : R → Int → Int) : TabsOk fun r g => Cm.tabGo p g 6 0 (r, []) := fun r g _ => by
  obtain ⟨⟨h1, h2, h3⟩, h4⟩ := tabGo_ok p g 6 0 (r, [])
  have h4 : (Cm.tabGo p g 6 0 (r, [])).2.length ≤ 0 + 2 * 6 := h4
  dsimp only at h1 h2 h3 h4 ⊢
  exact ⟨⟨h1, h2, by omega⟩, by omega⟩
theorem act_good {p : R → Int → Int} (hp : PickOk p) : ActOk (actF p) := fun _ _ h1 h2 h3 => (actF_ok hp ⟨h1, h2, h3⟩).2
theorem playGo_len (act : R → Int → R × Cm.A) (g : Int) (t : Bool) : ∀ (n : Nat) (s : R × List Cm.A), s.2.length ≤ 60 → (Cm.playGo act g t n s).2.length ≤ 60
  | 0, _, h => h
  | n + 1, s, h => by
    rw [Cm.playGo]
    split
    · refine playGo_len act g t n _ ?_
      unfold Cm.playStep
      dsimp only
      split
      · simp; omega
      · simp; omega
    · exact h
theorem play_len {p : R → Int → Int} {act : R → Int → R × Cm.A} {tb : R → Int → R × List Cm.A} (ht : TabsOk tb) {r : R} (h : rdOk r 137438953472) : (Cm.playM p act tb r).2.2.length ≤ 60 := by
  refine playGo_len _ _ _ _ _ ?_
  unfold Cm.play0
  dsimp only
  split
  · obtain ⟨h1, h2, h3⟩ := h
    have := (ht (r.1, Cm.inc (Cm.inc (Cm.inc r.2))) (p (r.1, Cm.inc (Cm.inc r.2)) (Cm.playG p r)) ⟨h1, by simp only [Cm.inc]; omega, by simp only [Cm.inc]; omega⟩).2
    omega
  · simp
theorem kn_105 : Known Try.prog 85 (sPick pickF) := known_of tabOk kn0 mixed Try.func85 (by kernel_rfl) ok105
theorem kn_69 : Known Try.prog 62 sOpen := known_of tabOk kn0 mixed Try.func62 (by kernel_rfl) ok69
theorem knEp : AllK Try.prog [(85, [sPick pickF])] := AllK.cons kn0 kn_105
theorem kn_128 : Known Try.prog 90 (sWord (Cm.wordM pickF)) := known_of tabOk knEp mixed Try.func90 (by kernel_rfl) (ok128 pickF)
theorem kn_123 : Known Try.prog 130 (sTables fun r g => Cm.tabGo pickF g 6 0 (r, [])) := known_of tabOk knEp mixed Try.func130 (by kernel_rfl) (ok123 pickF pickF_good)
theorem knEw : AllK Try.prog [(85, [sPick pickF]), (90, [sWord (Cm.wordM pickF)])] := AllK.cons (AllK.cons kn0 kn_128) kn_105
theorem kn_80 : Known Try.prog 131 (sAct (actF pickF)) := known_of tabOk knEw mixed Try.func131 (by kernel_rfl) (ok80 pickF_good)
theorem knEa : AllK Try.prog [(85, [sPick pickF]), (90, [sWord (Cm.wordM pickF)]), (131, [sAct (actF pickF)]), (130, [sTables fun r g => Cm.tabGo pickF g 6 0 (r, [])])] := AllK.cons (AllK.cons (AllK.cons (AllK.cons kn0 kn_123) kn_80) kn_128) kn_105
theorem kn_70 : Known Try.prog 100 (sPlay (Cm.playM pickF (actF pickF) fun r g => Cm.tabGo pickF g 6 0 (r, []))) := known_of tabOk knEa mixed Try.func100 (by kernel_rfl) (ok70 pickF_good (act_good pickF_good) (tabs_good pickF))
end Go.Proofs.Ytkcpacgnejlpbaa.T
open Go Go.Am Go.Proofs
open Go.Cm (R rdOk)
namespace Go.Proofs.Ytkcpacgnejlpbaa.T
set_option maxRecDepth 10000
theorem wsucc {i : Nat} (h : i ≤ 16777216) : IntKind.wrap .i64 ((i : Int) + 1) = ((i + 1 : Nat) : Int) := by rw [Cm.wrap_id (by omega) (by omega)]; omega
theorem lt_of {i n : Nat} (h : decide ((i : Int) < (n : Int)) = true) : i < n := by simpa using h
theorem ge_of {i n : Nat} (h : decide ((i : Int) < (n : Int)) = false) : n ≤ i := by simpa using h
theorem bnt {b : Bool} (h : (!b) = true) : b = false := by simpa using h
theorem bnf {b : Bool} (h : (!b) = false) : b = true := by simpa using h
theorem ok_laws_lkInts : FOk E_laws_lkInts Try.f33 sEqP := FOk.of2 fun (a b : Cm.Pg) hn => FGA.fg ((vc_laws_lkInts a b).mpr (by
  have hn : a.length ≤ 1048576 := hn
  simp only [ifb_iff, imp_self, true_and, and_true, implies_true]
  refine ⟨fun h => (Cm.eqI_len (by simpa [Int.natCast_inj] using h)).symm, fun h => ⟨⟨0, ⟨by omega, rfl⟩, rfl⟩, fun i ⟨g1, g2⟩ => ⟨fun hl => ?_, fun hl => ?_⟩⟩⟩
  · have hl := lt_of hl
    have h : a.length = b.length := by simpa [Int.natCast_inj] using h
    rw [Cm.drop_getD (0 : Int) hl, Cm.drop_getD (0 : Int) (h ▸ hl : i < b.length), Cm.eqI_cons] at g2
    refine ⟨by omega, by omega, fun c => ?_, fun c => ⟨i + 1, ⟨⟨by omega, ?_⟩, by omega⟩, (wsucc (by omega)).symm⟩⟩
    · rw [g2, decide_eq_false (by simpa using c)]; rfl
    · rw [g2, decide_eq_true (by simpa using c)]; rfl
  · have hl := ge_of hl
    have h : a.length = b.length := by simpa [Int.natCast_inj] using h
    rw [g2, List.drop_of_length_le hl, List.drop_of_length_le (by omega)]; rfl))
theorem ok_laws_lkMem : FOk E_laws_lkMem Try.f22 sEqM := FOk.of2 fun (a b : Cm.Mm) hn => FGA.fg ((vc_laws_lkMem a b).mpr (by
  obtain ⟨hn, hb⟩ := (show Cm.bd a from hn)
  simp only [ifb_iff, imp_self, true_and, and_true, implies_true]
  refine ⟨fun h => (Cm.eqM_len (by simpa [Int.natCast_inj] using h)).symm, fun h => ⟨⟨0, ⟨by omega, rfl⟩, rfl⟩, fun i ⟨g1, g2⟩ => ⟨fun hl => ?_, fun hl => ?_⟩⟩⟩
  · have hl := lt_of hl
    have h : a.length = b.length := by simpa [Int.natCast_inj] using h
    rw [Cm.drop_getD [] hl, Cm.drop_getD [] (h ▸ hl : i < b.length), Cm.eqM_cons] at g2
    refine ⟨by omega, by omega, hb i hl, fun c => ?_, fun c => ⟨i + 1, ⟨⟨by omega, ?_⟩, by omega⟩, (wsucc (by omega)).symm⟩⟩
    · rw [g2, bnt c]; rfl
    · rw [g2, bnf c]; rfl
  · have hl := ge_of hl
    have h : a.length = b.length := by simpa [Int.natCast_inj] using h
    rw [g2, List.drop_of_length_le hl, List.drop_of_length_le (by omega)]; rfl))
end Go.Proofs.Ytkcpacgnejlpbaa.T
open Go Go.Am Go.Proofs
open Go.Cm (R rdOk)
namespace Go.Proofs.Ytkcpacgnejlpbaa.T
set_option maxRecDepth 10000
theorem ok_spec_l2Copy : FOk E_spec_l2Copy Try.f95 sToM := FOk.of1 fun (m : Cm.Mm) hn => FGA.fg ((vc_spec_l2Copy m).mpr (by
  obtain ⟨hn, hb⟩ := (show Cm.bd m from hn)
  simp only [ifb_iff, imp_self, true_and, and_true, implies_true]
  refine ⟨⟨0, by omega, rfl, rfl⟩, fun a h1 => ⟨fun hl => ?_, fun hl => List.take_of_length_le (ge_of hl)⟩⟩
  have hl := lt_of hl
  have := hb a hl
  refine ⟨by omega, ?_, ?_, a + 1, by omega, (wsucc (by omega)).symm, Cm.take_succ_getD [] hl⟩
  · show (0 + (m.getD a []).length) * 8 ≤ _; omega
  · show ((m.take a).length + 1) * 24 ≤ _; rw [List.length_take]; omega))
theorem ok_spec_l2Page : FOk E_spec_l2Page Try.f125 sPage := FOk.of0 fun _ => FGA.fg (vc_spec_l2Page.mpr ⟨⟨rfl, by decide, by decide⟩, rfl, trivial⟩)
theorem within_iff {n lo hi : Int} : Cm.within n lo hi = true ↔ lo ≤ n ∧ n ≤ hi := by unfold Cm.within; simp
theorem ok_spec_MemNew : FOk E_spec_MemNew Try.f145 sMemNew := FOk.of1 fun (n : Int) _ => FGA.fg ((vc_spec_MemNew n).mpr (by
  simp only [ifb_iff, imp_self, true_and, and_true, implies_true]
  refine ⟨fun h => ?_, fun h => ?_⟩
  · rw [Cm.memNew, bnt h]; rfl
  · have h1 := within_iff.mp (bnf h)
    refine ⟨⟨0, by omega, rfl, rfl⟩, fun a h2 => ⟨fun hl => ?_, fun hl => ?_⟩⟩
    · have hl : (a : Int) < n := by simpa using hl
      refine ⟨?_, a + 1, by omega, (wsucc (by omega)).symm, List.replicate_succ'⟩
      rw [List.length_replicate]; omega
    · have hl : ¬ (a : Int) < n := by simpa using hl
      rw [Cm.memNew, if_pos (bnf h), show n.toNat = a by omega]))
theorem okP_of {a : Cm.Pg} {i : Nat} (h : Cm.allW a = Cm.allW (a.drop i)) (hl : i < a.length) (c : Cm.within (a.getD i 0) 0 63 = false) : Cm.okP a = false := by
  rw [Cm.drop_getD (0 : Int) hl, Cm.allW, c] at h
  rw [Cm.okP, h]; rfl
theorem okP_go {a : Cm.Pg} {i : Nat} (h : Cm.allW a = Cm.allW (a.drop i)) (hl : i < a.length) (c : Cm.within (a.getD i 0) 0 63 = true) : Cm.allW a = Cm.allW (a.drop (i + 1)) := by
  rw [Cm.drop_getD (0 : Int) hl, Cm.allW, c] at h
  rw [h]; rfl
theorem okP_end {a : Cm.Pg} {i : Nat} (h : Cm.allW a = Cm.allW (a.drop i)) (hl : a.length ≤ i) : ((a.length : Int) == 4) = Cm.okP a := by
  rw [List.drop_of_length_le hl] at h
  rw [Cm.okP, h, Cm.allW, Bool.true_and]
  by_cases e : a.length = 4
  · rw [e]; rfl
  · rw [decide_eq_false e, beq_eq_false_iff_ne]; omega
theorem ok_impl_pageOk : FOk E_impl_pageOk Try.f106 sOkP := FOk.of1 fun (a : Cm.Pg) hn => FGA.fg ((vc_impl_pageOk a).mpr (by
  have hn : a.length ≤ 1048576 := hn
  simp only [ifb_iff, imp_self, true_and, and_true, implies_true]
  refine ⟨⟨0, ⟨by omega, rfl⟩, rfl⟩, fun i ⟨h1, h2⟩ => ⟨fun hl => ?_, fun hl => okP_end h2 (ge_of hl)⟩⟩
  have hl := lt_of hl
  exact ⟨by omega, fun c => (okP_of h2 hl (bnt c)).symm, fun c => ⟨i + 1, ⟨⟨by omega, okP_go h2 hl (bnf c)⟩, by omega⟩, (wsucc (by omega)).symm⟩⟩))
theorem ok_spec_l2PageOk : FOk E_spec_l2PageOk Try.f103 sOkP := FOk.of1 fun (a : Cm.Pg) hn => FGA.fg ((vc_spec_l2PageOk a).mpr (by
  have hn : a.length ≤ 1048576 := hn
  simp only [ifb_iff, imp_self, true_and, and_true, implies_true]
  refine ⟨⟨0, ⟨by omega, rfl⟩, rfl⟩, fun i ⟨h1, h2⟩ => ⟨fun hl => ?_, fun hl => okP_end h2 (ge_of hl)⟩⟩
  have hl := lt_of hl
  exact ⟨by omega, fun c => (okP_of h2 hl (bnt c)).symm, fun c => ⟨i + 1, ⟨⟨by omega, okP_go h2 hl (bnf c)⟩, by omega⟩, (wsucc (by omega)).symm⟩⟩))
theorem okM_of {a : Cm.Mm} {i : Nat} (h : Cm.okM a = Cm.okM (a.drop i)) (hl : i < a.length) (c : Cm.okP (a.getD i []) = false) : Cm.okM a = false := by
  rw [Cm.drop_getD [] hl, Cm.okM, c] at h
  rw [h]; rfl
theorem okM_go {a : Cm.Mm} {i : Nat} (h : Cm.okM a = Cm.okM (a.drop i)) (hl : i < a.length) (c : Cm.okP (a.getD i []) = true) : Cm.okM a = Cm.okM (a.drop (i + 1)) := by
  rw [Cm.drop_getD [] hl, Cm.okM, c] at h
  rw [h]; rfl
theorem ok_impl_MemOk : FOk E_impl_MemOk Try.f72 sOkM := FOk.of1 fun (a : Cm.Mm) hn => FGA.fg ((vc_impl_MemOk a).mpr (by
  obtain ⟨hn, hb⟩ := (show Cm.bd a from hn)
  simp only [ifb_iff, imp_self, true_and, and_true, implies_true]
  refine ⟨⟨0, ⟨by omega, rfl⟩, rfl⟩, fun i ⟨h1, h2⟩ => ⟨fun hl => ?_, fun hl => by rw [h2, List.drop_of_length_le (ge_of hl)]; rfl⟩⟩
  have hl := lt_of hl
  exact ⟨by omega, hb i hl, fun c => (okM_of h2 hl (bnt c)).symm, fun c => ⟨i + 1, ⟨⟨by omega, okM_go h2 hl (bnf c)⟩, by omega⟩, (wsucc (by omega)).symm⟩⟩))
theorem ok_spec_MemOk : FOk E_spec_MemOk Try.f68 sOkM := FOk.of1 fun (a : Cm.Mm) hn => FGA.fg ((vc_spec_MemOk a).mpr (by
  obtain ⟨hn, hb⟩ := (show Cm.bd a from hn)
  simp only [ifb_iff, imp_self, true_and, and_true, implies_true]
  refine ⟨⟨0, ⟨by omega, rfl⟩, rfl⟩, fun i ⟨h1, h2⟩ => ⟨fun hl => ?_, fun hl => by rw [h2, List.drop_of_length_le (ge_of hl)]; rfl⟩⟩
  have hl := lt_of hl
  exact ⟨by omega, hb i hl, fun c => (okM_of h2 hl (bnt c)).symm, fun c => ⟨i + 1, ⟨⟨by omega, okM_go h2 hl (bnf c)⟩, by omega⟩, (wsucc (by omega)).symm⟩⟩))
theorem okG_eq (a : Cm.Mm) : (Cm.okM a && (a.length : Int) == 6) = Cm.okG a := by
  rw [Cm.okG]; congr 1
  by_cases e : a.length = 6
  · rw [e]; rfl
  · rw [decide_eq_false e, beq_eq_false_iff_ne]; omega
theorem ok_impl_guestMem : FOk E_impl_guestMem Try.f107 sOkG := FOk.of1 fun (a : Cm.Mm) hn => FGA.fg ((vc_impl_guestMem a).mpr (by
  simp only [imp_self, true_and, and_true]; exact ⟨hn, okG_eq a⟩))
theorem ok_spec_l11Guest : FOk E_spec_l11Guest Try.f69 sOkG := FOk.of1 fun (a : Cm.Mm) hn => FGA.fg ((vc_spec_l11Guest a).mpr (by
  simp only [imp_self, true_and, and_true]; exact ⟨hn, okG_eq a⟩))
theorem ok_spec_EntryOf : FOk E_spec_EntryOf Try.f128 sEntryOf := FOk.of1 fun (w : Int) hn => FGA.fg ((vc_spec_EntryOf w).mpr (by
  have hn : w ≤ 1048576 := hn
  simp only [ifb_iff, imp_self, true_and, and_true, implies_true]
  refine ⟨by decide, fun h => by rw [h]; rfl, fun h => ?_, fun h => ⟨by decide, ?_⟩⟩
  · rw [Cm.entryOf, if_neg]; · rfl
    intro hw
    have w1 : IntKind.wrap .i64 (w - 1) = w - 1 := Cm.wrap_id (by omega) (by omega)
    have e : (w - 1).tdiv 2 = (w - 1) / 2 := Int.tdiv_eq_ediv_of_nonneg (by omega)
    have w2 : IntKind.wrap .i64 ((w - 1) / 2) = (w - 1) / 2 := Cm.wrap_id (by omega) (by omega)
    rw [w1, e, w2, show Cm.within ((w - 1) / 2) 2 5 = true from within_iff.mpr (by omega)] at h
    simp at h; omega
  · rw [Bool.or_eq_false_iff] at h
    obtain ⟨h1, h2⟩ := h
    have h1 : ¬ w < 1 := by simpa using h1
    have h2 := within_iff.mp (bnf h2)
    have w1 : IntKind.wrap .i64 (w - 1) = w - 1 := Cm.wrap_id (by omega) (by omega)
    have e : (w - 1).tdiv 2 = (w - 1) / 2 := Int.tdiv_eq_ediv_of_nonneg (by omega)
    have w2 : IntKind.wrap .i64 ((w - 1) / 2) = (w - 1) / 2 := Cm.wrap_id (by omega) (by omega)
    rw [w1, e, w2] at h2 ⊢
    rw [Cm.entryOf, if_pos (by omega), Int.tmod_eq_emod_of_nonneg (by omega)]; rfl))
end Go.Proofs.Ytkcpacgnejlpbaa.T
open Go Go.Am Go.Proofs
open Go.Cm (R rdOk)
namespace Go.Proofs.Ytkcpacgnejlpbaa.T
set_option maxRecDepth 10000
end Go.Proofs.Ytkcpacgnejlpbaa.T
open Go Go.Am Go.Proofs
open Go.Cm (R rdOk)
namespace Go.Proofs.Ytkcpacgnejlpbaa.T
set_option maxRecDepth 10000
theorem bb (b : Bool) : b = false ∨ b = true := by cases b <;> simp
theorem within_f {n lo hi : Int} (h : Cm.within n lo hi = true) : lo ≤ n ∧ n ≤ hi := within_iff.mp h
theorem okG_okM {m : Cm.Mm} (h : Cm.okG m = true) : Cm.okM m = true := by unfold Cm.okG at h; rw [Bool.and_eq_true] at h; exact h.1
/-- A row of the table that is there leads to a page above the table. -/
theorem entry_pg {w : Int} (h : (Cm.entryOf w).1 = true) : 2 ≤ (Cm.entryOf w).2.1 ∧ (Cm.entryOf w).2.1 ≤ 5 := by
  unfold Cm.entryOf at h ⊢
  split
  · dsimp only; omega
  · rename_i c; rw [if_neg c] at h; cases h
theorem kn_laws_lkInts : Known Try.prog 33 sEqP := known_of tabOk (kn0) mixed Try.func33 (by kernel_rfl) ok_laws_lkInts
theorem kn_laws_lkMem : Known Try.prog 22 sEqM := known_of tabOk (AllK.cons kn0 kn_laws_lkInts) mixed Try.func22 (by kernel_rfl) ok_laws_lkMem
theorem kn_spec_l2Copy : Known Try.prog 95 sToM := known_of tabOk (kn0) mixed Try.func95 (by kernel_rfl) ok_spec_l2Copy
theorem kn_spec_l2Page : Known Try.prog 125 sPage := known_of tabOk (kn0) mixed Try.func125 (by kernel_rfl) ok_spec_l2Page
theorem kn_spec_MemNew : Known Try.prog 145 sMemNew := known_of tabOk (AllK.cons (AllK.cons kn0 kn_spec_l2Page) kn_107) mixed Try.func145 (by kernel_rfl) ok_spec_MemNew
theorem kn_impl_pageOk : Known Try.prog 106 sOkP := known_of tabOk (AllK.cons kn0 kn_98) mixed Try.func106 (by kernel_rfl) ok_impl_pageOk
theorem kn_spec_l2PageOk : Known Try.prog 103 sOkP := known_of tabOk (AllK.cons kn0 kn_107) mixed Try.func103 (by kernel_rfl) ok_spec_l2PageOk
theorem kn_impl_MemOk : Known Try.prog 72 sOkM := known_of tabOk (AllK.cons kn0 kn_impl_pageOk) mixed Try.func72 (by kernel_rfl) ok_impl_MemOk
theorem kn_spec_MemOk : Known Try.prog 68 sOkM := known_of tabOk (AllK.cons kn0 kn_spec_l2PageOk) mixed Try.func68 (by kernel_rfl) ok_spec_MemOk
theorem kn_impl_guestMem : Known Try.prog 107 sOkG := known_of tabOk (AllK.cons kn0 kn_impl_MemOk) mixed Try.func107 (by kernel_rfl) ok_impl_guestMem
theorem kn_spec_l11Guest : Known Try.prog 69 sOkG := known_of tabOk (AllK.cons kn0 kn_spec_MemOk) mixed Try.func69 (by kernel_rfl) ok_spec_l11Guest
theorem kn_spec_EntryOf : Known Try.prog 128 sEntryOf := known_of tabOk (AllK.cons kn0 kn_107) mixed Try.func128 (by kernel_rfl) ok_spec_EntryOf
end Go.Proofs.Ytkcpacgnejlpbaa.T
open Go Go.Am Go.Proofs
open Go.Cm (R rdOk)
namespace Go.Proofs.Ytkcpacgnejlpbaa.T
set_option maxRecDepth 10000
theorem shp_new : Cm.shp (Cm.memNew 6) := ⟨rfl, fun i hi => by
  have : i = 0 ∨ i = 1 ∨ i = 2 ∨ i = 3 ∨ i = 4 ∨ i = 5 := by omega
  rcases this with rfl | rfl | rfl | rfl | rfl | rfl <;> rfl⟩
theorem shpW_of {m : Cm.Mm} (h : Cm.shp m) : Cm.shpW m := ⟨by have := h.1; omega, fun i hi => by rw [h.2 i (by have := h.1; omega)]; omega⟩
theorem shpW_bd {m : Cm.Mm} (h : Cm.shpW m) : Cm.bd m := ⟨by have := h.1; omega, fun i hi => by have := h.2 i hi; omega⟩
end Go.Proofs.Ytkcpacgnejlpbaa.T
open Go Go.Am Go.Proofs
open Go.Cm (R rdOk)
namespace Go.Proofs.Ytkcpacgnejlpbaa.T
set_option maxRecDepth 10000
theorem new_bd : Cm.bd (Cm.memNew 6) := shpW_bd (shpW_of shp_new)
end Go.Proofs.Ytkcpacgnejlpbaa.T
open Go Go.Am Go.Proofs
open Go.Cm (R rdOk)
namespace Go.Proofs.Ytkcpacgnejlpbaa.T
set_option maxRecDepth 10000
theorem dneg {a : Int} (h : decide (a < 0) = true) : a < 0 := of_decide_eq_true h
theorem dpos {a : Int} (h : decide (a < 0) = false) : ¬ a < 0 := of_decide_eq_false h
end Go.Proofs.Ytkcpacgnejlpbaa.T
open Go Go.Am Go.Proofs
open Go.Cm (R rdOk)
namespace Go.Proofs.Ytkcpacgnejlpbaa.T
set_option maxRecDepth 10000
theorem use_step {m : Cm.E} {f : Int} (l : List Cm.E) (c : (m.1 && m.2.1 == f) = true) : Cm.useM f (m :: l) = 1 + Cm.useM f l := by
  rw [Bool.and_eq_true, beq_iff_eq] at c; rw [Cm.useM, if_pos c]
theorem use_skip {m : Cm.E} {f : Int} (l : List Cm.E) (c : (m.1 && m.2.1 == f) = false) : Cm.useM f (m :: l) = Cm.useM f l := by
  rw [Cm.useM, if_neg]
  · omega
  · intro h; rw [h.1, h.2] at c; simp at c
theorem ok_impl_Host_many : FOk E_impl_Host_many Try.f54 sUsers := FOk.of2 fun (h : Cm.Ho) (f : Int) hn => FGA.fg ((vc_impl_Host_many h f).mpr (by
  obtain ⟨_, hb1, hb2⟩ := (show Cm.bdH h from hn)
  simp only [ifb_iff, imp_self, true_and, and_true, implies_true]
  refine ⟨⟨(0, 0), ⟨by omega, by omega, by simp⟩, rfl, rfl⟩, ?_⟩
  rintro ⟨i, n⟩ ⟨g1, g2, g3⟩
  dsimp only at g1 g2 g3 ⊢
  refine ⟨fun hl => ?_, fun hl => ?_⟩
  · have hl := lt_of hl
    have hbi := (hb2 i hl).1
    rw [Cm.drop_getD Cm.g0 hl, Cm.useG] at g3
    generalize h.2.1.getD i Cm.g0 = g at g3 hbi ⊢
    refine ⟨by omega, ⟨(0, n), ⟨by omega, by dsimp only; omega, by rw [g3]; simp; omega⟩, rfl, rfl⟩, ?_⟩
    rintro ⟨j, q⟩ ⟨r1, r2, r3⟩
    dsimp only at r1 r2 r3 ⊢
    refine ⟨fun hj => ?_, fun hj => ?_⟩
    · have hj := lt_of hj
      rw [Cm.drop_getD Cm.e0 hj] at r3
      generalize g.1.getD j Cm.e0 = m at r3 ⊢
      have hw : IntKind.wrap .i64 (q + 1) = q + 1 := Cm.wrap_id (by omega) (by omega)
      refine ⟨by omega, fun c => ?_, fun c => ?_⟩
      · rw [use_step _ c] at r3
        exact ⟨(j + 1, q + 1), ⟨⟨by omega, by dsimp only; omega, by dsimp only; omega⟩, by dsimp only; omega⟩, hw.symm, (wsucc (by omega)).symm⟩
      · rw [use_skip _ c] at r3
        exact ⟨(j + 1, q), ⟨⟨by omega, by dsimp only; omega, by dsimp only; omega⟩, by dsimp only; omega⟩, rfl, (wsucc (by omega)).symm⟩
    · have hj := ge_of hj
      rw [List.drop_of_length_le hj, Cm.useM] at r3
      exact ⟨(i + 1, q), ⟨⟨by omega, by dsimp only; omega, by dsimp only; omega⟩, by dsimp only; omega⟩, rfl, (wsucc (by omega)).symm⟩
  · have hl := ge_of hl
    rw [List.drop_of_length_le hl, Cm.useG] at g3
    unfold Cm.users; omega))
theorem ok_spec_l12Users : FOk E_spec_l12Users Try.f105 sUsers := FOk.of2 fun (h : Cm.Ho) (f : Int) hn => FGA.fg ((vc_spec_l12Users h f).mpr (by
  obtain ⟨_, hb1, hb2⟩ := (show Cm.bdH h from hn)
  simp only [ifb_iff, imp_self, true_and, and_true, implies_true]
  refine ⟨⟨(0, 0), ⟨by omega, by omega, by simp [Cm.users]⟩, rfl, rfl⟩, ?_⟩
  rintro ⟨i, n⟩ ⟨g1, g2, g3⟩
  dsimp only at g1 g2 g3 ⊢
  refine ⟨fun hl => ?_, fun hl => ?_⟩
  · have hl := lt_of hl
    have hbi := (hb2 i hl).1
    rw [Cm.drop_getD Cm.g0 hl, Cm.useG] at g3
    generalize h.2.1.getD i Cm.g0 = g at g3 hbi ⊢
    refine ⟨⟨(0, n), ⟨⟨by omega, by omega⟩, by dsimp only; omega, by rw [g3]; simp; omega⟩, rfl, rfl⟩, ?_⟩
    rintro ⟨j, q⟩ ⟨⟨r0, r1⟩, r2, r3⟩
    dsimp only at r1 r2 r3 ⊢
    refine ⟨by omega, fun hj => ?_, fun hj => ?_⟩
    · have hj := lt_of hj
      rw [Cm.drop_getD Cm.e0 hj] at r3
      generalize g.1.getD j Cm.e0 = m at r3 ⊢
      have hw : IntKind.wrap .i64 (q + 1) = q + 1 := Cm.wrap_id (by omega) (by omega)
      refine ⟨by omega, by omega, fun _ => by omega, fun _ => by omega, fun c => ?_, fun c => ?_⟩
      · rw [use_step _ c] at r3
        exact ⟨(j + 1, q + 1), ⟨⟨⟨by omega, by omega⟩, by dsimp only; omega, by dsimp only; omega⟩, by dsimp only; omega⟩, hw.symm, (wsucc (by omega)).symm⟩
      · rw [use_skip _ c] at r3
        exact ⟨(j + 1, q), ⟨⟨⟨by omega, by omega⟩, by dsimp only; omega, by dsimp only; omega⟩, by dsimp only; omega⟩, rfl, (wsucc (by omega)).symm⟩
    · have hj := ge_of hj
      rw [List.drop_of_length_le hj, Cm.useM] at r3
      exact ⟨(i + 1, q), ⟨⟨by omega, by dsimp only; omega, by dsimp only; omega⟩, by dsimp only; omega⟩, rfl, (wsucc (by omega)).symm⟩
  · have hl := ge_of hl
    rw [List.drop_of_length_le hl, Cm.useG] at g3
    omega))
theorem ok_impl_zeros_1 : FOk E_impl_zeros_1 Try.f135 sNZ := FOk.of1 fun (w : Int) _ => FGA.fg ((vc_impl_zeros_1 w).mpr (by simp only [and_true]))
theorem ok_slices_IndexFunc_int_int : FOk E_slices_IndexFunc_int_int Try.f151 (sIndex 135) := FOk.of1 fun (a : Cm.Pg) hn => FGA.fg ((vc_slices_IndexFunc_int_int a).mpr (by
  have hn : a.length ≤ 1048576 := hn
  simp only [ifb_iff, imp_self, true_and, and_true, implies_true]
  refine ⟨⟨0, ⟨by omega, rfl⟩, rfl⟩, fun i ⟨h1, h2⟩ => ⟨fun hl => ?_, fun hl => ?_⟩⟩
  · have hl := lt_of hl
    rw [Cm.drop_getD (0 : Int) hl, Cm.idxNZ] at h2
    refine ⟨by omega, fun c => ?_, fun c => ⟨i + 1, ⟨⟨by omega, ?_⟩, by omega⟩, (wsucc (by omega)).symm⟩⟩
    · rw [h2, if_neg (by simpa using c)]
    · rw [h2, if_pos (by simpa using c)]; rfl
  · have hl := ge_of hl
    rw [h2, List.drop_of_length_le hl]; rfl))
theorem idx_blank : ∀ (a : Cm.Pg) (i : Int), 0 ≤ i → decide (Cm.idxNZ a i ≥ 0) = !Cm.blank a
  | [], i, _ => rfl
  | w :: a, i, h => by
    rw [Cm.idxNZ, Cm.blank]
    by_cases c : w = 0
    · rw [if_pos c, idx_blank a (i + 1) (by omega), c]; rfl
    · rw [if_neg c, decide_eq_true h, beq_eq_false_iff_ne.mpr c]; rfl
theorem ok_slices_ContainsFunc_int_int : FOk E_slices_ContainsFunc_int_int Try.f134 (sContains 135) := FOk.of1 fun (a : Cm.Pg) hn => FGA.fg ((vc_slices_ContainsFunc_int_int a).mpr ⟨hn, idx_blank a 0 (by omega), trivial⟩)
theorem ok_impl_zeros : FOk E_impl_zeros Try.f108 sBlank := FOk.of1 fun (a : Cm.Pg) hn => FGA.fg ((vc_impl_zeros a).mpr ⟨hn, by simp, trivial⟩)
theorem ok_spec_l12Blank : FOk E_spec_l12Blank Try.f104 sBlank := FOk.of1 fun (a : Cm.Pg) hn => FGA.fg ((vc_spec_l12Blank a).mpr (by
  have hn : a.length ≤ 1048576 := hn
  simp only [ifb_iff, imp_self, true_and, and_true, implies_true]
  refine ⟨⟨0, ⟨by omega, rfl⟩, rfl⟩, fun i ⟨h1, h2⟩ => ⟨fun hl => ?_, fun hl => ?_⟩⟩
  · have hl := lt_of hl
    rw [Cm.drop_getD (0 : Int) hl, Cm.blank] at h2
    refine ⟨by omega, fun c => ?_, fun c => ⟨i + 1, ⟨⟨by omega, ?_⟩, by omega⟩, (wsucc (by omega)).symm⟩⟩
    · rw [h2, beq_eq_false_iff_ne.mpr (by simpa using c)]; rfl
    · rw [h2, beq_iff_eq.mpr (by simpa using c)]; rfl
  · have hl := ge_of hl
    rw [h2, List.drop_of_length_le hl]; rfl))
theorem ok_spec_l12MapOk : FOk E_spec_l12MapOk Try.f70 sMapOk := FOk.of3 fun (h : Cm.Ho) (m : Cm.E) (d : Cm.Pg) hn => FGA.fg ((vc_spec_l12MapOk h m d).mpr (by
  obtain ⟨hb, hd, hu⟩ := (show Cm.bdH h ∧ d.length ≤ 1048576 ∧ (m.1 = true → 1 ≤ Cm.users h m.2.1) from hn)
  obtain ⟨a, f, w⟩ := m
  simp only [ifb_iff, Cm.mapOk]
  cases a
  · simp [Cm.eqE, Cm.e0]
    cases w <;> by_cases e : f = 0 <;> simp [e]
  · have hu : 1 ≤ Cm.users h f := hu rfl
    have e : (Cm.users h f == 1) = decide (Cm.users h f ≤ 1) := by
      by_cases c : Cm.users h f = 1
      · rw [c]; rfl
      · rw [beq_eq_false_iff_ne.mpr c, decide_eq_false (by omega)]
    simp only [e]
    rcases bb (Cm.within f 0 7) with e1 | e1 <;> rcases bb (Cm.blank d) with e2 | e2 <;> cases w <;> simp [e1, e2, hd, hb]))
theorem ok_spec_l12ShadeOk : FOk E_spec_l12ShadeOk Try.f71 sShOk := FOk.of2 fun (g : Cm.Gt) (s : Cm.Sh) hn => FGA.fg ((vc_spec_l12ShadeOk g s).mpr (by
  have hn : g.1.length = 6 := hn
  obtain ⟨a, p, f, w⟩ := s
  simp only [ifb_iff, Cm.shOk]
  cases a
  · simp [Cm.eqS, Cm.s0]
    cases w <;> by_cases e : p = 0 <;> by_cases e' : f = 0 <;> simp [e, e']
  · rcases bb (Cm.within p 2 5) with e1 | e1
    · simp [e1]
    · have h1 := within_f e1
      simp only [e1, hn]
      generalize List.getD g.1 p.toNat Cm.e0 = m
      obtain ⟨x, y, z⟩ := m
      by_cases e2 : y = f <;> cases x <;> cases z <;> cases w <;> simp [e2] <;> omega))
end Go.Proofs.Ytkcpacgnejlpbaa.T
open Go Go.Am Go.Proofs
open Go.Cm (R rdOk)
namespace Go.Proofs.Ytkcpacgnejlpbaa.T
set_option maxRecDepth 10000
theorem ne_dec (n k : Nat) : (((n : Int) != (k : Int)) : Bool) = !decide (n = k) := by
  by_cases c : n = k
  · rw [c]; simp
  · rw [decide_eq_false c]; simp; omega
theorem ne6 (n : Nat) : (((n : Int) != 6) : Bool) = !decide (n = 6) := ne_dec n 6
theorem ne8 (n : Nat) : (((n : Int) != 8) : Bool) = !decide (n = 8) := ne_dec n 8
theorem szOk_get {g : Cm.Gt} (h : Cm.szOk g = true) : g.1.length = 6 ∧ g.2.2.length = 6 ∧ Cm.okG g.2.1 = true := by
  unfold Cm.szOk at h; simp at h; exact ⟨h.1.1, h.1.2, h.2⟩
theorem mapF (u : Int → Int) (f : Int) (w : Bool) (d : Cm.Pg) : Cm.mapOk u (false, f, w) d = (false == false && (f == 0 && w == false)) := by
  rw [Cm.mapOk, if_pos rfl]; unfold Cm.eqE Cm.e0
  by_cases e : f = 0 <;> cases w <;> simp [e]
theorem mapT (u : Int → Int) (f : Int) (w : Bool) (d : Cm.Pg) : Cm.mapOk u (true, f, w) d = !(!Cm.within f 0 7 || !Cm.blank d || w && decide (u f > 1)) := by
  rw [Cm.mapOk, if_neg (by simp)]; dsimp only
  have e : decide (u f ≤ 1) = !decide (u f > 1) := by by_cases c : u f > 1 <;> simp [c] <;> omega
  rw [e]
  cases Cm.within f 0 7 <;> cases Cm.blank d <;> cases w <;> cases decide (u f > 1) <;> rfl
theorem shF (ms : List Cm.E) (p f : Int) (w : Bool) : Cm.shOk ms (false, p, f, w) = (false == false && (p == 0 && (f == 0 && w == false))) := by
  rw [Cm.shOk, if_pos rfl]; unfold Cm.eqS Cm.s0
  by_cases e : p = 0 <;> by_cases e' : f = 0 <;> cases w <;> simp [e, e']
theorem shT (ms : List Cm.E) (p f : Int) (w : Bool) (h : Cm.within p 2 5 = true) {x : Bool} {y : Int} {z : Bool} (e : ms.getD p.toNat Cm.e0 = (x, y, z)) : Cm.shOk ms (true, p, f, w) = !(!x || y != f || w && !z) := by
  rw [Cm.shOk, if_neg (by simp)]; dsimp only; rw [h, e]
  by_cases c : y = f <;> cases x <;> cases w <;> cases z <;> simp [c]
theorem ok_impl_Host_guestOk : FOk E_impl_Host_guestOk Try.f73 sGOk := FOk.of2 fun (h : Cm.Ho) (g : Cm.Gt) hn => FGA.fg (an := an_gOk h g) ((vc_impl_Host_guestOk h g).mpr (by
  obtain ⟨hb, b1, b2, b3⟩ := (show Cm.bdH h ∧ Cm.bdG g from hn)
  simp only [ifb_iff, imp_self, true_and, and_true, implies_true, ne6]
  refine ⟨fun _ => b2, fun x => by rw [x]; rfl, fun x => by rw [x]; rfl, fun x => ?_, fun x => ?_⟩
  · unfold Cm.gOk Cm.szOk
    cases e1 : decide (g.1.length = 6) <;> cases e2 : Cm.okG g.2.1 <;> cases e3 : decide (g.2.2.length = 6) <;> simp_all
  · have hs : Cm.szOk g = true := by
      unfold Cm.szOk
      cases e1 : decide (g.1.length = 6) <;> cases e2 : Cm.okG g.2.1 <;> cases e3 : decide (g.2.2.length = 6) <;> simp_all
    obtain ⟨l1, l2, l3⟩ := szOk_get hs
    have l4 := Cm.okG_len l3
    refine ⟨⟨0, ⟨⟨by omega, hs⟩, rfl⟩, rfl⟩, fun i ⟨⟨r1, _⟩, r3⟩ => ⟨fun hl => ?_, fun hl => ?_⟩⟩
    · have hl := lt_of hl
      rw [Cm.drop_getD Cm.e0 hl, Cm.drop_getD (l := g.2.1) [] (by omega), Cm.mapsOk] at r3
      have bd := b2.2 i (by omega)
      generalize hd : g.2.1.getD i [] = d at r3 bd ⊢
      have hfail : ∀ m, Cm.mapsOk (Cm.users h) g.1 g.2.1 = (Cm.mapOk (Cm.users h) m d && Cm.mapsOk (Cm.users h) (g.1.drop (i + 1)) (g.2.1.drop (i + 1))) → Cm.mapOk (Cm.users h) m d = false → false = Cm.gOk (Cm.users h) g := fun m r e => by
        rw [e] at r; unfold Cm.gOk; rw [r]; simp
      have hgo : ∀ m, Cm.mapsOk (Cm.users h) g.1 g.2.1 = (Cm.mapOk (Cm.users h) m d && Cm.mapsOk (Cm.users h) (g.1.drop (i + 1)) (g.2.1.drop (i + 1))) → Cm.mapOk (Cm.users h) m d = true →
          ∃ a', (((a' ≤ g.1.length ∧ Cm.szOk g = true) ∧ Cm.mapsOk (Cm.users h) g.1 g.2.1 = Cm.mapsOk (Cm.users h) (List.drop a' g.1) (List.drop a' g.2.1)) ∧ g.1.length - a' < g.1.length - i) ∧ (a' : Int) = IntKind.wrap .i64 ((i : Int) + 1) := fun m r e => by
        rw [e] at r
        exact ⟨i + 1, ⟨⟨⟨by omega, hs⟩, r⟩, by omega⟩, (wsucc (by omega)).symm⟩
      generalize g.1.getD i Cm.e0 = m at r3 ⊢
      obtain ⟨a, f, w⟩ := m
      dsimp only
      cases a
      · refine ⟨by omega, fun _ => ⟨fun c => hfail _ r3 ?_, fun c => hgo _ r3 ?_⟩, fun c => by cases c⟩
        · rw [mapF]; exact bnt c
        · rw [mapF]; exact bnf c
      · refine ⟨by omega, fun c => (by cases c), fun _ => ⟨fun _ => by omega, fun _ => bd, fun x => by rw [x]; rfl, fun _ => hb, fun x y => by rw [x, y]; rfl, fun x => by rw [x]; rfl, fun c => hfail _ r3 ?_, fun c => hgo _ r3 ?_⟩⟩
        · rw [mapT, c]; rfl
        · rw [mapT, c]; rfl
    · have hl := ge_of hl
      rw [List.drop_of_length_le hl] at r3
      have hm : Cm.mapsOk (Cm.users h) g.1 g.2.1 = true := by rw [r3]; unfold Cm.mapsOk; rfl
      refine ⟨⟨0, ⟨⟨by omega, hs, hm⟩, rfl⟩, rfl⟩, fun j ⟨⟨q1, _⟩, q3⟩ => ⟨fun hj => ?_, fun hj => ?_⟩⟩
      · have hj := lt_of hj
        rw [Cm.drop_getD Cm.s0 hj, Cm.shsOk] at q3
        have hfail : ∀ s, Cm.shsOk g.1 g.2.2 = (Cm.shOk g.1 s && Cm.shsOk g.1 (g.2.2.drop (j + 1))) → Cm.shOk g.1 s = false → false = Cm.gOk (Cm.users h) g := fun s r e => by
          rw [e] at r; unfold Cm.gOk; rw [r]; simp
        have hgo : ∀ s, Cm.shsOk g.1 g.2.2 = (Cm.shOk g.1 s && Cm.shsOk g.1 (g.2.2.drop (j + 1))) → Cm.shOk g.1 s = true →
            ∃ a', (((a' ≤ g.2.2.length ∧ Cm.szOk g = true ∧ Cm.mapsOk (Cm.users h) g.1 g.2.1 = true) ∧ Cm.shsOk g.1 g.2.2 = Cm.shsOk g.1 (List.drop a' g.2.2)) ∧ g.2.2.length - a' < g.2.2.length - j) ∧ (a' : Int) = IntKind.wrap .i64 ((j : Int) + 1) := fun s r e => by
          rw [e] at r
          exact ⟨j + 1, ⟨⟨⟨by omega, hs, hm⟩, r⟩, by omega⟩, (wsucc (by omega)).symm⟩
        generalize g.2.2.getD j Cm.s0 = s at q3 ⊢
        obtain ⟨a, p, f, w⟩ := s
        dsimp only
        cases a
        · refine ⟨by omega, fun _ => ⟨fun c => hfail _ q3 ?_, fun c => hgo _ q3 ?_⟩, fun c => by cases c⟩
          · rw [shF]; exact bnt c
          · rw [shF]; exact bnf c
        · refine ⟨by omega, fun c => (by cases c), fun _ => ⟨fun c => hfail _ q3 ?_, fun c => ?_⟩⟩
          · rw [Cm.shOk, if_neg (by simp)]; dsimp only; rw [bnt c]; rfl
          · have hw := within_f (bnf c)
            have hsh := fun x y z => shT g.1 p f w (bnf c) (x := x) (y := y) (z := z)
            generalize g.1.getD p.toNat Cm.e0 = m at hsh ⊢
            obtain ⟨x, y, z⟩ := m
            have hsh := hsh x y z rfl
            dsimp only
            refine ⟨⟨by omega, by omega⟩, fun x => by rw [x]; rfl, fun x y => by rw [x, y]; rfl, fun x => by rw [x]; rfl, fun c => hfail _ q3 ?_, fun c => hgo _ q3 ?_⟩
            · rw [hsh, c]; rfl
            · rw [hsh, c]; rfl
      · have hj := ge_of hj
        rw [List.drop_of_length_le hj] at q3
        have q3 : Cm.shsOk g.1 g.2.2 = true := q3
        unfold Cm.gOk; rw [hs, hm, q3]; rfl))
theorem ok_impl_HostOk : FOk E_impl_HostOk Try.f25 sHOk := FOk.of1 fun (h : Cm.Ho) hn => FGA.fg ((vc_impl_HostOk h).mpr (by
  have hb : Cm.bdH h := hn
  obtain ⟨b1, b2, b3⟩ := id hb
  simp only [ifb_iff, imp_self, true_and, and_true, implies_true, ne8]
  refine ⟨fun _ => b1, fun x => by rw [x]; rfl, fun x => by rw [x]; rfl, fun x => by rw [x]; rfl, fun x => ?_, fun x => ?_⟩
  · unfold Cm.hOk Cm.preOk
    rcases bb (decide (h.1.length = 8)) with e1 | e1 <;> rcases bb (Cm.okM h.1) with e2 | e2 <;> rcases bb (Cm.within (h.2.1.length : Int) 1 2) with e3 | e3 <;> rcases bb (Cm.within h.2.2 0 7) with e4 | e4 <;> simp_all
  · have hp : Cm.preOk h = true := by
      unfold Cm.preOk
      rcases bb (decide (h.1.length = 8)) with e1 | e1 <;> rcases bb (Cm.okM h.1) with e2 | e2 <;> rcases bb (Cm.within (h.2.1.length : Int) 1 2) with e3 | e3 <;> rcases bb (Cm.within h.2.2 0 7) with e4 | e4 <;> simp_all
    refine ⟨⟨0, ⟨by omega, rfl⟩, rfl⟩, fun i ⟨r1, r2⟩ => ⟨fun hl => ?_, fun hl => ?_⟩⟩
    · have hl := lt_of hl
      rw [Cm.drop_getD Cm.g0 hl, Cm.gsOk] at r2
      refine ⟨by omega, ⟨hb, b3 i hl⟩, fun c => ?_, fun c => ⟨i + 1, ⟨⟨by omega, ?_⟩, by omega⟩, (wsucc (by omega)).symm⟩⟩
      · unfold Cm.hOk; rw [r2, bnt c]; simp
      · rw [r2, bnf c]; rfl
    · have hl := ge_of hl
      rw [List.drop_of_length_le hl] at r2
      unfold Cm.hOk; rw [hp, r2]; rfl))
theorem gsOk_szs {u : Int → Int} : ∀ {l : List Cm.Gt}, Cm.gsOk u l = true → Cm.szsOk l = true
  | [], _ => rfl
  | g :: l, h => by
    rw [Cm.gsOk, Bool.and_eq_true] at h
    have h1 := h.1
    unfold Cm.gOk at h1; rw [Bool.and_eq_true] at h1
    rw [Cm.szsOk, h1.1, gsOk_szs h.2]; rfl
theorem szsOk_get : ∀ {l : List Cm.Gt}, Cm.szsOk l = true → ∀ i, i < l.length → Cm.szOk (l.getD i Cm.g0) = true
  | [], _, i, hi => by simp at hi
  | g :: l, h, i, hi => by
    rw [Cm.szsOk, Bool.and_eq_true] at h
    cases i with
    | zero => exact h.1
    | succ i => exact szsOk_get h.2 i (by simpa using hi)
theorem users_pos {h : Cm.Ho} {i j : Nat} (hi : i < h.2.1.length) (hj : j < (h.2.1.getD i Cm.g0).1.length) (e : ((h.2.1.getD i Cm.g0).1.getD j Cm.e0).1 = true) : 1 ≤ Cm.users h ((h.2.1.getD i Cm.g0).1.getD j Cm.e0).2.1 :=
  Cm.useG_pos hi (Cm.useM_pos hj e rfl)
theorem ok_spec_HostOk : FOk E_spec_HostOk Try.f24 sHOk := FOk.of1 fun (h : Cm.Ho) hn => FGA.fg (an := an_hOkS h) ((vc_spec_HostOk h).mpr (by
  have hb : Cm.bdH h := hn
  obtain ⟨b1, b2, b3⟩ := id hb
  simp only [ifb_iff, imp_self, true_and, and_true, implies_true, ne8, ne6]
  refine ⟨b1, fun x => by rw [x]; rfl, fun x => by rw [x]; rfl, fun x => by rw [x]; rfl, fun x => ?_, fun x => ?_⟩
  · unfold Cm.hOk Cm.preOk
    rcases bb (decide (h.1.length = 8)) with e1 | e1 <;> rcases bb (Cm.okM h.1) with e2 | e2 <;> rcases bb (Cm.within (h.2.1.length : Int) 1 2) with e3 | e3 <;> rcases bb (Cm.within h.2.2 0 7) with e4 | e4 <;> simp_all
  · have hp : Cm.preOk h = true := by
      unfold Cm.preOk
      rcases bb (decide (h.1.length = 8)) with e1 | e1 <;> rcases bb (Cm.okM h.1) with e2 | e2 <;> rcases bb (Cm.within (h.2.1.length : Int) 1 2) with e3 | e3 <;> rcases bb (Cm.within h.2.2 0 7) with e4 | e4 <;> simp_all
    refine ⟨⟨0, ⟨by omega, rfl⟩, rfl⟩, fun i ⟨r1, r2⟩ => ⟨fun hl => ?_, fun hl => ?_⟩⟩
    · have hl := lt_of hl
      have bi := b3 i hl
      rw [Cm.drop_getD Cm.g0 hl, Cm.szsOk] at r2
      generalize h.2.1.getD i Cm.g0 = g at r2 bi ⊢
      refine ⟨by omega, fun x => by rw [x]; rfl, fun _ => bi.2.1, fun x => by rw [x]; rfl, fun c => ?_, fun c => ⟨i + 1, ⟨⟨by omega, ?_⟩, by omega⟩, (wsucc (by omega)).symm⟩⟩
      · have e : Cm.szOk g = false := by
          unfold Cm.szOk
          cases e1 : decide (g.1.length = 6) <;> cases e2 : Cm.okG g.2.1 <;> cases e3 : decide (g.2.2.length = 6) <;> simp_all
        rw [e] at r2
        unfold Cm.hOk
        cases e' : Cm.gsOk (Cm.users h) h.2.1
        · simp
        · have := gsOk_szs e'; rw [r2] at this; cases this
      · have e : Cm.szOk g = true := by
          unfold Cm.szOk
          cases e1 : decide (g.1.length = 6) <;> cases e2 : Cm.okG g.2.1 <;> cases e3 : decide (g.2.2.length = 6) <;> simp_all
        rw [r2, e]; rfl
    · have hl := ge_of hl
      rw [List.drop_of_length_le hl] at r2
      have hz : Cm.szsOk h.2.1 = true := r2
      refine ⟨⟨0, ⟨⟨by omega, hz⟩, rfl⟩, rfl⟩, fun i ⟨⟨q1, _⟩, q2⟩ => ⟨fun hi => ?_, fun hi => ?_⟩⟩
      · have hi := lt_of hi
        obtain ⟨l1, l2, l3⟩ := szOk_get (szsOk_get hz i hi)
        have l4 := Cm.okG_len l3
        have bi := b3 i hi
        rw [Cm.drop_getD Cm.g0 hi, Cm.gsOk, Cm.gOk, szsOk_get hz i hi, Bool.true_and] at q2
        have up := fun j => users_pos (h := h) (j := j) hi
        generalize h.2.1.getD i Cm.g0 = g at q2 bi l1 l2 l3 l4 up ⊢
        refine ⟨by omega, ⟨0, ⟨⟨by omega, hi, hz⟩, by simpa using q2⟩, rfl⟩, fun j ⟨⟨s1, _⟩, s2⟩ => ⟨fun hj => ?_, fun hj => ?_⟩⟩
        · have hj : (j : Int) < 6 := of_decide_eq_true hj
          have bj := bi.2.1.2 j (by omega)
          have upj := up j (by omega)
          rw [Cm.drop_getD Cm.e0 (show j < g.1.length by omega), Cm.drop_getD (l := g.2.1) [] (by omega), Cm.drop_getD Cm.s0 (show j < g.2.2.length by omega), Cm.mapsOk, Cm.shsOk] at s2
          refine ⟨by omega, by omega, ⟨hb, bj, upj⟩, fun _ => by omega, fun _ => l1, fun x => by rw [x]; rfl, fun c => ?_, fun c => ⟨j + 1, ⟨⟨⟨by omega, hi, hz⟩, ?_⟩, by omega⟩, (wsucc (by omega)).symm⟩⟩
          · unfold Cm.hOk; rw [s2]
            rcases bb (Cm.mapOk (Cm.users h) (g.1.getD j Cm.e0) (g.2.1.getD j [])) with e1 | e1
            · rw [e1]; simp
            · rw [e1] at c
              have c : Cm.shOk g.1 (g.2.2.getD j Cm.s0) = false := by simpa using c
              rw [c]; simp
          · rw [Bool.or_eq_false_iff] at c
            rw [s2, bnf c.1, bnf c.2]; simp
        · have hj : ¬ (j : Int) < 6 := of_decide_eq_false hj
          rw [List.drop_of_length_le (l := g.1) (by omega), List.drop_of_length_le (l := g.2.2) (by omega)] at s2
          refine ⟨i + 1, ⟨⟨⟨by omega, hz⟩, ?_⟩, by omega⟩, (wsucc (by omega)).symm⟩
          rw [s2]; unfold Cm.mapsOk Cm.shsOk; rfl
      · have hi := ge_of hi
        rw [List.drop_of_length_le hi] at q2
        unfold Cm.hOk; rw [hp, q2]; rfl))
end Go.Proofs.Ytkcpacgnejlpbaa.T
open Go Go.Am Go.Proofs
open Go.Cm (R rdOk)
namespace Go.Proofs.Ytkcpacgnejlpbaa.T
set_option maxRecDepth 10000
theorem gsOk_get {u : Int → Int} : ∀ {l : List Cm.Gt}, Cm.gsOk u l = true → ∀ i, i < l.length → Cm.gOk u (l.getD i Cm.g0) = true
  | [], _, i, hi => by simp at hi
  | g :: l, h, i, hi => by
    rw [Cm.gsOk, Bool.and_eq_true] at h
    cases i with
    | zero => exact h.1
    | succ i => exact gsOk_get h.2 i (by simpa using hi)
theorem mapsOk_get {u : Int → Int} : ∀ {l : List Cm.E} {d : Cm.Mm}, Cm.mapsOk u l d = true → ∀ i, i < l.length → Cm.mapOk u (l.getD i Cm.e0) (d.getD i []) = true
  | [], _, _, i, hi => by simp at hi
  | m :: l, [], h, i, hi => by
    rw [Cm.mapsOk, Bool.and_eq_true] at h
    cases i with
    | zero => exact h.1
    | succ i => have := mapsOk_get h.2 i (by simpa using hi); simpa using this
  | m :: l, d :: k, h, i, hi => by
    rw [Cm.mapsOk, Bool.and_eq_true] at h
    cases i with
    | zero => exact h.1
    | succ i => exact mapsOk_get h.2 i (by simpa using hi)
theorem mapOk_in {u : Int → Int} {m : Cm.E} {d : Cm.Pg} (h : Cm.mapOk u m d = true) (e : m.1 = true) : 0 ≤ m.2.1 ∧ m.2.1 ≤ 7 := by
  rw [Cm.mapOk, if_neg (by rw [e]; simp), Bool.and_eq_true, Bool.and_eq_true] at h
  exact within_f h.1.1
theorem hOk_get {h : Cm.Ho} (e : Cm.hOk h = true) : (h.1.length = 8 ∧ Cm.okM h.1 = true ∧ 1 ≤ h.2.1.length ∧ h.2.1.length ≤ 2) ∧ ∀ i, i < h.2.1.length → Cm.gOk (Cm.users h) (h.2.1.getD i Cm.g0) = true := by
  unfold Cm.hOk Cm.preOk at e
  simp only [Bool.and_eq_true, decide_eq_true_eq] at e
  have := within_f e.1.1.2
  exact ⟨⟨e.1.1.1.2, e.1.1.1.1, by omega, by omega⟩, gsOk_get e.2⟩
theorem gOk_get {u : Int → Int} {g : Cm.Gt} (e : Cm.gOk u g = true) : (g.1.length = 6 ∧ g.2.2.length = 6 ∧ Cm.okG g.2.1 = true) ∧ Cm.mapsOk u g.1 g.2.1 = true ∧ Cm.shsOk g.1 g.2.2 = true := by
  unfold Cm.gOk at e
  simp only [Bool.and_eq_true] at e
  exact ⟨szOk_get e.1, e.2⟩
theorem frame_get {h : Cm.Ho} (e : Cm.hOk h = true) {i j : Nat} (hi : i < h.2.1.length) (hj : j < 6) (c : ((h.2.1.getD i Cm.g0).1.getD j Cm.e0).1 = true) :
    (0 ≤ ((h.2.1.getD i Cm.g0).1.getD j Cm.e0).2.1 ∧ ((h.2.1.getD i Cm.g0).1.getD j Cm.e0).2.1 < (h.1.length : Int)) ∧ (h.1.getD ((h.2.1.getD i Cm.g0).1.getD j Cm.e0).2.1.toNat []).length = 4 := by
  obtain ⟨⟨h1, h2, h3, h4⟩, h5⟩ := hOk_get e
  obtain ⟨⟨g1, g2, g3⟩, g4, g5⟩ := gOk_get (h5 i hi)
  have := mapOk_in (mapsOk_get g4 j (by omega)) c
  exact ⟨by omega, Cm.okP_len (Cm.okM_get h2 _ (by omega))⟩
theorem shsOk_get {ms : List Cm.E} : ∀ {l : List Cm.Sh}, Cm.shsOk ms l = true → ∀ i, i < l.length → Cm.shOk ms (l.getD i Cm.s0) = true
  | [], _, i, hi => by simp at hi
  | s :: l, h, i, hi => by
    rw [Cm.shsOk, Bool.and_eq_true] at h
    cases i with
    | zero => exact h.1
    | succ i => exact shsOk_get h.2 i (by simpa using hi)
theorem hOk_shH {h : Cm.Ho} (e : Cm.hOk h = true) : Cm.shH h := by
  have e' := e
  unfold Cm.hOk at e'
  rw [Bool.and_eq_true] at e'
  refine ⟨e'.1, fun i hi => ?_⟩
  have hg := gsOk_get e'.2 i hi
  obtain ⟨⟨g1, g2, g3⟩, g4, g5⟩ := gOk_get hg
  unfold Cm.gOk at hg
  rw [Bool.and_eq_true] at hg
  refine ⟨hg.1, fun j hj c => mapOk_in (mapsOk_get g4 j (by omega)) c, fun j hj c => ?_⟩
  have hs := shsOk_get g5 j (by omega)
  generalize (h.2.1.getD i Cm.g0).2.2.getD j Cm.s0 = s at hs c ⊢
  rw [Cm.shOk, if_neg (by rw [c]; simp)] at hs
  simp only [Bool.and_eq_true, decide_eq_true_eq] at hs
  have hw := within_f hs.1
  have := mapOk_in (mapsOk_get g4 s.2.1.toNat (by omega)) hs.2.1.1
  rw [hs.2.1.2] at this; exact this
theorem shH_get {h : Cm.Ho} (e : Cm.shH h) : (h.1.length = 8 ∧ Cm.okM h.1 = true) ∧ (1 ≤ h.2.1.length ∧ h.2.1.length ≤ 2) ∧ 0 ≤ h.2.2 ∧ h.2.2 ≤ 7 := by
  have e := e.1
  unfold Cm.preOk at e
  simp only [Bool.and_eq_true, decide_eq_true_eq] at e
  have := within_f e.1.2
  exact ⟨⟨e.1.1.2, e.1.1.1⟩, by omega, within_f e.2⟩
theorem shH_row {h : Cm.Ho} (e : Cm.shH h) {i : Nat} (hi : i < 8) : Cm.okP (h.1.getD i []) = true := by
  obtain ⟨⟨h1, h2⟩, _⟩ := shH_get e
  exact Cm.okM_get h2 i (by omega)
theorem shH_bd {h : Cm.Ho} (e : Cm.shH h) : Cm.bdH h := by
  obtain ⟨⟨h1, h2⟩, h3, _⟩ := shH_get e
  refine ⟨⟨by omega, fun i hi => ?_⟩, by omega, fun i hi => ?_⟩
  · have := Cm.okP_len (shH_row e (i := i) (by omega)); omega
  · obtain ⟨l1, l2, l3⟩ := szOk_get (e.2 i hi).1
    have l4 := Cm.okG_len l3
    exact ⟨by omega, ⟨by omega, fun j hj => by have := Cm.okG_row l3 (i := j) (by omega); omega⟩, by omega⟩
theorem frame_s {h : Cm.Ho} (e : Cm.shH h) {i j : Nat} (hi : i < h.2.1.length) (hj : j < 6) (c : ((h.2.1.getD i Cm.g0).1.getD j Cm.e0).1 = true) :
    (0 ≤ ((h.2.1.getD i Cm.g0).1.getD j Cm.e0).2.1 ∧ ((h.2.1.getD i Cm.g0).1.getD j Cm.e0).2.1 < (h.1.length : Int)) ∧ (h.1.getD ((h.2.1.getD i Cm.g0).1.getD j Cm.e0).2.1.toNat []).length = 4 := by
  have := (e.2 i hi).2.1 j hj c
  have h1 := (shH_get e).1.1
  exact ⟨by omega, Cm.okP_len (shH_row e (by omega))⟩
theorem ok_spec_l12Page : FOk E_spec_l12Page Try.f102 sPageS := FOk.of3 fun (h : Cm.Ho) (g p : Int) hn => FGA.fg ((vc_spec_l12Page h g p).mpr (by
  obtain ⟨hs, hg, hp⟩ := (show inS h g p from hn)
  have hgn : g.toNat < h.2.1.length := by omega
  obtain ⟨g1, g2, g3⟩ := szOk_get (hs.2 _ hgn).1
  have g4 := Cm.okG_len g3
  have g6 := Cm.okG_row g3 (i := p.toNat) (by omega)
  have g5 := frame_s hs hgn (j := p.toNat) (by omega)
  simp only [ifb_iff, imp_self, true_and, and_true, implies_true, Cm.gAt]
  generalize h.2.1.getD g.toNat Cm.g0 = x at g1 g2 g3 g4 g5 g6 ⊢
  refine ⟨hg, by omega, fun c => ?_, fun c => ⟨hg, by omega, by rw [g6]; decide, by unfold Cm.pageG; rw [if_neg (by rw [c]; simp)]⟩⟩
  obtain ⟨f1, f2⟩ := g5 c
  exact ⟨f1, by rw [f2]; decide, by unfold Cm.pageG; rw [if_pos c]⟩))
theorem see_len (h : Cm.Ho) (g : Int) : (Cm.see h g).length = 6 := rfl
theorem see_take (h : Cm.Ho) (g : Int) {i : Nat} (hi : i < 6) : (Cm.see h g).take (i + 1) = (Cm.see h g).take i ++ [Cm.pageG h.1 (h.2.1.getD g.toNat Cm.g0) i] := by
  have : i = 0 ∨ i = 1 ∨ i = 2 ∨ i = 3 ∨ i = 4 ∨ i = 5 := by omega
  rcases this with rfl | rfl | rfl | rfl | rfl | rfl <;> rfl
theorem ok_spec_l12See : FOk E_spec_l12See Try.f67 sSeeS := FOk.of2 fun (h : Cm.Ho) (g : Int) hn => FGA.fg ((vc_spec_l12See h g).mpr (by
  obtain ⟨hs, hg⟩ := (show Cm.shH h ∧ inG h g from hn)
  simp only [ifb_iff, imp_self, true_and, and_true, implies_true]
  refine ⟨⟨0, by omega, rfl, rfl⟩, fun i h1 => ⟨fun hl => ?_, fun hl => ?_⟩⟩
  · have hl : (i : Int) < 6 := of_decide_eq_true hl
    refine ⟨⟨hs, hg, by omega, by omega⟩, ?_, i + 1, by omega, (wsucc (by omega)).symm, see_take h g (by omega)⟩
    show ((List.take i (Cm.see h g)).length + 1) * 24 ≤ _; rw [List.length_take]; omega
  · have hl : ¬ (i : Int) < 6 := of_decide_eq_false hl
    exact List.take_of_length_le (by rw [see_len]; omega)))
theorem ok_impl_Host_see : FOk E_impl_Host_see Try.f65 sSeeH := FOk.of2 fun (h : Cm.Ho) (g : Int) hn => FGA.fg ((vc_impl_Host_see h g).mpr (by
  obtain ⟨⟨hb, ho⟩, hg⟩ := (show (Cm.bdH h ∧ Cm.hOk h = true) ∧ 0 ≤ g ∧ g < (h.2.1.length : Int) from hn)
  have hgn : g.toNat < h.2.1.length := by omega
  obtain ⟨_, h5⟩ := hOk_get ho
  obtain ⟨⟨g1, g2, g3⟩, _⟩ := gOk_get (h5 _ hgn)
  have g4 := Cm.okG_len g3
  have g6 := fun i => Cm.okG_row g3 (i := i)
  have g5 := fun j => frame_get ho hgn (j := j)
  have hst := fun i => see_take h g (i := i)
  simp only [ifb_iff, imp_self, true_and, and_true, implies_true]
  generalize h.2.1.getD g.toNat Cm.g0 = x at g1 g2 g3 g4 g5 g6 hst ⊢
  refine ⟨hg, ⟨0, by omega, rfl, rfl⟩, fun i h1 => ⟨fun hl => ?_, fun hl => ?_⟩⟩
  · have hl := lt_of hl
    have hlen : ((List.take i (Cm.see h g)).length + 1) * 24 ≤ 140737488355328 := by rw [List.length_take]; omega
    refine ⟨by omega, by omega, fun c => ?_, fun c => ?_⟩
    · obtain ⟨f1, f2⟩ := g5 i (by omega) c
      refine ⟨f1, by rw [f2]; decide, hlen, i + 1, by omega, (wsucc (by omega)).symm, ?_⟩
      rw [hst i (by omega)]; unfold Cm.pageG; rw [if_pos c]; rfl
    · refine ⟨by rw [g6 i (by omega)]; decide, hlen, i + 1, by omega, (wsucc (by omega)).symm, ?_⟩
      rw [hst i (by omega)]; unfold Cm.pageG; rw [if_neg (by rw [c]; simp)]; rfl
  · have hl := ge_of hl
    exact List.take_of_length_le (by rw [see_len]; omega)))
theorem wlen {h : Cm.Ho} (hb : Cm.bdH h) : IntKind.wrap .i64 ((h.2.1.length : Int) - 1) = (h.2.1.length : Int) - 1 := by
  have := hb.2.1; exact Cm.wrap_id (by omega) (by omega)
theorem ok_spec_HostSee : FOk E_spec_HostSee Try.f23 sHSee := FOk.of2 fun (h : Cm.Ho) (g : Int) hn => FGA.fg ((vc_spec_HostSee h g).mpr (by
  have hb : Cm.bdH h := hn
  simp only [ifb_iff, imp_self, true_and, and_true, implies_true, wlen hb, Cm.hSee]
  refine ⟨hb, fun x => by rw [x]; rfl, fun c => ?_, fun c => ?_⟩
  · rw [if_neg]; intro e; rw [e.1, e.2] at c; cases c
  · rw [Bool.or_eq_false_iff] at c
    have c1 := bnf c.1
    have c2 := bnf c.2
    have := within_f c2
    exact ⟨⟨hOk_shH c1, by omega, by omega⟩, by rw [if_pos ⟨c1, c2⟩]⟩))
theorem ok_impl_HostSee : FOk E_impl_HostSee Try.f21 sHSee := FOk.of2 fun (h : Cm.Ho) (g : Int) hn => FGA.fg ((vc_impl_HostSee h g).mpr (by
  have hb : Cm.bdH h := hn
  simp only [ifb_iff, imp_self, true_and, and_true, implies_true, wlen hb, Cm.hSee]
  refine ⟨hb, fun x => by rw [x]; rfl, fun c => ?_, fun c => ?_⟩
  · rw [if_neg]; intro e; rw [e.1, e.2] at c; cases c
  · rw [Bool.or_eq_false_iff] at c
    have c1 := bnf c.1
    have c2 := bnf c.2
    have := within_f c2
    exact ⟨⟨⟨hb, c1⟩, by omega, by omega⟩, by rw [if_pos ⟨c1, c2⟩]⟩))
theorem ok_spec_l14Forget : FOk E_spec_l14Forget Try.f156 sForgetT := FOk.of2 fun (h : Cm.Ho) (g : Int) hn => FGA.fg ((vc_spec_l14Forget h g).mpr (by
  have hn : 0 ≤ g ∧ g < (h.2.1.length : Int) := hn
  simp only [true_and, and_true]
  exact ⟨⟨by decide, by decide⟩, hn, rfl⟩))
theorem see_bd {h : Cm.Ho} (hb : Cm.bdH h) (g : Int) : Cm.bd (Cm.hSee h g) := by
  unfold Cm.hSee
  split
  · rename_i c
    have hw := within_f c.2
    have hgn : g.toNat < h.2.1.length := by omega
    obtain ⟨_, h5⟩ := hOk_get c.1
    obtain ⟨⟨g1, g2, g3⟩, _⟩ := gOk_get (h5 _ hgn)
    have g6 := fun i => Cm.okG_row g3 (i := i)
    have g5 := fun j => frame_get c.1 hgn (j := j)
    have key : ∀ i, i < 6 → (Cm.pageG h.1 (h.2.1.getD g.toNat Cm.g0) i).length = 4 := fun i hi => by
      unfold Cm.pageG; split
      · rename_i e; exact (g5 i hi e).2
      · exact g6 i hi
    refine ⟨by rw [see_len]; omega, fun i hi => ?_⟩
    rw [see_len] at hi
    have : i = 0 ∨ i = 1 ∨ i = 2 ∨ i = 3 ∨ i = 4 ∨ i = 5 := by omega
    rcases this with rfl | rfl | rfl | rfl | rfl | rfl
    · exact Nat.le_trans (Nat.le_of_eq (key 0 (by omega))) (by decide)
    · exact Nat.le_trans (Nat.le_of_eq (key 1 (by omega))) (by decide)
    · exact Nat.le_trans (Nat.le_of_eq (key 2 (by omega))) (by decide)
    · exact Nat.le_trans (Nat.le_of_eq (key 3 (by omega))) (by decide)
    · exact Nat.le_trans (Nat.le_of_eq (key 4 (by omega))) (by decide)
    · exact Nat.le_trans (Nat.le_of_eq (key 5 (by omega))) (by decide)
  · exact ⟨by simp, fun i hi => by simp at hi⟩
theorem modAt_get {α : Type} (l : List α) (n : Nat) (d : α) (f : α → α) (i : Nat) (hi : i < l.length) : (Cm.modAt l n d f).getD i d = if n = i then f (l.getD i d) else l.getD i d := by
  unfold Cm.modAt
  simp only [List.getD_eq_getElem?_getD, List.getElem?_set]
  split
  · rename_i e; subst e; simp [hi]
  · rfl
end Go.Proofs.Ytkcpacgnejlpbaa.T
open Go Go.Am Go.Proofs
open Go.Cm (R rdOk)
namespace Go.Proofs.Ytkcpacgnejlpbaa.T
set_option maxRecDepth 10000
theorem kn_impl_Host_many : Known Try.prog 54 sUsers := known_of tabOk (kn0) mixed Try.func54 (by kernel_rfl) ok_impl_Host_many
theorem kn_spec_l12Users : Known Try.prog 105 sUsers := known_of tabOk (kn0) mixed Try.func105 (by kernel_rfl) ok_spec_l12Users
theorem kn_impl_zeros_1 : Known Try.prog 135 sNZ := known_of tabOk (kn0) mixed Try.func135 (by kernel_rfl) ok_impl_zeros_1
theorem kn_slices_IndexFunc_int_int : Known Try.prog 151 (sIndex 135) := known_of tabOk (AllK.cons kn0 kn_impl_zeros_1) mixed Try.func151 (by kernel_rfl) ok_slices_IndexFunc_int_int
theorem kn_slices_ContainsFunc_int_int : Known Try.prog 134 (sContains 135) := known_of tabOk (AllK.cons kn0 kn_slices_IndexFunc_int_int) mixed Try.func134 (by kernel_rfl) ok_slices_ContainsFunc_int_int
theorem kn_impl_zeros : Known Try.prog 108 sBlank := known_of tabOk (AllK.cons (AllK.cons kn0 kn_impl_zeros_1) kn_slices_ContainsFunc_int_int) mixed Try.func108 (by kernel_rfl) ok_impl_zeros
theorem kn_spec_l12Blank : Known Try.prog 104 sBlank := known_of tabOk (kn0) mixed Try.func104 (by kernel_rfl) ok_spec_l12Blank
theorem kn_spec_l12MapOk : Known Try.prog 70 sMapOk := known_of tabOk (AllK.cons (AllK.cons (AllK.cons kn0 kn_spec_l12Users) kn_spec_l12Blank) kn_107) mixed Try.func70 (by kernel_rfl) ok_spec_l12MapOk
theorem kn_spec_l12ShadeOk : Known Try.prog 71 sShOk := known_of tabOk (AllK.cons kn0 kn_107) mixed Try.func71 (by kernel_rfl) ok_spec_l12ShadeOk
theorem kn_impl_Host_guestOk : Known Try.prog 73 sGOk := known_of tabOk (AllK.cons (AllK.cons (AllK.cons (AllK.cons kn0 kn_impl_zeros) kn_impl_guestMem) kn_98) kn_impl_Host_many) mixed Try.func73 (by kernel_rfl) ok_impl_Host_guestOk
theorem kn_impl_HostOk : Known Try.prog 25 sHOk := known_of tabOk (AllK.cons (AllK.cons (AllK.cons kn0 kn_impl_Host_guestOk) kn_impl_MemOk) kn_98) mixed Try.func25 (by kernel_rfl) ok_impl_HostOk
theorem kn_spec_HostOk : Known Try.prog 24 sHOk := known_of tabOk (AllK.cons (AllK.cons (AllK.cons (AllK.cons (AllK.cons kn0 kn_spec_l12ShadeOk) kn_spec_l12MapOk) kn_spec_l11Guest) kn_spec_MemOk) kn_107) mixed Try.func24 (by kernel_rfl) ok_spec_HostOk
theorem kn_spec_l12Page : Known Try.prog 102 sPageS := known_of tabOk (kn0) mixed Try.func102 (by kernel_rfl) ok_spec_l12Page
theorem kn_spec_l12See : Known Try.prog 67 sSeeS := known_of tabOk (AllK.cons kn0 kn_spec_l12Page) mixed Try.func67 (by kernel_rfl) ok_spec_l12See
theorem kn_impl_Host_see : Known Try.prog 65 sSeeH := known_of tabOk (kn0) mixed Try.func65 (by kernel_rfl) ok_impl_Host_see
theorem kn_spec_HostSee : Known Try.prog 23 sHSee := known_of tabOk (AllK.cons (AllK.cons (AllK.cons kn0 kn_spec_l12See) kn_107) kn_spec_HostOk) mixed Try.func23 (by kernel_rfl) ok_spec_HostSee
theorem kn_impl_HostSee : Known Try.prog 21 sHSee := known_of tabOk (AllK.cons (AllK.cons (AllK.cons kn0 kn_impl_Host_see) kn_98) kn_impl_HostOk) mixed Try.func21 (by kernel_rfl) ok_impl_HostSee
theorem kn_spec_l14Forget : Known Try.prog 156 sForgetT := known_of tabOk (kn0) mixed Try.func156 (by kernel_rfl) ok_spec_l14Forget
end Go.Proofs.Ytkcpacgnejlpbaa.T
open Go Go.Am Go.Proofs
open Go.Cm (R rdOk)
namespace Go.Proofs.Ytkcpacgnejlpbaa.T
set_option maxRecDepth 10000
theorem getD_set {α : Type} (l : List α) (n : Nat) (v d : α) (i : Nat) : (l.set n v).getD i d = if n = i ∧ i < l.length then v else l.getD i d := by
  simp only [List.getD_eq_getElem?_getD, List.getElem?_set]
  by_cases e : n = i
  · by_cases c : i < l.length <;> simp [e, c]
  · simp [e]
theorem modAt_modAt {α : Type} (l : List α) (n : Nat) (d : α) (f k : α → α) : Cm.modAt (Cm.modAt l n d f) n d k = Cm.modAt l n d fun x => k (f x) := by
  unfold Cm.modAt
  by_cases c : n < l.length
  · rw [List.set_set, getD_set, if_pos ⟨rfl, c⟩]
  · rw [List.set_eq_of_length_le (by simp; omega), List.set_eq_of_length_le (by omega), List.set_eq_of_length_le (by omega)]
theorem okM_set : ∀ {m : Cm.Mm} {q : Cm.Pg} (p : Nat), Cm.okM m = true → Cm.okP q = true → Cm.okM (m.set p q) = true
  | [], _, _, h, _ => h
  | a :: m, q, 0, h, hq => by rw [Cm.okM, Bool.and_eq_true] at h; show (Cm.okP q && Cm.okM m) = true; rw [hq, h.2]; rfl
  | a :: m, q, p + 1, h, hq => by
    rw [Cm.okM, Bool.and_eq_true] at h
    show (Cm.okP a && Cm.okM (m.set p q)) = true
    rw [h.1, okM_set p h.2 hq]; rfl
theorem okG_set {m : Cm.Mm} {q : Cm.Pg} (p : Nat) (h : Cm.okG m = true) (hq : Cm.okP q = true) : Cm.okG (m.set p q) = true := by
  have hl := Cm.okG_len h
  unfold Cm.okG
  rw [okM_set p (okG_okM h) hq, List.length_set, decide_eq_true hl]; rfl
theorem okP_zero : Cm.okP [0, 0, 0, 0] = true := by decide
theorem upG_len (h : Cm.Ho) (g : Nat) (f : Cm.Gt → Cm.Gt) : (Cm.upG h g f).2.1.length = h.2.1.length := Cm.modAt_len _ _ _ _
theorem upG_get (h : Cm.Ho) (g : Nat) (f : Cm.Gt → Cm.Gt) {i : Nat} (hi : i < h.2.1.length) : (Cm.upG h g f).2.1.getD i Cm.g0 = if g = i then f (h.2.1.getD i Cm.g0) else h.2.1.getD i Cm.g0 := modAt_get _ _ _ _ _ hi
theorem shH_upG {h : Cm.Ho} (hs : Cm.shH h) {g : Nat} {f : Cm.Gt → Cm.Gt} (hf : g < h.2.1.length → Cm.shG (Cm.gAt h g) → Cm.shG (f (Cm.gAt h g))) : Cm.shH (Cm.upG h g f) := by
  refine ⟨?_, fun i hi => ?_⟩
  · have := hs.1
    unfold Cm.preOk at this ⊢
    rw [upG_len]; exact this
  · rw [upG_len] at hi
    rw [upG_get h g f hi]
    split
    · rename_i e; subst e; exact hf hi (hs.2 g hi)
    · exact hs.2 i hi
theorem szOk_mk {a : List Cm.E} {d : Cm.Mm} {s : List Cm.Sh} (h1 : a.length = 6) (h2 : Cm.okG d = true) (h3 : s.length = 6) : Cm.szOk (a, d, s) = true := by
  unfold Cm.szOk; simp [h1, h2, h3]
theorem clr_frame (p : Int) (s : Cm.Sh) (h : s.1 = true → 0 ≤ s.2.2.1 ∧ s.2.2.1 ≤ 7) : (Cm.clr p s).1 = true → 0 ≤ (Cm.clr p s).2.2.1 ∧ (Cm.clr p s).2.2.1 ≤ 7 := by
  unfold Cm.clr; split
  · intro c; cases c
  · exact h
theorem map_getD (p : Int) (l : List Cm.Sh) {i : Nat} (hi : i < l.length) : (l.map (Cm.clr p)).getD i Cm.s0 = Cm.clr p (l.getD i Cm.s0) := by
  simp [List.getD_eq_getElem?_getD, hi]
/-- The parts of a guest's shape. -/
theorem shG_mk {a : List Cm.E} {d : Cm.Mm} {s : List Cm.Sh} (h1 : a.length = 6) (h2 : Cm.okG d = true) (h3 : s.length = 6)
    (h4 : ∀ i, i < 6 → (a.getD i Cm.e0).1 = true → 0 ≤ (a.getD i Cm.e0).2.1 ∧ (a.getD i Cm.e0).2.1 ≤ 7) (h5 : ∀ i, i < 6 → (s.getD i Cm.s0).1 = true → 0 ≤ (s.getD i Cm.s0).2.2.1 ∧ (s.getD i Cm.s0).2.2.1 ≤ 7) : Cm.shG (a, d, s) := ⟨szOk_mk h1 h2 h3, h4, h5⟩
theorem maps_set {a : List Cm.E} (h1 : a.length = 6) (h4 : ∀ i, i < 6 → (a.getD i Cm.e0).1 = true → 0 ≤ (a.getD i Cm.e0).2.1 ∧ (a.getD i Cm.e0).2.1 ≤ 7) (p : Nat) {m : Cm.E} (hm : m.1 = true → 0 ≤ m.2.1 ∧ m.2.1 ≤ 7) :
    (a.set p m).length = 6 ∧ ∀ i, i < 6 → ((a.set p m).getD i Cm.e0).1 = true → 0 ≤ ((a.set p m).getD i Cm.e0).2.1 ∧ ((a.set p m).getD i Cm.e0).2.1 ≤ 7 := by
  refine ⟨by simpa using h1, fun i hi => ?_⟩
  rw [getD_set]; split
  · exact hm
  · exact h4 i hi
theorem shs_clr {s : List Cm.Sh} (h3 : s.length = 6) (h5 : ∀ i, i < 6 → (s.getD i Cm.s0).1 = true → 0 ≤ (s.getD i Cm.s0).2.2.1 ∧ (s.getD i Cm.s0).2.2.1 ≤ 7) (p : Int) :
    (s.map (Cm.clr p)).length = 6 ∧ ∀ i, i < 6 → ((s.map (Cm.clr p)).getD i Cm.s0).1 = true → 0 ≤ ((s.map (Cm.clr p)).getD i Cm.s0).2.2.1 ∧ ((s.map (Cm.clr p)).getD i Cm.s0).2.2.1 ≤ 7 := by
  refine ⟨by simpa using h3, fun i hi => ?_⟩
  rw [map_getD p s (by omega)]
  exact clr_frame p _ (h5 i hi)
theorem shs_set {s : List Cm.Sh} (h3 : s.length = 6) (h5 : ∀ i, i < 6 → (s.getD i Cm.s0).1 = true → 0 ≤ (s.getD i Cm.s0).2.2.1 ∧ (s.getD i Cm.s0).2.2.1 ≤ 7) (p : Nat) {x : Cm.Sh} (hx : x.1 = true → 0 ≤ x.2.2.1 ∧ x.2.2.1 ≤ 7) :
    (s.set p x).length = 6 ∧ ∀ i, i < 6 → ((s.set p x).getD i Cm.s0).1 = true → 0 ≤ ((s.set p x).getD i Cm.s0).2.2.1 ∧ ((s.set p x).getD i Cm.s0).2.2.1 ≤ 7 := by
  refine ⟨by simpa using h3, fun i hi => ?_⟩
  rw [getD_set]; split
  · exact hx
  · exact h5 i hi
theorem page_ok {h : Cm.Ho} (hs : Cm.shH h) {g p : Nat} (hg : g < h.2.1.length) (hp : p < 6) : Cm.okP (Cm.pageG h.1 (Cm.gAt h g) p) = true := by
  obtain ⟨h1, h2, h3⟩ := hs.2 g hg
  obtain ⟨l1, l2, l3⟩ := szOk_get h1
  unfold Cm.pageG
  split
  · rename_i c
    have := h2 p hp c
    exact shH_row hs (by show (List.getD (Cm.gAt h g).1 p Cm.e0).2.1.toNat < 8; unfold Cm.gAt; omega)
  · exact Cm.okG_okP l3 hp
theorem sh_outP {h : Cm.Ho} (hs : Cm.shH h) {g p : Nat} (hp : p < 6) : Cm.shH (Cm.outP h g p) := by
  unfold Cm.outP
  split
  · refine shH_upG hs fun hg hx => ?_
    have hpg := page_ok hs hg hp
    obtain ⟨h1, h2, h3⟩ := hx
    obtain ⟨l1, l2, l3⟩ := szOk_get h1
    obtain ⟨c1, c2⟩ := shs_clr l2 h3 (p : Int)
    obtain ⟨d1, d2⟩ := maps_set l1 h2 p (m := Cm.e0) (fun c => by cases c)
    exact shG_mk d1 (okG_set p l3 hpg) c1 d2 c2
  · exact hs
theorem outP_len (h : Cm.Ho) (g p : Nat) : (Cm.outP h g p).2.1.length = h.2.1.length := by
  unfold Cm.outP; split
  · exact upG_len _ _ _
  · rfl
theorem forgetP_len (h : Cm.Ho) (g : Nat) (p : Int) : (Cm.forgetP h g p).2.1.length = h.2.1.length := upG_len _ _ _
theorem sh_clrP (f : Int) (g : Nat) : ∀ (n p : Nat) {h : Cm.Ho}, n + p ≤ 6 → Cm.shH h → Cm.shH (Cm.clrP f g n p h) ∧ (Cm.clrP f g n p h).2.1.length = h.2.1.length
  | 0, _, _, _, hs => ⟨hs, rfl⟩
  | n + 1, p, h, hn, hs => by
    rw [Cm.clrP]
    split
    · obtain ⟨a, b⟩ := sh_clrP f g n (p + 1) (by omega) (sh_outP hs (g := g) (p := p) (by omega))
      exact ⟨a, by rw [b, outP_len]⟩
    · exact sh_clrP f g n (p + 1) (by omega) hs
theorem sh_clrG (f : Int) : ∀ (n g : Nat) {h : Cm.Ho}, Cm.shH h → Cm.shH (Cm.clrG f n g h) ∧ (Cm.clrG f n g h).2.1.length = h.2.1.length
  | 0, _, _, hs => ⟨hs, rfl⟩
  | n + 1, g, h, hs => by
    rw [Cm.clrG]
    obtain ⟨a, b⟩ := sh_clrP f g 6 0 (by omega) hs
    obtain ⟨c, d⟩ := sh_clrG f n (g + 1) a
    exact ⟨c, by rw [d, b]⟩
theorem sh_clear {h : Cm.Ho} (hs : Cm.shH h) (f : Int) : Cm.shH (Cm.clearF h f) ∧ (Cm.clearF h f).2.1.length = h.2.1.length := sh_clrG f _ _ hs
theorem sh_hand {h : Cm.Ho} (hs : Cm.shH h) {k : Int} (hk : 0 ≤ k ∧ k ≤ 7) : Cm.shH (h.1, h.2.1, k) := by
  refine ⟨?_, hs.2⟩
  have := hs.1
  unfold Cm.preOk at this ⊢
  simp only [Bool.and_eq_true] at this ⊢
  exact ⟨this.1, within_iff.mpr hk⟩
theorem sh_frames {h : Cm.Ho} (hs : Cm.shH h) (f : Nat) {q : Cm.Pg} (hq : Cm.okP q = true) : Cm.shH (h.1.set f q, h.2) := by
  refine ⟨?_, hs.2⟩
  have := hs.1
  unfold Cm.preOk at this ⊢
  simp only [Bool.and_eq_true, List.length_set] at this ⊢
  exact ⟨⟨⟨okM_set f this.1.1.1 hq, this.1.1.2⟩, this.1.2⟩, this.2⟩
theorem clear_len {h : Cm.Ho} (hs : Cm.shH h) : Cm.shH (Cm.clearH h) ∧ (Cm.clearH h).2.1.length = h.2.1.length := by
  obtain ⟨_, _, a, b⟩ := shH_get hs
  exact sh_clear (h := (h.1, h.2.1, (h.2.2 + 1) % 8)) (sh_hand hs (by omega)) h.2.2
theorem sh_putP {h : Cm.Ho} (hs : Cm.shH h) {g p : Nat} (hg : g < h.2.1.length) (hp : p < 6) {f : Int} (hf : 0 ≤ f ∧ f ≤ 7) : Cm.shH (Cm.putP h g p f) := by
  obtain ⟨h1, h2, h3⟩ := hs.2 g hg
  obtain ⟨l1, l2, l3⟩ := szOk_get h1
  have hq := Cm.okG_okP l3 hp
  have hs' := shH_upG (g := g) (f := fun x => (x.1.set p (true, f, true), x.2.1.set p [0, 0, 0, 0], x.2.2)) hs fun _ hx => by
    obtain ⟨d1, d2⟩ := maps_set l1 h2 p (m := (true, f, true)) (fun _ => hf)
    exact shG_mk d1 (okG_set p l3 okP_zero) l2 d2 h3
  exact sh_frames (h := Cm.upG h g _) hs' f.toNat hq
theorem putP_len (h : Cm.Ho) (g p : Nat) (f : Int) : (Cm.putP h g p f).2.1.length = h.2.1.length := by unfold Cm.putP; dsimp only; rw [Cm.modAt_len]
theorem firstGo_bd (h : Cm.Ho) : ∀ (n f : Nat), Cm.firstGo h n f = -1 ∨ ((f : Int) ≤ Cm.firstGo h n f ∧ Cm.firstGo h n f < (f : Int) + n)
  | 0, _ => .inl rfl
  | n + 1, f => by
    rw [Cm.firstGo]; split
    · exact .inr (by omega)
    · rcases firstGo_bd h n (f + 1) with e | e
      · exact .inl e
      · exact .inr (by omega)
theorem first_bd {h : Cm.Ho} (c : ¬ Cm.first h < 0) : 0 ≤ Cm.first h ∧ Cm.first h ≤ 7 := by
  rcases firstGo_bd h 8 0 with e | e
  · exact absurd (show Cm.first h = -1 from e) (by omega)
  · have e' : Cm.first h = Cm.firstGo h 8 0 := rfl
    omega
theorem sh_inP {h : Cm.Ho} (hs : Cm.shH h) {g p : Nat} (hg : g < h.2.1.length) (hp : p < 6) : Cm.shH (Cm.inP h g p) ∧ (Cm.inP h g p).2.1.length = h.2.1.length := by
  unfold Cm.inP
  split
  · exact ⟨hs, rfl⟩
  · split
    · obtain ⟨a, b⟩ := clear_len hs
      exact ⟨sh_putP a (by omega) hp (shH_get hs).2.2, by rw [putP_len, b]⟩
    · rename_i c
      exact ⟨sh_putP hs hg hp (first_bd c), putP_len _ _ _ _⟩
theorem ok_spec_l13First : FOk E_spec_l13First Try.f123 sFirst := FOk.of1 fun (h : Cm.Ho) hn => FGA.fg ((vc_spec_l13First h).mpr (by
  have hb : Cm.bdH h := hn
  simp only [ifb_iff, imp_self, true_and, and_true, implies_true]
  refine ⟨⟨0, ⟨by omega, rfl⟩, rfl⟩, fun f ⟨h1, h2⟩ => ⟨fun hl => ?_, fun hl => ?_⟩⟩
  · have hl : (f : Int) < 8 := of_decide_eq_true hl
    rw [show 8 - f = (8 - (f + 1)) + 1 by omega, Cm.firstGo] at h2
    refine ⟨hb, fun c => ?_, fun c => ⟨f + 1, ⟨⟨by omega, ?_⟩, by omega⟩, (wsucc (by omega)).symm⟩⟩
    · rw [h2, if_pos (by simpa using c)]
    · rw [h2, if_neg (by simpa using c)]
  · have hl : ¬ (f : Int) < 8 := of_decide_eq_false hl
    rw [h2, show 8 - f = 0 by omega]; rfl))
theorem ok_spec_l13Out : FOk E_spec_l13Out Try.f126 sOutT := FOk.of3 fun (h : Cm.Ho) (g p : Int) hn => FGA.fg ((vc_spec_l13Out h g p).mpr (by
  obtain ⟨hs, hg, hp⟩ := (show inS h g p from hn)
  have hgn : g.toNat < h.2.1.length := by omega
  have hx := hs.2 _ hgn
  obtain ⟨l1, l2, l3⟩ := szOk_get hx.1
  have l4 := Cm.okG_len l3
  have hpg := page_ok hs hgn (p := p.toNat) (by omega)
  have hpi : ((p.toNat : Nat) : Int) = p := by omega
  simp only [ifb_iff, imp_self, true_and, and_true, implies_true, modAt_modAt, Cm.modAt_len]
  have hgt : (Cm.modAt h.2.1 g.toNat Cm.g0 fun x => (x.1, x.2.1.set p.toNat (Cm.pageG h.1 (Cm.gAt h g.toNat) p.toNat), x.2.2)).getD g.toNat Cm.g0 = ((h.2.1.getD g.toNat Cm.g0).1, (h.2.1.getD g.toNat Cm.g0).2.1.set p.toNat (Cm.pageG h.1 (Cm.gAt h g.toNat) p.toNat), (h.2.1.getD g.toNat Cm.g0).2.2) := by
    rw [modAt_get _ _ _ _ _ hgn, if_pos rfl]
  rw [hgt]
  refine ⟨hg, by omega, fun c => ?_, fun c => ⟨hg, ⟨hs, hg, hp⟩, by omega, hg, by dsimp only; omega, ⟨?_, hg, hp⟩, ?_⟩⟩
  · unfold Cm.outP Cm.mAt Cm.gAt; rw [if_neg]; rw [bnt c]; simp
  · have := shH_upG (g := g.toNat) (f := fun x => (x.1.set p.toNat Cm.e0, x.2.1.set p.toNat (Cm.pageG h.1 (Cm.gAt h g.toNat) p.toNat), x.2.2)) hs fun _ hx => by
      obtain ⟨h1, h2, h3⟩ := hx
      obtain ⟨d1, d2⟩ := maps_set l1 h2 p.toNat (m := Cm.e0) (fun c => by cases c)
      exact shG_mk d1 (okG_set _ l3 hpg) l2 d2 h3
    exact this
  · unfold Cm.outP Cm.mAt Cm.forgetP Cm.upG Cm.gAt
    rw [if_pos (bnf c)]
    dsimp only
    rw [modAt_modAt, hpi]
    have e : ∀ (F G : Cm.Gt → Cm.Gt), F (h.2.1.getD g.toNat Cm.g0) = G (h.2.1.getD g.toNat Cm.g0) → Cm.modAt h.2.1 g.toNat Cm.g0 F = Cm.modAt h.2.1 g.toNat Cm.g0 G := fun F G e => by unfold Cm.modAt; rw [e]
    rw [e]
    rfl))
end Go.Proofs.Ytkcpacgnejlpbaa.T
open Go Go.Am Go.Proofs
open Go.Cm (R rdOk)
namespace Go.Proofs.Ytkcpacgnejlpbaa.T
set_option maxRecDepth 10000
theorem modAt_congr {α : Type} (l : List α) (n : Nat) (d : α) {F G : α → α} (e : F (l.getD n d) = G (l.getD n d)) : Cm.modAt l n d F = Cm.modAt l n d G := by
  unfold Cm.modAt; rw [e]
theorem modAt_id {α : Type} (l : List α) (n : Nat) (d : α) {F : α → α} (e : F (l.getD n d) = l.getD n d) : Cm.modAt l n d F = l := by
  unfold Cm.modAt; rw [e]
  by_cases c : n < l.length
  · simp [List.getD, c]
  · rw [List.set_eq_of_length_le (by omega)]
theorem ok_spec_l13Forget : FOk E_spec_l13Forget Try.f138 sForgetPT := FOk.of3 fun (h : Cm.Ho) (g p : Int) hn => FGA.fg ((vc_spec_l13Forget h g p).mpr (by
  obtain ⟨hs, hg, hp⟩ := (show inS h g p from hn)
  have hgn : g.toNat < h.2.1.length := by omega
  obtain ⟨l1, l2, l3⟩ := szOk_get (hs.2 _ hgn).1
  simp only [ifb_iff, imp_self, true_and, and_true, implies_true, upG_len, upG_get h g.toNat _ hgn, if_pos]
  have key1 : ∀ (L : List Cm.Sh) (i : Nat), L.length = 6 → i < 6 → (List.map (Cm.clr p) (L.take i) ++ L.drop i).getD i Cm.s0 = L.getD i Cm.s0 := fun L i hL hi => by
    rw [Cm.drop_getD Cm.s0 (show i < L.length by omega)]
    exact Cm.getD_mid _ _ (by simp; omega)
  have key2 : ∀ (L : List Cm.Sh) (i : Nat), L.length = 6 → i < 6 → List.map (Cm.clr p) (L.take (i + 1)) ++ L.drop (i + 1) = List.map (Cm.clr p) (L.take i) ++ Cm.clr p (L.getD i Cm.s0) :: L.drop (i + 1) := fun L i hL hi => by
    rw [Cm.take_succ_getD Cm.s0 (show i < L.length by omega), List.map_append, List.append_assoc]; rfl
  have key3 : ∀ (L : List Cm.Sh) (i : Nat), L.length = 6 → i < 6 → (List.map (Cm.clr p) (L.take i) ++ L.drop i).set i Cm.s0 = List.map (Cm.clr p) (L.take i) ++ Cm.s0 :: L.drop (i + 1) := fun L i hL hi => by
    rw [Cm.drop_getD Cm.s0 (show i < L.length by omega)]
    exact Cm.set_mid _ _ (by simp; omega)
  refine ⟨⟨0, by omega, rfl, ⟨rfl, by unfold Cm.upG; dsimp only; refine modAt_id _ _ _ ?_; simp⟩, rfl, rfl, rfl⟩, fun i h1 => ⟨fun hi => ?_, fun hi => ?_⟩⟩
  · have hi : (i : Int) < 6 := of_decide_eq_true hi
    have hi : i < 6 := by omega
    have hlen : (List.map (Cm.clr p) ((h.2.1.getD g.toNat Cm.g0).2.2.take i) ++ (h.2.1.getD g.toNat Cm.g0).2.2.drop i).length = 6 := by rw [List.length_append, List.length_map, List.length_take, List.length_drop]; omega
    rw [hlen, key1 _ i l2 hi]
    refine ⟨hg, by omega, fun _ => hg, fun _ => by omega, fun c => ⟨hg, by omega, i + 1, by omega, (wsucc (by omega)).symm, rfl, ?_⟩, fun c => ⟨i + 1, by omega, (wsucc (by omega)).symm, rfl, ?_⟩⟩
    · unfold Cm.upG; dsimp only
      rw [modAt_modAt]
      refine modAt_congr _ _ _ ?_
      dsimp only
      rw [key2 _ i l2 hi, key3 _ i l2 hi]
      rw [Bool.and_eq_true, beq_iff_eq] at c
      unfold Cm.clr; rw [if_pos c]
    · unfold Cm.upG; dsimp only
      refine modAt_congr _ _ _ ?_
      rw [key2 _ i l2 hi]
      have hd := Cm.drop_getD Cm.s0 (show i < (h.2.1.getD g.toNat Cm.g0).2.2.length by omega)
      have e : Cm.clr p ((h.2.1.getD g.toNat Cm.g0).2.2.getD i Cm.s0) = (h.2.1.getD g.toNat Cm.g0).2.2.getD i Cm.s0 := by
        unfold Cm.clr; rw [if_neg]; intro x; rw [x.1, x.2] at c; simp at c
      rw [e, hd]
  · have hi : ¬ (i : Int) < 6 := of_decide_eq_false hi
    unfold Cm.forgetP Cm.upG; dsimp only
    congr 2
    refine modAt_congr _ _ _ ?_
    rw [List.take_of_length_le (by omega), List.drop_of_length_le (by omega), List.append_nil]))
theorem ok_spec_l13Clear : FOk E_spec_l13Clear Try.f124 sClearT := FOk.of2 fun (h : Cm.Ho) (f : Int) hn => FGA.fg ((vc_spec_l13Clear h f).mpr (by
  have hs : Cm.shH h := hn
  have hl2 := (shH_get hs).2.1
  simp only [ifb_iff, imp_self, true_and, and_true, implies_true]
  refine ⟨⟨(0, h), ⟨⟨by omega, hs⟩, rfl, rfl⟩, rfl, ⟨rfl, rfl⟩, rfl, rfl, rfl, rfl⟩, ?_⟩
  rintro ⟨g, x⟩ ⟨⟨h1, h2⟩, h3, h4⟩
  dsimp only at h1 h2 h3 h4 ⊢
  refine ⟨fun hg => ?_, fun hg => ?_⟩
  · have hg := lt_of hg
    rw [show h.2.1.length - g = (h.2.1.length - (g + 1)) + 1 by omega, Cm.clrG] at h4
    refine ⟨⟨(0, x), ⟨⟨by omega, h2⟩, ⟨hg, h3⟩, h4⟩, rfl, ⟨rfl, rfl⟩, rfl⟩, ?_⟩
    rintro ⟨p, y⟩ ⟨⟨q1, q2⟩, ⟨q3, q4⟩, q5⟩
    dsimp only at q1 q2 q3 q4 q5 ⊢
    refine ⟨fun hp => ?_, fun hp => ?_⟩
    · have hp : (p : Int) < 6 := of_decide_eq_true hp
      obtain ⟨l1, l2, l3⟩ := szOk_get (q2.2 g q3).1
      rw [show 6 - p = (6 - (p + 1)) + 1 by omega, Cm.clrP] at q5
      refine ⟨by omega, by omega, fun _ => by omega, fun _ => by omega, fun c => ⟨⟨q2, by omega, by omega, by omega⟩, (p + 1, Cm.outP y g p), ⟨⟨⟨by omega, sh_outP q2 (by omega)⟩, ⟨by rw [outP_len]; exact q3, by rw [outP_len]; exact q4⟩, ?_⟩, by dsimp only; omega⟩, (wsucc (by omega)).symm, ⟨rfl, rfl⟩, rfl⟩,
        fun c => ⟨(p + 1, y), ⟨⟨⟨by omega, q2⟩, ⟨q3, q4⟩, ?_⟩, by dsimp only; omega⟩, (wsucc (by omega)).symm, ⟨rfl, rfl⟩, rfl⟩⟩
      · rw [Bool.and_eq_true, beq_iff_eq] at c
        have c : (Cm.mAt y g p).1 = true ∧ (Cm.mAt y g p).2.1 = f := c
        rw [if_pos c] at q5; exact q5
      · rw [if_neg] at q5
        · exact q5
        · intro e; unfold Cm.mAt Cm.gAt at e; rw [e.1, e.2] at c; simp at c
    · have hp : ¬ (p : Int) < 6 := of_decide_eq_false hp
      rw [show 6 - p = 0 by omega, Cm.clrP] at q5
      exact ⟨(g + 1, y), ⟨⟨⟨by omega, q2⟩, q4, q5⟩, by dsimp only; omega⟩, (wsucc (by omega)).symm, ⟨rfl, rfl⟩, rfl⟩
  · have hg := ge_of hg
    rw [h4, show h.2.1.length - g = 0 by omega]; rfl))
theorem ok_spec_l13In : FOk E_spec_l13In Try.f86 sInT := FOk.of3 fun (h : Cm.Ho) (g p : Int) hn => FGA.fg ((vc_spec_l13In h g p).mpr (by
  obtain ⟨hs, hg, hp⟩ := (show inS h g p from hn)
  have hgn : g.toNat < h.2.1.length := by omega
  obtain ⟨l1, l2, l3⟩ := szOk_get (hs.2 _ hgn).1
  have l4 := Cm.okG_len l3
  obtain ⟨⟨f1, f2⟩, f3, f4, f5⟩ := shH_get hs
  have hw : IntKind.wrap .i64 (h.2.2 + 1) = h.2.2 + 1 := Cm.wrap_id (by omega) (by omega)
  have hm : Int.tmod (h.2.2 + 1) 8 = (h.2.2 + 1) % 8 := Int.tmod_eq_emod_of_nonneg (by omega)
  obtain ⟨c1, c2⟩ := clear_len hs
  have hcl : Cm.clearF (h.1, h.2.1, (h.2.2 + 1) % 8) h.2.2 = Cm.clearH h := rfl
  simp only [ifb_iff, imp_self, true_and, and_true, implies_true, hw, hm, hcl, modAt_modAt, Cm.modAt_len]
  have hcn : g.toNat < (Cm.clearH h).2.1.length := by omega
  obtain ⟨m1, m2, m3⟩ := szOk_get (c1.2 _ hcn).1
  have m4 := Cm.okG_len m3
  have n1 := (shH_get c1).1.1
  rw [modAt_get _ _ _ _ _ hgn, modAt_get _ _ _ _ _ hcn, if_pos rfl, if_pos rfl]
  refine ⟨hg, by omega, fun c => ?_, fun c => ⟨shH_bd hs, fun d => ⟨by decide, sh_hand hs (by omega), by omega, by omega, by omega, by omega, by omega, by omega, by dsimp only; omega, ?_⟩, fun d => ?_⟩⟩
  · unfold Cm.inP Cm.mAt Cm.gAt; rw [if_pos c]
  · unfold Cm.inP Cm.mAt Cm.gAt; rw [if_neg (by rw [c]; simp), if_pos (dneg d)]; rfl
  · have e := first_bd (dpos d)
    refine ⟨hg, by omega, by omega, hg, by omega, hg, by dsimp only; omega, ?_⟩
    unfold Cm.inP Cm.mAt Cm.gAt; rw [if_neg (by rw [c]; simp), if_neg (dpos d)]; rfl))
end Go.Proofs.Ytkcpacgnejlpbaa.T
open Go Go.Am Go.Proofs
open Go.Cm (R rdOk)
namespace Go.Proofs.Ytkcpacgnejlpbaa.T
set_option maxRecDepth 10000
theorem mAt_upG (h : Cm.Ho) {g : Nat} (f : Cm.Gt → Cm.Gt) (hg : g < h.2.1.length) : Cm.gAt (Cm.upG h g f) g = f (Cm.gAt h g) := by
  unfold Cm.gAt; rw [upG_get h g f hg, if_pos rfl]
theorem put_in {h : Cm.Ho} (hs : Cm.shH h) {g p : Nat} (hg : g < h.2.1.length) (hp : p < 6) (f : Int) : Cm.mAt (Cm.putP h g p f) g p = (true, f, true) := by
  obtain ⟨l1, l2, l3⟩ := szOk_get (hs.2 g hg).1
  have e : Cm.gAt (Cm.putP h g p f) g = ((Cm.gAt h g).1.set p (true, f, true), (Cm.gAt h g).2.1.set p [0, 0, 0, 0], (Cm.gAt h g).2.2) := mAt_upG h _ hg
  unfold Cm.mAt; rw [e]; dsimp only
  rw [getD_set, if_pos ⟨rfl, by unfold Cm.gAt; omega⟩]
theorem in_in {h : Cm.Ho} (hs : Cm.shH h) {g p : Nat} (hg : g < h.2.1.length) (hp : p < 6) : (Cm.mAt (Cm.inP h g p) g p).1 = true := by
  unfold Cm.inP
  split
  · assumption
  · split
    · obtain ⟨a, b⟩ := clear_len hs
      rw [put_in a (by omega) hp]
    · rw [put_in hs hg hp]
theorem sh_writable {h : Cm.Ho} (hs : Cm.shH h) (g p : Nat) : Cm.shH (Cm.upG h g fun x => (Cm.modAt x.1 p Cm.e0 fun m => (m.1, m.2.1, true), x.2)) := shH_upG hs fun _ hx => by
  obtain ⟨h1, h2, h3⟩ := hx
  obtain ⟨l1, l2, l3⟩ := szOk_get h1
  refine shG_mk (by rw [Cm.modAt_len]; exact l1) l3 l2 (fun i hi => ?_) h3
  rw [modAt_get _ _ _ _ _ (by omega)]
  split
  · exact h2 i hi
  · exact h2 i hi
theorem sh_ownP {h : Cm.Ho} (hs : Cm.shH h) {g p : Nat} (hg : g < h.2.1.length) (hp : p < 6) : (Cm.shH (Cm.ownP h g p) ∧ (Cm.ownP h g p).2.1.length = h.2.1.length) ∧ (Cm.mAt (Cm.ownP h g p) g p).1 = true := by
  obtain ⟨a, b⟩ := sh_inP hs hg hp
  have c := in_in hs hg hp
  unfold Cm.ownP
  split
  · exact ⟨⟨a, b⟩, c⟩
  · split
    · refine ⟨⟨sh_writable a g p, by rw [upG_len, b]⟩, ?_⟩
      obtain ⟨l1, l2, l3⟩ := szOk_get (a.2 g (by omega)).1
      unfold Cm.mAt at c ⊢
      rw [mAt_upG _ _ (by omega)]; dsimp only
      rw [modAt_get _ _ _ _ _ (by unfold Cm.gAt; omega), if_pos rfl]; exact c
    · have a2 := sh_outP a (g := g) (p := p) hp
      have b2 := outP_len (Cm.inP h g p) g p
      obtain ⟨a3, b3⟩ := sh_inP a2 (g := g) (p := p) (by omega) hp
      exact ⟨⟨a3, by rw [b3, b2, b]⟩, in_in a2 (by omega) hp⟩
theorem mAt_frame {h : Cm.Ho} (hs : Cm.shH h) {g p : Nat} (hg : g < h.2.1.length) (hp : p < 6) (c : (Cm.mAt h g p).1 = true) : (0 ≤ (Cm.mAt h g p).2.1 ∧ (Cm.mAt h g p).2.1 < (h.1.length : Int)) ∧ Cm.okP (h.1.getD (Cm.mAt h g p).2.1.toNat []) = true := by
  have := (hs.2 g hg).2.1 p hp c
  have e := (shH_get hs).1.1
  have r := fun i hi => shH_row hs (i := i) hi
  unfold Cm.mAt Cm.gAt at *
  exact ⟨by omega, r _ (by omega)⟩
theorem map_len {h : Cm.Ho} (hs : Cm.shH h) {g : Nat} (hg : g < h.2.1.length) : (h.2.1.getD g Cm.g0).1.length = 6 := (szOk_get (hs.2 g hg).1).1
theorem ok_spec_l13Own : FOk E_spec_l13Own Try.f89 sOwnT := FOk.of3 fun (h : Cm.Ho) (g p : Int) hn => FGA.fg ((vc_spec_l13Own h g p).mpr (by
  obtain ⟨hs, hg, hp⟩ := (show inS h g p from hn)
  have hgn : g.toNat < h.2.1.length := by omega
  obtain ⟨a, b⟩ := sh_inP hs hgn (p := p.toNat) (by omega)
  have ml := map_len a (g := g.toNat) (by omega)
  have a2 := sh_outP a (g := g.toNat) (p := p.toNat) (by omega)
  have b2 := outP_len (Cm.inP h g.toNat p.toNat) g.toNat p.toNat
  simp only [ifb_iff, imp_self, true_and, and_true, implies_true]
  refine ⟨⟨hs, hg, hp⟩, by omega, by omega, fun c => ?_, fun c => ⟨shH_bd a, fun d => ⟨by omega, by omega, ?_⟩, fun d => ⟨⟨a, by omega, hp⟩, ⟨a2, by omega, hp⟩, ?_⟩⟩⟩
  · unfold Cm.ownP Cm.mAt Cm.gAt; rw [if_pos c]
  · unfold Cm.ownP Cm.mAt Cm.gAt; rw [if_neg (by rw [c]; simp), if_pos (by simpa using d)]; rfl
  · unfold Cm.ownP Cm.mAt Cm.gAt; rw [if_neg (by rw [c]; simp), if_neg (by simpa using d)]))
theorem ok_spec_l14Read : FOk E_spec_l14Read Try.f127 sReadT := FOk.of4 fun (h : Cm.Ho) (g p o : Int) hn => FGA.fg ((vc_spec_l14Read h g p o).mpr (by
  obtain ⟨⟨hs, hg, hp⟩, ho⟩ := (show inS h g p ∧ 0 ≤ o ∧ o ≤ 3 from hn)
  have hgn : g.toNat < h.2.1.length := by omega
  obtain ⟨a, b⟩ := sh_inP hs hgn (p := p.toNat) (by omega)
  have ml := map_len a (g := g.toNat) (by omega)
  obtain ⟨f1, f2⟩ := mAt_frame a (g := g.toNat) (p := p.toNat) (by omega) (by omega) (in_in hs hgn (by omega))
  have f3 := Cm.okP_len f2
  simp only [and_true]
  refine ⟨⟨hs, hg, hp⟩, by omega, by omega, f1, ⟨ho.1, ?_⟩, rfl, rfl⟩
  show o < ((List.getD (Cm.inP h g.toNat p.toNat).1 (Cm.mAt (Cm.inP h g.toNat p.toNat) g.toNat p.toNat).2.1.toNat []).length : Int)
  omega))
theorem ok_spec_l14Write : FOk E_spec_l14Write Try.f91 sWriteT := FOk.of5 fun (h : Cm.Ho) (g p o w : Int) hn => FGA.fg ((vc_spec_l14Write h g p o w).mpr (by
  obtain ⟨⟨⟨hs, hg, hp⟩, ho⟩, _⟩ := (show (inS h g p ∧ 0 ≤ o ∧ o ≤ 3) ∧ 0 ≤ w ∧ w ≤ 63 from hn)
  have hgn : g.toNat < h.2.1.length := by omega
  obtain ⟨⟨a, b⟩, c⟩ := sh_ownP hs hgn (p := p.toNat) (by omega)
  have ml := map_len a (g := g.toNat) (by omega)
  obtain ⟨f1, f2⟩ := mAt_frame a (g := g.toNat) (p := p.toNat) (by omega) (by omega) c
  have f3 := Cm.okP_len f2
  have f4 : o < ((List.getD (Cm.ownP h g.toNat p.toNat).1 (Cm.mAt (Cm.ownP h g.toNat p.toNat) g.toNat p.toNat).2.1.toNat []).length : Int) := by omega
  simp only [and_true]
  exact ⟨⟨hs, hg, hp⟩, by omega, by omega, f1, ⟨ho.1, f4⟩, f1, ⟨ho.1, f4⟩, rfl, rfl⟩))
theorem readP_word {h : Cm.Ho} (hs : Cm.shH h) {g p o : Nat} (hg : g < h.2.1.length) (hp : p < 6) : 0 ≤ (Cm.readP h g p o).2 ∧ (Cm.readP h g p o).2 ≤ 63 := by
  obtain ⟨a, b⟩ := sh_inP hs hg hp
  exact Cm.okP_get (mAt_frame a (by omega) hp (in_in hs hg hp)).2 o
theorem ok_spec_l14Walk : FOk E_spec_l14Walk Try.f94 sWalkT := FOk.of3 fun (h : Cm.Ho) (g p : Int) hn => FGA.fg ((vc_spec_l14Walk h g p).mpr (by
  obtain ⟨hs, hg, hp⟩ := (show inS h g p from hn)
  have hgn : g.toNat < h.2.1.length := by omega
  have e1 : Int.tdiv p 4 = p / 4 := Int.tdiv_eq_ediv_of_nonneg (by omega)
  have e2 : Int.tmod p 4 = p % 4 := Int.tmod_eq_emod_of_nonneg (by omega)
  have e3 : IntKind.wrap .i64 (p / 4) = p / 4 := Cm.wrap_id (by omega) (by omega)
  have e4 : (p / 4).toNat = p.toNat / 4 := by omega
  have e5 : (p % 4).toNat = p.toNat % 4 := by omega
  have hw := readP_word hs hgn (p := p.toNat / 4) (o := p.toNat % 4) (by omega)
  simp only [and_true, e1, e2, e3, e4, e5]
  exact ⟨by decide, by decide, ⟨⟨hs, hg, by omega, by omega⟩, by omega, by omega⟩, by omega, rfl, rfl⟩))
theorem ok_spec_l13Same : FOk E_spec_l13Same Try.f111 sSame := FOk.of2 fun (a b : Cm.Pg) hn => FGA.fg ((vc_spec_l13Same a b).mpr (by
  obtain ⟨ha, hb⟩ := (show a.length = 4 ∧ b.length = 4 from hn)
  simp only [ifb_iff, imp_self, true_and, and_true, implies_true]
  refine ⟨⟨0, ⟨by omega, rfl⟩, rfl⟩, fun i ⟨g1, g2⟩ => ⟨fun hl => ?_, fun hl => ?_⟩⟩
  · have hl := lt_of hl
    rw [Cm.drop_getD (0 : Int) hl, Cm.drop_getD (0 : Int) (show i < b.length by omega), Cm.eqI_cons] at g2
    refine ⟨by omega, by omega, fun c => ?_, fun c => ⟨i + 1, ⟨⟨by omega, ?_⟩, by omega⟩, (wsucc (by omega)).symm⟩⟩
    · rw [g2, decide_eq_false (by simpa using c)]; rfl
    · rw [g2, decide_eq_true (by simpa using c)]; rfl
  · have hl := ge_of hl
    rw [g2, List.drop_of_length_le hl, List.drop_of_length_le (by omega)]; rfl))
theorem ok_spec_l12New : FOk E_spec_l12New Try.f143 sHNew0 := FOk.of0 fun _ => FGA.fg (vc_spec_l12New.mpr (by
  simp only [ifb_iff, imp_self, true_and, and_true, implies_true]
  refine ⟨⟨fun _ => ⟨by decide, 1, by decide, rfl, rfl, rfl, rfl, rfl⟩, fun c => by simp at c⟩, fun i h1 => ⟨fun hi => ?_, fun hi => ?_⟩⟩
  · have hi : (i : Int) < 8 := of_decide_eq_true hi
    exact ⟨by rw [List.length_replicate]; omega, i + 1, by omega, (wsucc (by omega)).symm, List.replicate_succ'⟩
  · have hi : ¬ (i : Int) < 8 := of_decide_eq_false hi
    rw [show i = 8 by omega]; rfl))
theorem ok_spec_l12Guest : FOk E_spec_l12Guest Try.f144 sGuestN := FOk.of1 fun (m : Cm.Mm) hn => FGA.fg ((vc_spec_l12Guest m).mpr (by
  simp only [true_and, and_true]
  exact ⟨⟨by decide, by decide⟩, hn, ⟨by decide, by decide⟩, rfl⟩))
theorem ok_spec_HostNew : FOk E_spec_HostNew Try.f132 sHostNew := FOk.of1 fun (n : Int) _ => FGA.fg ((vc_spec_HostNew n).mpr (by
  simp only [ifb_iff, imp_self, true_and, and_true, implies_true]
  refine ⟨fun c => ?_, fun c => ?_⟩
  · unfold Cm.hNew; rw [bnt c]; exact ⟨rfl, rfl⟩
  · have hn := within_f (bnf c)
    refine ⟨⟨0, ⟨hn, by omega⟩, rfl, ⟨rfl, rfl⟩, rfl, rfl, rfl⟩, fun i ⟨_, h2⟩ => ⟨fun hi => ?_, fun hi => ?_⟩⟩
    · have hi : (i : Int) < n := of_decide_eq_true hi
      exact ⟨new_bd, by rw [List.length_replicate]; omega, i + 1, ⟨⟨hn, by omega⟩, by omega⟩, (wsucc (by omega)).symm, List.replicate_succ'⟩
    · have hi : ¬ (i : Int) < n := of_decide_eq_false hi
      unfold Cm.hNew; rw [if_pos (bnf c), show n.toNat = i by omega]; exact ⟨rfl, rfl⟩))
theorem see_okG {h : Cm.Ho} (hs : Cm.shH h) {g : Int} (hg : 0 ≤ g ∧ g < (h.2.1.length : Int)) : Cm.okG (Cm.see h g) = true := by
  have hgn : g.toNat < h.2.1.length := by omega
  have k := fun p hp => page_ok hs hgn (p := p) hp
  unfold Cm.gAt at k
  unfold Cm.okG Cm.see Cm.seeG Cm.okM Cm.okM Cm.okM Cm.okM Cm.okM Cm.okM Cm.okM
  rw [k 0 (by omega), k 1 (by omega), k 2 (by omega), k 3 (by omega), k 4 (by omega), k 5 (by omega)]
  rfl
theorem okG_bd {m : Cm.Mm} (h : Cm.okG m = true) : Cm.bd m := ⟨by rw [Cm.okG_len h]; omega, fun i hi => by
  rw [Cm.okG_len h] at hi
  have := Cm.okG_row h hi; omega⟩
theorem carryG_append (fr : Cm.Mm) (a b : List Cm.Gt) : Cm.carryG fr (a ++ b) = Cm.carryG fr a ++ Cm.carryG fr b := List.map_append ..
theorem ok_spec_l21Carry : FOk E_spec_l21Carry Try.f148 sCarryS := FOk.of1 fun (h : Cm.Ho) hn => FGA.fg ((vc_spec_l21Carry h).mpr (by
  have hs : Cm.shH h := hn
  have hl := (shH_get hs).2.1
  simp only [ifb_iff, imp_self, true_and, and_true, implies_true]
  refine ⟨⟨0, by omega, rfl, ⟨rfl, rfl⟩, rfl, rfl, rfl⟩, fun i h1 => ⟨fun hi => ?_, fun hi => ?_⟩⟩
  · have hi := lt_of hi
    refine ⟨⟨hs, by omega, by omega⟩, okG_bd (see_okG hs (by omega)), ?_, i + 1, by omega, (wsucc (by omega)).symm, ?_⟩
    · unfold Cm.carryG; rw [List.length_map, List.length_take]; omega
    · rw [Cm.take_succ_getD Cm.g0 hi, carryG_append]; rfl
  · have hi := ge_of hi
    rw [List.take_of_length_le hi]; rfl))
theorem ok_spec_l21Got : FOk E_spec_l21Got Try.f146 sGot := FOk.of1 fun (b : Bool) _ => FGA.fg ((vc_spec_l21Got b).mpr (by
  simp only [ifb_iff, and_true]
  cases b <;> simp [Cm.got]))
end Go.Proofs.Ytkcpacgnejlpbaa.T
open Go Go.Am Go.Proofs
open Go.Cm (R rdOk)
namespace Go.Proofs.Ytkcpacgnejlpbaa.T
set_option maxRecDepth 10000
set_option maxHeartbeats 0
theorem allW_set : ∀ {q : Cm.Pg} (o : Nat) {w : Int}, Cm.allW q = true → (0 ≤ w ∧ w ≤ 63) → Cm.allW (q.set o w) = true
  | [], _, _, h, _ => h
  | a :: q, 0, w, h, hw => by rw [Cm.allW, Bool.and_eq_true] at h; show (Cm.within w 0 63 && Cm.allW q) = true; rw [within_iff.mpr hw, h.2]; rfl
  | a :: q, o + 1, w, h, hw => by rw [Cm.allW, Bool.and_eq_true] at h; show (Cm.within a 0 63 && Cm.allW (q.set o w)) = true; rw [h.1, allW_set o h.2 hw]; rfl
theorem okP_setW {q : Cm.Pg} (h : Cm.okP q = true) (o : Nat) {w : Int} (hw : 0 ≤ w ∧ w ≤ 63) : Cm.okP (q.set o w) = true := by
  unfold Cm.okP at h ⊢
  rw [Bool.and_eq_true] at h
  rw [allW_set o h.1 hw, List.length_set]; exact h.2
theorem sh_wr2 {h : Cm.Ho} (hs : Cm.shH h) (f : Int) (hf : f.toNat < 8) (o : Nat) {w : Int} (hw : 0 ≤ w ∧ w ≤ 63) : Cm.shH (Cm.wr2 h.1 f o w, h.2) := sh_frames hs f.toNat (okP_setW (shH_row hs hf) o hw)
theorem sh_walk {h : Cm.Ho} (hs : Cm.shH h) {g p : Nat} (hg : g < h.2.1.length) (hp : p < 6) : Cm.shH (Cm.walkP h g p).1 ∧ (Cm.walkP h g p).1.2.1.length = h.2.1.length := sh_inP hs hg (by omega)
theorem walk_pg {h : Cm.Ho} {g p : Nat} (c : (Cm.walkP h g p).2.1 = true) : 2 ≤ (Cm.walkP h g p).2.2.1 ∧ (Cm.walkP h g p).2.2.1 ≤ 5 := entry_pg c
theorem sh_setS {h : Cm.Ho} (hs : Cm.shH h) (g p : Nat) {s : Cm.Sh} (hx : s.1 = true → 0 ≤ s.2.2.1 ∧ s.2.2.1 ≤ 7) : Cm.shH (Cm.setS h g p s) := shH_upG hs fun _ h' => by
  obtain ⟨h1, h2, h3⟩ := h'
  obtain ⟨l1, l2, l3⟩ := szOk_get h1
  obtain ⟨c1, c2⟩ := shs_set l2 h3 p hx
  exact shG_mk l1 l3 c1 h2 c2
theorem setS_len (h : Cm.Ho) (g p : Nat) (s : Cm.Sh) : (Cm.setS h g p s).2.1.length = h.2.1.length := upG_len _ _ _
theorem setS_fst (h : Cm.Ho) (g p : Nat) (s : Cm.Sh) : (Cm.setS h g p s).1 = h.1 := rfl
theorem sAt_frame {h : Cm.Ho} (hs : Cm.shH h) {g p : Nat} (hg : g < h.2.1.length) (hp : p < 6) (c : (Cm.sAt h g p).1 = true) : (0 ≤ (Cm.sAt h g p).2.2.1 ∧ (Cm.sAt h g p).2.2.1 < (h.1.length : Int)) ∧ Cm.okP (h.1.getD (Cm.sAt h g p).2.2.1.toNat []) = true := by
  have := (hs.2 g hg).2.2 p hp c
  have e := (shH_get hs).1.1
  have r := fun i hi => shH_row hs (i := i) hi
  unfold Cm.sAt Cm.gAt at *
  exact ⟨by omega, r _ (by omega)⟩
theorem shs_len {h : Cm.Ho} (hs : Cm.shH h) {g : Nat} (hg : g < h.2.1.length) : (h.2.1.getD g Cm.g0).2.2.length = 6 := (szOk_get (hs.2 g hg).1).2.1
theorem ok_spec_l14ReadIn : FOk E_spec_l14ReadIn Try.f45 sReadInT := FOk.of4 fun (h : Cm.Ho) (g p o : Int) hn => FGA.fg ((vc_spec_l14ReadIn h g p o).mpr (by
  obtain ⟨⟨hs, hg, hp⟩, ho⟩ := (show inS h g p ∧ 0 ≤ o ∧ o ≤ 3 from hn)
  have hgn : g.toNat < h.2.1.length := by omega
  have hsl := shs_len hs hgn
  obtain ⟨w1, w2⟩ := sh_walk hs hgn (p := p.toNat) (by omega)
  simp only [ifb_iff, imp_self, true_and, and_true, implies_true]
  refine ⟨hg, by omega, fun c => ?_, fun c => ⟨⟨hs, hg, hp⟩, fun d => ?_, fun d => ?_⟩⟩
  · have c : (Cm.sAt h g.toNat p.toNat).1 = true := c
    obtain ⟨f1, f2⟩ := sAt_frame hs hgn (by omega) c
    have f3 := Cm.okP_len f2
    have e : Cm.readIn h g.toNat p.toNat o.toNat = (h, Cm.rd2 h.1 (Cm.sAt h g.toNat p.toNat).2.2.1 o.toNat) := by unfold Cm.readIn; rw [if_pos c]
    rw [e]
    refine ⟨f1, ⟨ho.1, ?_⟩, rfl, rfl⟩
    show o < ((List.getD h.1 (Cm.sAt h g.toNat p.toNat).2.2.1.toNat []).length : Int)
    omega
  · have c : (Cm.sAt h g.toNat p.toNat).1 = false := c
    have e : Cm.readIn h g.toNat p.toNat o.toNat = ((Cm.walkP h g.toNat p.toNat).1, -1) := by unfold Cm.readIn; rw [if_neg (by rw [c]; simp), if_pos (bnt d)]
    rw [e]; exact ⟨rfl, rfl⟩
  · have c : (Cm.sAt h g.toNat p.toNat).1 = false := c
    have hpg := walk_pg (bnf d)
    have hq : (Cm.walkP h g.toNat p.toNat).2.2.1.toNat < 6 := by omega
    have hwg : g.toNat < (Cm.walkP h g.toNat p.toNat).1.2.1.length := by omega
    obtain ⟨a, b⟩ := sh_inP w1 hwg hq
    have hig : g.toNat < (Cm.inP (Cm.walkP h g.toNat p.toNat).1 g.toNat (Cm.walkP h g.toNat p.toNat).2.2.1.toNat).2.1.length := by omega
    have ml := map_len a hig
    have sl := shs_len a hig
    obtain ⟨f1, f2⟩ := mAt_frame a hig hq (in_in w1 hwg hq)
    have f3 := Cm.okP_len f2
    unfold Cm.readIn; rw [if_neg (by rw [c]; simp), if_neg (by rw [bnf d]; simp)]
    refine ⟨⟨w1, by omega, by omega, hpg.2⟩, by omega, by omega, by omega, by omega, f1, ⟨ho.1, ?_⟩, ?_, rfl⟩
    · show o < ((List.getD (Cm.inP (Cm.walkP h g.toNat p.toNat).1 g.toNat (Cm.walkP h g.toNat p.toNat).2.2.1.toNat).1 (Cm.mAt (Cm.inP (Cm.walkP h g.toNat p.toNat).1 g.toNat (Cm.walkP h g.toNat p.toNat).2.2.1.toNat) g.toNat (Cm.walkP h g.toNat p.toNat).2.2.1.toNat).2.1.toNat []).length : Int)
      omega
    · unfold Cm.setS Cm.upG; dsimp only
      congr 2))
theorem sh_wInH {h : Cm.Ho} (hs : Cm.shH h) {g p : Nat} (hg : g < h.2.1.length) (hp : p < 6) : Cm.shH (Cm.wInH h g p).1 ∧ (Cm.wInH h g p).1.2.1.length = h.2.1.length := by
  obtain ⟨a, b⟩ := sh_walk (sh_setS hs g p (s := Cm.s0) (fun c => by cases c)) (by rw [setS_len]; exact hg) hp
  exact ⟨a, by rw [show Cm.wInH h g p = Cm.walkP (Cm.setS h g p Cm.s0) g p from rfl, b, setS_len]⟩
theorem ok_spec_l14WriteIn : FOk E_spec_l14WriteIn Try.f157 sWriteInT := FOk.of5 fun (h : Cm.Ho) (g p o w : Int) hn => FGA.fg ((vc_spec_l14WriteIn h g p o w).mpr (by
  obtain ⟨⟨⟨hs, hg, hp⟩, ho⟩, _⟩ := (show (inS h g p ∧ 0 ≤ o ∧ o ≤ 3) ∧ 0 ≤ w ∧ w ≤ 63 from hn)
  have hgn : g.toNat < h.2.1.length := by omega
  have hsl := shs_len hs hgn
  have hS : (h.1, (Cm.modAt h.2.1 g.toNat Cm.g0 fun x => (x.1, x.2.1, x.2.2.set p.toNat Cm.s0)), h.2.2) = Cm.setS h g.toNat p.toNat Cm.s0 := rfl
  have hW : Cm.walkP (Cm.setS h g.toNat p.toNat Cm.s0) g.toNat p.toNat = Cm.wInH h g.toNat p.toNat := rfl
  obtain ⟨w1, w2⟩ := sh_wInH hs hgn (p := p.toNat) (by omega)
  have s1 := sh_setS hs g.toNat p.toNat (s := Cm.s0) (fun c => by cases c)
  simp only [ifb_iff, imp_self, true_and, and_true, implies_true, Cm.modAt_len, hS, hW]
  refine ⟨hg, by omega, fun c => by rw [bnf c]; rfl, fun c => ⟨hg, by omega, ⟨s1, hg, hp⟩, fun d => ?_, fun d => ⟨fun k => ?_, fun k => ?_⟩⟩, fun c => ?_⟩
  · have c : ¬ ((Cm.sAt h g.toNat p.toNat).1 = true ∧ (Cm.sAt h g.toNat p.toNat).2.2.2 = true) := fun x => by unfold Cm.sAt Cm.gAt at x; rw [x.1, x.2] at c; cases c
    have e : Cm.writeIn h g.toNat p.toNat o.toNat w = ((Cm.wInH h g.toNat p.toNat).1, -1) := by unfold Cm.writeIn; rw [if_neg c, if_pos (bnt d)]
    rw [e]; exact ⟨rfl, rfl⟩
  · have c : ¬ ((Cm.sAt h g.toNat p.toNat).1 = true ∧ (Cm.sAt h g.toNat p.toNat).2.2.2 = true) := fun x => by unfold Cm.sAt Cm.gAt at x; rw [x.1, x.2] at c; cases c
    have e : Cm.writeIn h g.toNat p.toNat o.toNat w = ((Cm.wInH h g.toNat p.toNat).1, -2) := by unfold Cm.writeIn; rw [if_neg c, if_neg (by rw [bnf d]; simp), if_pos (bnt k)]
    rw [e]; exact ⟨rfl, rfl⟩
  · have c : ¬ ((Cm.sAt h g.toNat p.toNat).1 = true ∧ (Cm.sAt h g.toNat p.toNat).2.2.2 = true) := fun x => by unfold Cm.sAt Cm.gAt at x; rw [x.1, x.2] at c; cases c
    have hpg : 2 ≤ (Cm.wInH h g.toNat p.toNat).2.2.1 ∧ (Cm.wInH h g.toNat p.toNat).2.2.1 ≤ 5 := walk_pg (bnf d)
    have hq : (Cm.wInH h g.toNat p.toNat).2.2.1.toNat < 6 := by omega
    have hwg : g.toNat < (Cm.wInH h g.toNat p.toNat).1.2.1.length := by omega
    obtain ⟨⟨a, b⟩, i⟩ := sh_ownP w1 hwg hq
    have hig : g.toNat < (Cm.ownP (Cm.wInH h g.toNat p.toNat).1 g.toNat (Cm.wInH h g.toNat p.toNat).2.2.1.toNat).2.1.length := by omega
    have ml := map_len a hig
    have sl := shs_len a hig
    obtain ⟨f1, f2⟩ := mAt_frame a hig hq i
    have f3 := Cm.okP_len f2
    have f4 : o < ((List.getD (Cm.ownP (Cm.wInH h g.toNat p.toNat).1 g.toNat (Cm.wInH h g.toNat p.toNat).2.2.1.toNat).1 (Cm.mAt (Cm.ownP (Cm.wInH h g.toNat p.toNat).1 g.toNat (Cm.wInH h g.toNat p.toNat).2.2.1.toNat) g.toNat (Cm.wInH h g.toNat p.toNat).2.2.1.toNat).2.1.toNat []).length : Int) := by omega
    have d' : ¬ (Cm.wInH h g.toNat p.toNat).2.1 = false := by rw [bnf d]; simp
    have k' : ¬ (Cm.wInH h g.toNat p.toNat).2.2.2 = false := by rw [bnf k]; simp
    unfold Cm.writeIn; rw [if_neg c, if_neg d', if_neg k']
    unfold Cm.wInF Cm.wInO
    unfold Cm.mAt Cm.gAt at f1 f4 ⊢
    refine ⟨⟨w1, by omega, by omega, hpg.2⟩, by omega, by omega, by omega, by omega, f1, ⟨ho.1, f4⟩, f1, ⟨ho.1, f4⟩, ?_, rfl⟩
    unfold Cm.wr2 Cm.setS Cm.upG; dsimp only
    refine Prod.ext rfl (Prod.ext ?_ rfl)
    dsimp only
    generalize Cm.ownP (Cm.wInH h g.toNat p.toNat).1 g.toNat (Cm.wInH h g.toNat p.toNat).2.2.1.toNat = O
    exact modAt_congr _ _ _ rfl
  · have c : (Cm.sAt h g.toNat p.toNat).1 = true ∧ (Cm.sAt h g.toNat p.toNat).2.2.2 = true := by
      unfold Cm.sAt Cm.gAt
      rw [Bool.or_eq_false_iff] at c; exact ⟨bnf c.1, bnf c.2⟩
    obtain ⟨f1, f2⟩ := sAt_frame hs hgn (by omega) c.1
    have f3 := Cm.okP_len f2
    have f4 : o < ((List.getD h.1 (Cm.sAt h g.toNat p.toNat).2.2.1.toNat []).length : Int) := by omega
    have e : Cm.writeIn h g.toNat p.toNat o.toNat w = ((Cm.wr2 h.1 (Cm.sAt h g.toNat p.toNat).2.2.1 o.toNat w, h.2), Cm.rd2 h.1 (Cm.sAt h g.toNat p.toNat).2.2.1 o.toNat) := by unfold Cm.writeIn; rw [if_pos c]
    rw [e]
    exact ⟨f1, ⟨ho.1, f4⟩, f1, ⟨ho.1, f4⟩, rfl, rfl⟩))
/-- The host keeps its shape under what reads and writes by a shade. -/
theorem sh_readIn {h : Cm.Ho} (hs : Cm.shH h) {g p : Nat} (hg : g < h.2.1.length) (hp : p < 6) (o : Nat) : Cm.shH (Cm.readIn h g p o).1 ∧ (Cm.readIn h g p o).1.2.1.length = h.2.1.length := by
  obtain ⟨w1, w2⟩ := sh_walk hs hg hp
  unfold Cm.readIn
  split
  · exact ⟨hs, rfl⟩
  · split
    · exact ⟨w1, w2⟩
    · rename_i d
      have hpg := walk_pg (by simpa using d)
      obtain ⟨a, b⟩ := sh_inP w1 (g := g) (p := (Cm.walkP h g p).2.2.1.toNat) (by omega) (by omega)
      have f := (mAt_frame a (g := g) (p := (Cm.walkP h g p).2.2.1.toNat) (by omega) (by omega) (in_in w1 (by omega) (by omega))).1
      have e := (shH_get a).1.1
      exact ⟨sh_setS a g p (fun _ => by dsimp only; omega), by dsimp only; rw [setS_len, b, w2]⟩
theorem sh_writeIn {h : Cm.Ho} (hs : Cm.shH h) {g p : Nat} (hg : g < h.2.1.length) (hp : p < 6) (o : Nat) {w : Int} (hw : 0 ≤ w ∧ w ≤ 63) : Cm.shH (Cm.writeIn h g p o w).1 ∧ (Cm.writeIn h g p o w).1.2.1.length = h.2.1.length := by
  obtain ⟨w1, w2⟩ := sh_wInH hs hg hp
  unfold Cm.writeIn
  split
  · rename_i c
    have f := (sAt_frame hs hg hp c.1).1
    have e := (shH_get hs).1.1
    exact ⟨sh_wr2 hs _ (by omega) o hw, rfl⟩
  · split
    · exact ⟨w1, w2⟩
    · split
      · exact ⟨w1, w2⟩
      · rename_i d _
        have hpg : 2 ≤ (Cm.wInH h g p).2.2.1 ∧ (Cm.wInH h g p).2.2.1 ≤ 5 := walk_pg (show (Cm.wInH h g p).2.1 = true by simpa using d)
        obtain ⟨⟨a, b⟩, i⟩ := sh_ownP w1 (g := g) (p := (Cm.wInH h g p).2.2.1.toNat) (by omega) (by omega)
        have f := (mAt_frame a (g := g) (p := (Cm.wInH h g p).2.2.1.toNat) (by omega) (by omega) i).1
        have e := (shH_get a).1.1
        have f : 0 ≤ Cm.wInF h g p ∧ Cm.wInF h g p ≤ 7 := by unfold Cm.wInF Cm.wInO; omega
        have := sh_setS (h := Cm.wInO h g p) a g p (s := (true, (Cm.wInH h g p).2.2.1, Cm.wInF h g p, true)) (fun _ => f)
        have t := sh_wr2 this (Cm.wInF h g p) (by omega) o hw
        rw [setS_fst] at t
        have l := setS_len (Cm.wInO h g p) g p (true, (Cm.wInH h g p).2.2.1, Cm.wInF h g p, true)
        have b : (Cm.wInO h g p).2.1.length = (Cm.wInH h g p).1.2.1.length := b
        exact ⟨t, by rw [← w2, ← b, ← l]⟩
theorem sh_readP {h : Cm.Ho} (hs : Cm.shH h) {g p : Nat} (hg : g < h.2.1.length) (hp : p < 6) (o : Nat) : Cm.shH (Cm.readP h g p o).1 ∧ (Cm.readP h g p o).1.2.1.length = h.2.1.length := sh_inP hs hg hp
theorem sh_writeP {h : Cm.Ho} (hs : Cm.shH h) {g p : Nat} (hg : g < h.2.1.length) (hp : p < 6) (o : Nat) {w : Int} (hw : 0 ≤ w ∧ w ≤ 63) : Cm.shH (Cm.writeP h g p o w).1 ∧ (Cm.writeP h g p o w).1.2.1.length = h.2.1.length := by
  obtain ⟨⟨a, b⟩, i⟩ := sh_ownP hs hg hp
  have f := (mAt_frame a (g := g) (p := p) (by omega) hp i).1
  have e := (shH_get a).1.1
  exact ⟨sh_wr2 a _ (by omega) o hw, b⟩
end Go.Proofs.Ytkcpacgnejlpbaa.T
open Go Go.Am Go.Proofs
open Go.Cm (R rdOk)
namespace Go.Proofs.Ytkcpacgnejlpbaa.T
set_option maxRecDepth 10000
/-- A page is put to a frame, its shades are forgotten. -/
theorem sh_put {h : Cm.Ho} (hs : Cm.shH h) (g p : Nat) {m : Cm.E → Cm.E} (q : Int) (hm : ∀ x : Cm.E, (m x).1 = true → 0 ≤ (m x).2.1 ∧ (m x).2.1 ≤ 7) : Cm.shH (Cm.upG h g fun x => (Cm.modAt x.1 p Cm.e0 m, x.2.1, x.2.2.map (Cm.clr q))) := shH_upG hs fun _ hx => by
  obtain ⟨h1, h2, h3⟩ := hx
  obtain ⟨l1, l2, l3⟩ := szOk_get h1
  obtain ⟨c1, c2⟩ := shs_clr l2 h3 q
  obtain ⟨d1, d2⟩ := maps_set l1 h2 p (hm ((Cm.gAt h g).1.getD p Cm.e0))
  exact shG_mk d1 l3 c1 d2 c2
theorem sh_put1 {h : Cm.Ho} (hs : Cm.shH h) (g p : Nat) {m : Cm.E → Cm.E} (hm : ∀ x : Cm.E, (m x).1 = true → 0 ≤ (m x).2.1 ∧ (m x).2.1 ≤ 7) : Cm.shH (Cm.upG h g fun x => (Cm.modAt x.1 p Cm.e0 m, x.2)) := shH_upG hs fun _ hx => by
  obtain ⟨h1, h2, h3⟩ := hx
  obtain ⟨l1, l2, l3⟩ := szOk_get h1
  obtain ⟨d1, d2⟩ := maps_set l1 h2 p (hm ((Cm.gAt h g).1.getD p Cm.e0))
  exact shG_mk d1 l3 l2 d2 h3
theorem put_forget (h : Cm.Ho) (g p : Nat) (m : Cm.E → Cm.E) : Cm.forgetP (Cm.upG h g fun x => (Cm.modAt x.1 p Cm.e0 m, x.2)) g (p : Int) = Cm.upG h g fun x => (Cm.modAt x.1 p Cm.e0 m, x.2.1, x.2.2.map (Cm.clr (p : Int))) := by
  unfold Cm.forgetP Cm.upG; dsimp only; rw [modAt_modAt]
theorem ok_spec_l13Share : FOk E_spec_l13Share Try.f112 sShareT := FOk.of3 fun (h : Cm.Ho) (x y : Int) hn => FGA.fg ((vc_spec_l13Share h x y).mpr (by
  obtain ⟨hs, hx, hy⟩ := (show Cm.shH h ∧ (0 ≤ x ∧ x ≤ 7) ∧ 0 ≤ y ∧ y ≤ 7 from hn)
  have hl2 := (shH_get hs).2.1
  simp only [ifb_iff, imp_self, true_and, and_true, implies_true, Cm.modAt_len]
  refine ⟨⟨(0, h), ⟨⟨by omega, hs⟩, rfl, rfl⟩, rfl, ⟨rfl, rfl⟩, rfl, rfl, rfl, rfl⟩, ?_⟩
  rintro ⟨g, z⟩ ⟨⟨h1, h2⟩, h3, h4⟩
  dsimp only at h1 h2 h3 h4 ⊢
  refine ⟨fun hg => ?_, fun hg => ?_⟩
  · have hg := lt_of hg
    rw [show h.2.1.length - g = (h.2.1.length - (g + 1)) + 1 by omega, Cm.shareG] at h4
    refine ⟨⟨(0, z), ⟨⟨by omega, h2⟩, ⟨hg, h3⟩, h4⟩, rfl, ⟨rfl, rfl⟩, rfl⟩, ?_⟩
    rintro ⟨p, w⟩ ⟨⟨q1, q2⟩, ⟨q3, q4⟩, q5⟩
    dsimp only at q1 q2 q3 q4 q5 ⊢
    refine ⟨fun hp => ?_, fun hp => ?_⟩
    · have hp : (p : Int) < 6 := of_decide_eq_true hp
      obtain ⟨l1, l2, l3⟩ := szOk_get (q2.2 g q3).1
      rw [show 6 - p = (6 - (p + 1)) + 1 by omega, Cm.shareP] at q5
      have k1 := sh_put1 q2 g p (m := fun _ => (true, y, false)) (fun _ _ => hy)
      have k2 := sh_put q2 g p (m := fun _ => (true, y, false)) (p : Int) (fun _ _ => hy)
      have k3 := put_forget w g p (fun _ => (true, y, false))
      have k4 : (Cm.upG w g fun x => (x.1.set p (true, y, false), x.2.1, x.2.2.map (Cm.clr (p : Int)))) = Cm.forgetP (Cm.upG w g fun x => (x.1.set p (true, y, false), x.2)) g (p : Int) := k3.symm
      rw [k4] at q5
      refine ⟨by omega, by omega, fun a b => ?_, fun c => ⟨by omega, by omega, ⟨k1, by omega, by omega, by omega⟩, (p + 1, Cm.forgetP (Cm.upG w g fun x => (x.1.set p (true, y, false), x.2)) g (p : Int)), ⟨⟨⟨by omega, ?_⟩, ⟨by rw [forgetP_len, upG_len]; exact q3, by rw [forgetP_len, upG_len]; exact q4⟩, ?_⟩, by dsimp only; omega⟩, (wsucc (by omega)).symm, ⟨rfl, rfl⟩, rfl⟩,
        fun c => ⟨(p + 1, w), ⟨⟨⟨by omega, q2⟩, ⟨q3, q4⟩, ?_⟩, by dsimp only; omega⟩, (wsucc (by omega)).symm, ⟨rfl, rfl⟩, rfl⟩⟩
      · rw [a, b]; rfl
      · rw [← k4]; exact k2
      · rw [Bool.and_eq_true, Bool.or_eq_true, beq_iff_eq, beq_iff_eq] at c
        have c : (Cm.mAt w g p).1 = true ∧ ((Cm.mAt w g p).2.1 = x ∨ (Cm.mAt w g p).2.1 = y) := c
        rw [if_pos c] at q5; exact q5
      · rw [if_neg] at q5
        · exact q5
        · intro e; unfold Cm.mAt Cm.gAt at e; rw [e.1] at c
          rcases e.2 with k | k <;> · rw [k] at c; simp at c
    · have hp : ¬ (p : Int) < 6 := of_decide_eq_false hp
      rw [show 6 - p = 0 by omega, Cm.shareP] at q5
      exact ⟨(g + 1, w), ⟨⟨⟨by omega, q2⟩, q4, q5⟩, by dsimp only; omega⟩, (wsucc (by omega)).symm, ⟨rfl, rfl⟩, rfl⟩
  · have hg := ge_of hg
    rw [h4, show h.2.1.length - g = 0 by omega]; rfl))
theorem joinGo_step (h : Cm.Ho) {a : Nat} (c : a < 8) : Cm.joinGo h (8 - a) a = match Cm.joinIn h a (8 - (a + 1)) (a + 1) with
    | some x => some x
    | none => Cm.joinGo h (8 - (a + 1)) (a + 1) := by
  rw [show 8 - a = (8 - (a + 1)) + 1 by omega, Cm.joinGo]
  rfl
theorem ok_spec_l13Join : FOk E_spec_l13Join Try.f76 sJoinT := FOk.of1 fun (h : Cm.Ho) hn => FGA.fg ((vc_spec_l13Join h).mpr (by
  have hs : Cm.shH h := hn
  have hb := shH_bd hs
  obtain ⟨⟨f1, f2⟩, _⟩ := shH_get hs
  simp only [ifb_iff, imp_self, true_and, and_true, implies_true]
  refine ⟨⟨0, ⟨by omega, rfl⟩, rfl, rfl, rfl, rfl⟩, fun a ⟨h1, h2⟩ => ⟨fun ha => ?_, fun ha => ?_⟩⟩
  · have ha : (a : Int) < 8 := of_decide_eq_true ha
    refine ⟨⟨a + 1, ⟨⟨by omega, by omega⟩, rfl, h2⟩, (wsucc (by omega)).symm⟩, fun b ⟨⟨h3, h4⟩, h5, _⟩ => ⟨fun hb' => ?_, fun hb' => ?_⟩⟩
    · have hb' : (b : Int) < 8 := of_decide_eq_true hb'
      have c1 := Cm.okP_len (shH_row hs (i := a) (by omega))
      have c2 := Cm.okP_len (shH_row hs (i := b) (by omega))
      rw [joinGo_step h h3, h5, show 8 - b = (8 - (b + 1)) + 1 by omega, Cm.joinIn] at h2
      refine ⟨hb, fun _ => hb, fun _ => by omega, fun _ => by omega, fun _ => ⟨c1, c2⟩, fun c => ⟨⟨hs, by omega, by omega⟩, ?_⟩, fun c => ⟨b + 1, ⟨⟨⟨by omega, by omega⟩, ?_, by assumption⟩, by omega⟩, (wsucc (by omega)).symm⟩⟩
      · have c : Cm.canJoin h a b = true := c
        rw [if_pos c] at h2
        unfold Cm.join; rw [h2]; exact ⟨rfl, rfl⟩
      · have c : Cm.canJoin h a b = false := c
        rw [h5, show 8 - b = (8 - (b + 1)) + 1 by omega, Cm.joinIn, if_neg (by rw [c]; simp)]
    · have hb' : ¬ (b : Int) < 8 := of_decide_eq_false hb'
      rw [show 8 - b = 0 by omega, Cm.joinIn] at h5
      rw [joinGo_step h h3, h5] at h2
      exact ⟨a + 1, ⟨⟨by omega, h2⟩, by omega⟩, (wsucc (by omega)).symm⟩
  · have ha : ¬ (a : Int) < 8 := of_decide_eq_false ha
    rw [show 8 - a = 0 by omega, Cm.joinGo] at h2
    unfold Cm.join; rw [h2]; exact ⟨rfl, rfl⟩))
theorem ok_spec_l13Move : FOk E_spec_l13Move Try.f147 sMoveT := FOk.of2 fun (h : Cm.Ho) (f : Int) hn => FGA.fg ((vc_spec_l13Move h f).mpr (by
  obtain ⟨hs, hf⟩ := (show Cm.shH h ∧ 0 ≤ f ∧ f ≤ 7 from hn)
  have hb := shH_bd hs
  obtain ⟨⟨f1, f2⟩, hl2, _⟩ := shH_get hs
  have fo := shH_row hs (i := f.toNat) (by omega)
  have fl := Cm.okP_len fo
  simp only [ifb_iff, imp_self, true_and, and_true, implies_true, Cm.modAt_len]
  refine ⟨hb, fun _ => hb, fun c => by rw [c]; rfl, fun c => ?_, fun c => ?_⟩
  · rw [Bool.or_eq_true, decide_eq_true_eq, beq_iff_eq] at c
    unfold Cm.move; rw [if_pos c]; exact ⟨rfl, rfl⟩
  · rw [Bool.or_eq_false_iff, decide_eq_false_iff_not, beq_eq_false_iff_ne] at c
    have yb := first_bd c.1
    have hm : Cm.move h f = (Cm.moveG f (Cm.first h) h.2.1.length 0 (h.1.set (Cm.first h).toNat (List.getD h.1 f.toNat []), h.2), true) := by
      unfold Cm.move; rw [if_neg (fun e => e.elim c.1 c.2)]
    have hs0 := sh_frames hs (Cm.first h).toNat fo
    refine ⟨by omega, by omega, by omega, ⟨(0, (h.1.set (Cm.first h).toNat (List.getD h.1 f.toNat []), h.2)), ⟨⟨by omega, hs0⟩, rfl, hm⟩, rfl, ⟨rfl, rfl⟩, rfl, rfl, rfl, rfl⟩, ?_⟩
    generalize Cm.first h = y at *
    rintro ⟨g, z⟩ ⟨⟨h1, h2⟩, h3, h4⟩
    dsimp only at h1 h2 h3 h4 ⊢
    refine ⟨fun hg => ?_, fun hg => ?_⟩
    · have hg := lt_of hg
      rw [show h.2.1.length - g = (h.2.1.length - (g + 1)) + 1 by omega, Cm.moveG] at h4
      refine ⟨⟨(0, z), ⟨⟨by omega, h2⟩, ⟨hg, h3⟩, h4⟩, rfl, ⟨rfl, rfl⟩, rfl⟩, ?_⟩
      rintro ⟨p, w⟩ ⟨⟨q1, q2⟩, ⟨q3, q4⟩, q5⟩
      dsimp only at q1 q2 q3 q4 q5 ⊢
      refine ⟨fun hp => ?_, fun hp => ?_⟩
      · have hp : (p : Int) < 6 := of_decide_eq_true hp
        obtain ⟨l1, l2, l3⟩ := szOk_get (q2.2 g q3).1
        rw [show 6 - p = (6 - (p + 1)) + 1 by omega, Cm.moveP] at q5
        have k1 := sh_put1 q2 g p (m := fun m => (m.1, y, m.2.2)) (fun _ _ => by dsimp only; omega)
        have k2 := sh_put q2 g p (m := fun m => (m.1, y, m.2.2)) (p : Int) (fun _ _ => by dsimp only; omega)
        have k3 := put_forget w g p (fun m => (m.1, y, m.2.2))
        rw [← k3] at q5
        refine ⟨by omega, by omega, fun _ => by omega, fun _ => by omega, fun c => ⟨by omega, by omega, ⟨k1, by omega, by omega, by omega⟩, (p + 1, Cm.forgetP (Cm.upG w g fun x => (Cm.modAt x.1 p Cm.e0 fun m => (m.1, y, m.2.2), x.2)) g (p : Int)), ⟨⟨⟨by omega, ?_⟩, ⟨by rw [forgetP_len, upG_len]; exact q3, by rw [forgetP_len, upG_len]; exact q4⟩, ?_⟩, by dsimp only; omega⟩, (wsucc (by omega)).symm, ⟨rfl, rfl⟩, rfl⟩,
          fun c => ⟨(p + 1, w), ⟨⟨⟨by omega, q2⟩, ⟨q3, q4⟩, ?_⟩, by dsimp only; omega⟩, (wsucc (by omega)).symm, ⟨rfl, rfl⟩, rfl⟩⟩
        · rw [k3]; exact k2
        · rw [Bool.and_eq_true, beq_iff_eq] at c
          have c : (Cm.mAt w g p).1 = true ∧ (Cm.mAt w g p).2.1 = f := c
          rw [if_pos c] at q5; exact q5
        · rw [if_neg] at q5
          · exact q5
          · intro e; unfold Cm.mAt Cm.gAt at e; rw [e.1, e.2] at c; simp at c
      · have hp : ¬ (p : Int) < 6 := of_decide_eq_false hp
        rw [show 6 - p = 0 by omega, Cm.moveP] at q5
        exact ⟨(g + 1, w), ⟨⟨⟨by omega, q2⟩, q4, q5⟩, by dsimp only; omega⟩, (wsucc (by omega)).symm, ⟨rfl, rfl⟩, rfl⟩
    · have hg := ge_of hg
      rw [h4, show h.2.1.length - g = 0 by omega]; exact ⟨rfl, rfl⟩))
end Go.Proofs.Ytkcpacgnejlpbaa.T
open Go Go.Am Go.Proofs
open Go.Cm (R rdOk)
namespace Go.Proofs.Ytkcpacgnejlpbaa.T
set_option maxRecDepth 10000
theorem rep_getD {α : Type} (n i : Nat) (d : α) : (List.replicate n d).getD i d = d := by
  rw [List.getD_eq_getElem?_getD, List.getElem?_replicate]; split <;> rfl
abbrev keeps (h x : Cm.Ho) : Prop := Cm.shH x ∧ x.2.1.length = h.2.1.length
theorem keeps_refl {h : Cm.Ho} (hs : Cm.shH h) : keeps h h := ⟨hs, rfl⟩
theorem sh_shareP (a b : Int) (hb : 0 ≤ b ∧ b ≤ 7) (g : Nat) : ∀ (n p : Nat) {h : Cm.Ho}, Cm.shH h → keeps h (Cm.shareP a b g n p h)
  | 0, _, _, hs => ⟨hs, rfl⟩
  | n + 1, p, h, hs => by
    rw [Cm.shareP]
    split
    · obtain ⟨x, y⟩ := sh_shareP a b hb g n (p + 1) (sh_put hs g p (m := fun _ => (true, b, false)) (p : Int) (fun _ _ => hb))
      exact ⟨x, by rw [upG_len] at y; exact y⟩
    · exact sh_shareP a b hb g n (p + 1) hs
theorem sh_shareG (a b : Int) (hb : 0 ≤ b ∧ b ≤ 7) : ∀ (n g : Nat) {h : Cm.Ho}, Cm.shH h → keeps h (Cm.shareG a b n g h)
  | 0, _, _, hs => ⟨hs, rfl⟩
  | n + 1, g, h, hs => by
    rw [Cm.shareG]
    obtain ⟨x, y⟩ := sh_shareP a b hb g 6 0 hs
    obtain ⟨u, v⟩ := sh_shareG a b hb n (g + 1) x
    exact ⟨u, by rw [v, y]⟩
theorem sh_joinIn {h : Cm.Ho} (hs : Cm.shH h) (a : Nat) (ha : a < 8) : ∀ (n b : Nat) {x : Cm.Ho}, Cm.joinIn h a n b = some x → keeps h x
  | 0, _, _, e => by cases e
  | n + 1, b, x, e => by
    rw [Cm.joinIn] at e
    split at e
    · rw [← Option.some.inj e]; exact sh_shareG _ _ (by omega) _ _ hs
    · exact sh_joinIn hs a ha n (b + 1) e
theorem sh_joinGo {h : Cm.Ho} (hs : Cm.shH h) : ∀ (n a : Nat) {x : Cm.Ho}, n + a ≤ 8 → Cm.joinGo h n a = some x → keeps h x
  | 0, _, _, _, e => by cases e
  | n + 1, a, x, hn, e => by
    rw [Cm.joinGo] at e
    split at e
    · rename_i z hz
      rw [← Option.some.inj e]; exact sh_joinIn hs a (by omega) _ _ hz
    · exact sh_joinGo hs n (a + 1) (by omega) e
theorem sh_join {h : Cm.Ho} (hs : Cm.shH h) : keeps h (Cm.join h).1 := by
  unfold Cm.join
  split
  · rename_i x hx; exact sh_joinGo hs 8 0 (by omega) hx
  · exact keeps_refl hs
theorem sh_moveP (a b : Int) (hb : 0 ≤ b ∧ b ≤ 7) (g : Nat) : ∀ (n p : Nat) {h : Cm.Ho}, Cm.shH h → keeps h (Cm.moveP a b g n p h)
  | 0, _, _, hs => ⟨hs, rfl⟩
  | n + 1, p, h, hs => by
    rw [Cm.moveP]
    split
    · obtain ⟨x, y⟩ := sh_moveP a b hb g n (p + 1) (sh_put hs g p (m := fun m => (m.1, b, m.2.2)) (p : Int) (fun _ _ => hb))
      exact ⟨x, by rw [upG_len] at y; exact y⟩
    · exact sh_moveP a b hb g n (p + 1) hs
theorem sh_moveG (a b : Int) (hb : 0 ≤ b ∧ b ≤ 7) : ∀ (n g : Nat) {h : Cm.Ho}, Cm.shH h → keeps h (Cm.moveG a b n g h)
  | 0, _, _, hs => ⟨hs, rfl⟩
  | n + 1, g, h, hs => by
    rw [Cm.moveG]
    obtain ⟨x, y⟩ := sh_moveP a b hb g 6 0 hs
    obtain ⟨u, v⟩ := sh_moveG a b hb n (g + 1) x
    exact ⟨u, by rw [v, y]⟩
theorem sh_move {h : Cm.Ho} (hs : Cm.shH h) {f : Int} (hf : 0 ≤ f ∧ f ≤ 7) : keeps h (Cm.move h f).1 := by
  unfold Cm.move
  split
  · exact keeps_refl hs
  · rename_i c
    have y := first_bd (h := h) (fun e => c (.inl e))
    exact sh_moveG f _ y _ _ (sh_frames hs (Cm.first h).toNat (shH_row hs (i := f.toNat) (by omega)))
theorem carryG_get (fr : Cm.Mm) (l : List Cm.Gt) {i : Nat} (hi : i < l.length) : (Cm.carryG fr l).getD i Cm.g0 = Cm.newG (Cm.seeG fr (l.getD i Cm.g0)) := by
  unfold Cm.carryG; simp [List.getD_eq_getElem?_getD, hi]
theorem shG_new {m : Cm.Mm} (hm : Cm.okG m = true) : Cm.shG (Cm.newG m) := shG_mk rfl hm rfl
  (fun i hi c => by
    have e : (List.replicate 6 Cm.e0).getD i Cm.e0 = Cm.e0 := rep_getD _ _ _
    rw [e] at c; cases c)
  (fun i hi c => by
    have e : (List.replicate 6 Cm.s0).getD i Cm.s0 = Cm.s0 := rep_getD _ _ _
    rw [e] at c; cases c)
theorem sh_mk {fr : Cm.Mm} {l : List Cm.Gt} {k : Int} (h1 : Cm.okM fr = true) (h2 : fr.length = 8) (h3 : 1 ≤ l.length ∧ l.length ≤ 2) (h4 : 0 ≤ k ∧ k ≤ 7) (h5 : ∀ i, i < l.length → Cm.shG (l.getD i Cm.g0)) : Cm.shH (fr, l, k) := by
  refine ⟨?_, h5⟩
  unfold Cm.preOk
  simp only [Bool.and_eq_true, decide_eq_true_eq]
  exact ⟨⟨⟨h1, h2⟩, within_iff.mpr (by omega)⟩, within_iff.mpr h4⟩
theorem newFr_ok : Cm.okM Cm.newFr = true := by decide
theorem sh_carry {h : Cm.Ho} (hs : Cm.shH h) : keeps h (Cm.carry h) := by
  have hl := (shH_get hs).2.1
  have l : (Cm.carryG h.1 h.2.1).length = h.2.1.length := by unfold Cm.carryG; rw [List.length_map]
  refine ⟨sh_mk newFr_ok rfl (by omega) (by omega) fun i hi => ?_, l⟩
  rw [l] at hi
  rw [carryG_get _ _ hi]
  exact shG_new (see_okG hs (g := (i : Int)) (by omega))
theorem sh_forget {h : Cm.Ho} (hs : Cm.shH h) (g : Int) : keeps h (Cm.forget h g) := by
  refine ⟨shH_upG (g := g.toNat) (f := fun x => (x.1, x.2.1, List.replicate 6 Cm.s0)) hs fun _ hx => ?_, by unfold Cm.forget; dsimp only; rw [Cm.modAt_len]⟩
  obtain ⟨h1, h2, h3⟩ := hx
  obtain ⟨l1, l2, l3⟩ := szOk_get h1
  exact shG_mk l1 l3 rfl h2 fun i hi c => by
    have e : (List.replicate 6 Cm.s0).getD i Cm.s0 = Cm.s0 := rep_getD _ _ _
    rw [e] at c; cases c
theorem nwithin {n lo hi : Int} (c : ¬ Cm.within n lo hi = false) : lo ≤ n ∧ n ≤ hi := within_f (by simpa using c)
theorem sh_doG {h : Cm.Ho} (hs : Cm.shH h) {a : Cm.A} (hg : inG h a.2.1) : keeps h (Cm.doG h a).1 := by
  have hgn : a.2.1.toNat < h.2.1.length := by omega
  unfold Cm.doG
  split
  · exact sh_forget hs _
  · split
    · exact keeps_refl hs
    · rename_i c
      have b1 := nwithin (fun e => c (.inl e))
      split
      · exact sh_readP hs hgn (by omega) _
      · split
        · exact sh_readIn hs hgn (by omega) _
        · split
          · rename_i e; exact sh_writeP hs hgn (by omega) _ (within_f e.2)
          · split
            · rename_i e; exact sh_writeIn hs hgn (by omega) _ (within_f e.2)
            · exact keeps_refl hs
theorem sh_doH {h : Cm.Ho} (hs : Cm.shH h) (a : Cm.A) : keeps h (Cm.doH h a).1 := by
  unfold Cm.doH
  split
  · split
    · rename_i e
      have e2 := within_f e.2
      exact ⟨sh_outP hs (by omega), outP_len _ _ _⟩
    · exact keeps_refl hs
  · split
    · exact sh_join hs
    · split
      · split
        · rename_i e; exact sh_move hs (within_f e)
        · exact keeps_refl hs
      · split
        · exact sh_carry hs
        · split
          · rename_i e
            have := within_f e.1
            exact sh_doG hs (by constructor <;> omega)
          · exact keeps_refl hs
theorem sh_hNew {n : Int} (h : (Cm.hNew n).2 = true) : Cm.shH (Cm.hNew n).1 ∧ ((Cm.hNew n).1.2.1.length : Int) = n ∧ (1 ≤ n ∧ n ≤ 2) := by
  by_cases c : Cm.within n 1 2 = true
  · have b := within_f c
    unfold Cm.hNew; rw [if_pos c]
    refine ⟨sh_mk newFr_ok rfl (by rw [List.length_replicate]; omega) (by omega) fun i hi => ?_, by dsimp only; rw [List.length_replicate]; omega, b⟩
    rw [List.length_replicate] at hi
    have e : (List.replicate n.toNat (Cm.newG (Cm.memNew 6))).getD i Cm.g0 = Cm.newG (Cm.memNew 6) := by simp [List.getD_eq_getElem?_getD, List.getElem?_replicate, hi]
    rw [e]; exact shG_new (by decide)
  · unfold Cm.hNew at h; rw [if_neg c] at h; cases h
theorem ok_spec_l21Guest : FOk E_spec_l21Guest Try.f150 sDoG := FOk.of2 fun (h : Cm.Ho) (a : Cm.A) hn => FGA.fg ((vc_spec_l21Guest h a).mpr (by
  obtain ⟨hs, hg, ho⟩ := (show Cm.shH h ∧ inG h a.2.1 ∧ Cm.own a = true from hn)
  simp only [ifb_iff, imp_self, true_and, and_true, implies_true]
  refine ⟨fun c => ⟨hg, ?_⟩, fun c5 => ⟨fun k => by rw [bnf k]; rfl, fun k => ?_, fun k => ?_⟩⟩
  · have c := beq_iff_eq.mp c
    unfold Cm.doG; rw [if_pos c]; exact ⟨rfl, rfl⟩
  · have c5 := beq_eq_false_iff_ne.mp c5
    rw [Bool.or_eq_true] at k
    unfold Cm.doG; rw [if_neg c5, if_pos (k.imp bnt bnt)]; exact ⟨rfl, rfl⟩
  · have c5 := beq_eq_false_iff_ne.mp c5
    rw [Bool.or_eq_false_iff] at k
    have k1 := within_f (bnf k.1)
    have k2 := within_f (bnf k.2)
    have k3 : ¬ (Cm.within a.2.2.1 0 5 = false ∨ Cm.within a.2.2.2.1 0 3 = false) := by rw [bnf k.1, bnf k.2]; simp
    have hi : (Cm.shH h ∧ inG h a.2.1 ∧ 0 ≤ a.2.2.1 ∧ a.2.2.1 ≤ 5) ∧ 0 ≤ a.2.2.2.1 ∧ a.2.2.2.1 ≤ 3 := ⟨⟨hs, hg, k1⟩, k2⟩
    refine ⟨fun c => ⟨hi, ?_⟩, fun c1 => ⟨fun c => ⟨hi, ?_⟩, fun c3 => ⟨fun c2 => ⟨fun w => ⟨⟨hi, within_f w⟩, ?_⟩, fun w => ?_⟩, fun c2 => ⟨fun c4 => ⟨fun w => ⟨⟨hi, within_f w⟩, ?_⟩, fun w => ?_⟩, fun c4 => ?_⟩⟩⟩⟩
    · have c := beq_iff_eq.mp c
      unfold Cm.doG; rw [if_neg c5, if_neg k3, if_pos c]; exact ⟨rfl, rfl⟩
    · have c1 := beq_eq_false_iff_ne.mp c1
      have c := beq_iff_eq.mp c
      unfold Cm.doG; rw [if_neg c5, if_neg k3, if_neg c1, if_pos c]; exact ⟨rfl, rfl⟩
    · have c1 := beq_eq_false_iff_ne.mp c1
      have c3 := beq_eq_false_iff_ne.mp c3
      have c2 := beq_iff_eq.mp c2
      unfold Cm.doG; rw [if_neg c5, if_neg k3, if_neg c1, if_neg c3, if_pos ⟨c2, w⟩]; exact ⟨rfl, rfl⟩
    · have c1 := beq_eq_false_iff_ne.mp c1
      have c3 := beq_eq_false_iff_ne.mp c3
      have c2 := beq_iff_eq.mp c2
      unfold Cm.doG; rw [if_neg c5, if_neg k3, if_neg c1, if_neg c3, if_neg (by rw [w]; simp), if_neg (by rw [w]; simp)]; exact ⟨rfl, rfl⟩
    · have c1 := beq_eq_false_iff_ne.mp c1
      have c3 := beq_eq_false_iff_ne.mp c3
      have c2 := beq_eq_false_iff_ne.mp c2
      have c4 := beq_iff_eq.mp c4
      unfold Cm.doG; rw [if_neg c5, if_neg k3, if_neg c1, if_neg c3, if_neg (fun e => c2 e.1), if_pos ⟨c4, w⟩]; exact ⟨rfl, rfl⟩
    · have c1 := beq_eq_false_iff_ne.mp c1
      have c3 := beq_eq_false_iff_ne.mp c3
      unfold Cm.doG; rw [if_neg c5, if_neg k3, if_neg c1, if_neg c3, if_neg (by rw [w]; simp), if_neg (by rw [w]; simp)]; exact ⟨rfl, rfl⟩
    · have c1 := beq_eq_false_iff_ne.mp c1
      have c3 := beq_eq_false_iff_ne.mp c3
      have c2 := beq_eq_false_iff_ne.mp c2
      have c4 := beq_eq_false_iff_ne.mp c4
      unfold Cm.doG; rw [if_neg c5, if_neg k3, if_neg c1, if_neg c3, if_neg (fun e => c2 e.1), if_neg (fun e => c4 e.1)]; exact ⟨rfl, rfl⟩))
theorem ok_spec_l21Do : FOk E_spec_l21Do Try.f133 sDoH := FOk.of2 fun (h : Cm.Ho) (a : Cm.A) hn => FGA.fg ((vc_spec_l21Do h a).mpr (by
  have hs : Cm.shH h := hn
  have hl := (shH_get hs).2.1
  have hw : IntKind.wrap .i64 ((h.2.1.length : Int) - 1) = (h.2.1.length : Int) - 1 := Cm.wrap_id (by omega) (by omega)
  simp only [ifb_iff, imp_self, true_and, and_true, implies_true, hw]
  refine ⟨fun c6 => ⟨fun k => ?_, fun k => ?_⟩, fun c6 => ⟨fun c7 => ⟨hs, ?_⟩, fun c7 => ⟨fun c8 => ⟨fun k => ⟨⟨hs, within_f k⟩, ?_⟩, fun k => ?_⟩, fun c8 => ⟨fun c9 => ⟨hs, ?_⟩, fun c9 => ⟨fun k => ?_, fun k => ?_⟩⟩⟩⟩⟩
  · have c6 := beq_iff_eq.mp c6
    rw [Bool.and_eq_true] at k
    have k1 := within_f k.1
    have k2 := within_f k.2
    refine ⟨⟨hs, by omega, k2⟩, ?_⟩
    unfold Cm.doH; rw [if_pos c6, if_pos k]; exact ⟨rfl, rfl⟩
  · have c6 := beq_iff_eq.mp c6
    unfold Cm.doH; rw [if_pos c6, if_neg (by rw [← Bool.and_eq_true, k]; simp)]; exact ⟨rfl, rfl⟩
  · have c6 := beq_eq_false_iff_ne.mp c6
    have c7 := beq_iff_eq.mp c7
    unfold Cm.doH; rw [if_neg c6, if_pos c7]; exact ⟨rfl, rfl⟩
  · have c6 := beq_eq_false_iff_ne.mp c6
    have c7 := beq_eq_false_iff_ne.mp c7
    have c8 := beq_iff_eq.mp c8
    unfold Cm.doH; rw [if_neg c6, if_neg c7, if_pos c8, if_pos k]; exact ⟨rfl, rfl⟩
  · have c6 := beq_eq_false_iff_ne.mp c6
    have c7 := beq_eq_false_iff_ne.mp c7
    have c8 := beq_iff_eq.mp c8
    unfold Cm.doH; rw [if_neg c6, if_neg c7, if_pos c8, if_neg (by rw [k]; simp)]; exact ⟨rfl, rfl⟩
  · have c6 := beq_eq_false_iff_ne.mp c6
    have c7 := beq_eq_false_iff_ne.mp c7
    have c8 := beq_eq_false_iff_ne.mp c8
    have c9 := beq_iff_eq.mp c9
    unfold Cm.doH; rw [if_neg c6, if_neg c7, if_neg c8, if_pos c9]; exact ⟨rfl, rfl⟩
  · have c6 := beq_eq_false_iff_ne.mp c6
    have c7 := beq_eq_false_iff_ne.mp c7
    have c8 := beq_eq_false_iff_ne.mp c8
    have c9 := beq_eq_false_iff_ne.mp c9
    rw [Bool.and_eq_true] at k
    have k1 := within_f k.1
    refine ⟨⟨hs, by omega, k.2⟩, ?_⟩
    unfold Cm.doH; rw [if_neg c6, if_neg c7, if_neg c8, if_neg c9, if_pos k]; exact ⟨rfl, rfl⟩
  · have c6 := beq_eq_false_iff_ne.mp c6
    have c7 := beq_eq_false_iff_ne.mp c7
    have c8 := beq_eq_false_iff_ne.mp c8
    have c9 := beq_eq_false_iff_ne.mp c9
    unfold Cm.doH; rw [if_neg c6, if_neg c7, if_neg c8, if_neg c9, if_neg (by rw [← Bool.and_eq_true, k]; simp)]; exact ⟨rfl, rfl⟩))
theorem ok_spec_HostPlay : FOk E_spec_HostPlay Try.f101 sHPlay := FOk.of2 fun (n : Int) (l : List Cm.A) hn => FGA.fg ((vc_spec_HostPlay n l).mpr (by
  have hl : l.length ≤ 16777216 := hn
  simp only [ifb_iff, imp_self, true_and, and_true, implies_true]
  refine ⟨fun c => by rw [bnf c]; rfl, fun c => ?_, fun c => ?_⟩
  · rw [Bool.or_eq_true, decide_eq_true_eq] at c
    have e : Cm.hPlay n l = (Cm.h0, []) := by unfold Cm.hPlay; rw [if_pos (c.imp bnt (by omega))]
    rw [e]; exact ⟨rfl, rfl⟩
  · rw [Bool.or_eq_false_iff, decide_eq_false_iff_not] at c
    obtain ⟨hs, _⟩ := sh_hNew (bnf c.1)
    have e : Cm.hPlay n l = Cm.plays2 l ((Cm.hNew n).1, []) := by unfold Cm.hPlay; rw [if_neg (by rw [bnf c.1]; simp; omega)]
    refine ⟨⟨(0, (Cm.hNew n).1, []), ⟨⟨by omega, hs, rfl⟩, by rw [e]; rfl⟩, rfl, ⟨rfl, rfl, rfl⟩, rfl, rfl, rfl, rfl⟩, ?_⟩
    rintro ⟨i, x, o⟩ ⟨⟨h1, h2, h3⟩, h4⟩
    dsimp only at h1 h2 h3 h4 ⊢
    refine ⟨fun hi => ?_, fun hi => ?_⟩
    · have hi := lt_of hi
      rw [Cm.drop_getD Cm.a0 hi, Cm.plays2] at h4
      exact ⟨by omega, h2, by omega, (i + 1, (Cm.doH x (l.getD i Cm.a0)).1, o ++ [(Cm.doH x (l.getD i Cm.a0)).2]), ⟨⟨⟨by omega, (sh_doH h2 _).1, by rw [List.length_append, h3]; rfl⟩, h4⟩, by dsimp only; omega⟩, (wsucc (by omega)).symm, ⟨rfl, rfl, rfl⟩, rfl⟩
    · have hi := ge_of hi
      rw [h4, List.drop_of_length_le hi]; exact ⟨rfl, rfl⟩))
end Go.Proofs.Ytkcpacgnejlpbaa.T
open Go Go.Am Go.Proofs
open Go.Cm (R rdOk)
namespace Go.Proofs.Ytkcpacgnejlpbaa.T
set_option maxRecDepth 10000
theorem playGo_rd {act : R → Int → R × Cm.A} (ha : ActOk act) {g : Int} (hg : 1 ≤ g ∧ g ≤ 100) (t : Bool) : ∀ (n : Nat) (s : R × List Cm.A), rdOk s.1 (274877906944 - 20 * n) →
    (Cm.playGo act g t n s).1.1 = s.1.1 ∧ s.1.2 ≤ (Cm.playGo act g t n s).1.2 ∧ (Cm.playGo act g t n s).1.2 ≤ s.1.2 + 20 * n
  | 0, s, _ => ⟨rfl, Int.le_refl _, by show s.1.2 ≤ _; omega⟩
  | n + 1, s, h => by
    rw [Cm.playGo]
    split
    · obtain ⟨h1, h2, h3⟩ := h
      obtain ⟨a1, a2, a3⟩ := ha s.1 g ⟨h1, h2, by omega⟩ hg.1 hg.2
      obtain ⟨b1, b2, b3⟩ := playGo_rd ha hg t n (Cm.playStep act g t s) (show rdOk (act s.1 g).1 _ from ⟨a1 ▸ h1, by omega, by omega⟩)
      have c1 : (Cm.playStep act g t s).1 = (act s.1 g).1 := rfl
      rw [c1] at b1 b2 b3
      exact ⟨by rw [b1, a1], by omega, by omega⟩
    · exact ⟨rfl, Int.le_refl _, by omega⟩
structure PlOk (pl : R → R × Int × List Cm.A) : Prop where
  rd : ∀ r, rdOk r 137438953472 → (pl r).1.1 = r.1 ∧ r.2 ≤ (pl r).1.2 ∧ (pl r).1.2 ≤ r.2 + 1200
  num : ∀ r, rdOk r 137438953472 → 1 ≤ (pl r).2.1 ∧ (pl r).2.1 ≤ 2
  len : ∀ r, rdOk r 137438953472 → (pl r).2.2.length ≤ 60
theorem play_good {p : R → Int → Int} {act : R → Int → R × Cm.A} {tb : R → Int → R × List Cm.A} (hp : PickOk p) (ha : ActOk act) (ht : TabsOk tb) : PlOk (Cm.playM p act tb) where
  len := fun _ h => play_len ht h
  num := fun r ⟨h1, h2, h3⟩ => by
    have := hp r 2 ⟨h1, h2, by omega⟩ (by omega)
    show 1 ≤ 1 + p r 2 ∧ 1 + p r 2 ≤ 2; omega
  rd := fun r ⟨h1, h2, h3⟩ => by
    have hG := hp r 2 ⟨h1, h2, by omega⟩ (by omega)
    have hG1 : 1 ≤ Cm.playG p r ∧ Cm.playG p r ≤ 100 := by show 1 ≤ 1 + p r 2 ∧ 1 + p r 2 ≤ 100; omega
    have h0 : (Cm.play0 p tb r).1.1 = r.1 ∧ r.2 ≤ (Cm.play0 p tb r).1.2 ∧ (Cm.play0 p tb r).1.2 ≤ r.2 + 23 := by
      unfold Cm.play0
      split
      · obtain ⟨⟨t1, t2, t3⟩, _⟩ := ht (r.1, Cm.inc (Cm.inc (Cm.inc r.2))) (p (r.1, Cm.inc (Cm.inc r.2)) (Cm.playG p r)) ⟨h1, by simp only [Cm.inc]; omega, by simp only [Cm.inc]; omega⟩
        simp only [Cm.inc] at t1 t2 t3 ⊢
        exact ⟨t1, by omega, by omega⟩
      · exact ⟨rfl, by simp only [Cm.inc]; omega, by simp only [Cm.inc]; omega⟩
    obtain ⟨i1, i2, i3⟩ := h0
    have hn := hp ((Cm.play0 p tb r).1.1, Cm.inc (Cm.play0 p tb r).1.2) 52 ⟨i1 ▸ h1, by simp only [Cm.inc]; omega, by simp only [Cm.inc]; omega⟩ (by omega)
    have hN : Cm.playN p tb r ≤ 52 := by unfold Cm.playN; omega
    obtain ⟨b1, b2, b3⟩ := playGo_rd ha hG1 (Cm.playT p tb r) (Cm.playN p tb r) (((Cm.play0 p tb r).1.1, Cm.inc (Cm.inc (Cm.play0 p tb r).1.2)), (Cm.play0 p tb r).2) ⟨i1 ▸ h1, by simp only [Cm.inc]; omega, by simp only [Cm.inc]; omega⟩
    simp only [Cm.inc] at b1 b2 b3
    have e : (Cm.playM p act tb r).1 = (Cm.playE p act tb r).1 := rfl
    rw [e]
    refine ⟨?_, ?_, ?_⟩
    · rw [← i1]; exact b1
    · have : (Cm.play0 p tb r).1.2 + 1 + 1 ≤ (Cm.playE p act tb r).1.2 := b2
      omega
    · have : (Cm.playE p act tb r).1.2 ≤ (Cm.play0 p tb r).1.2 + 1 + 1 + 20 * (Cm.playN p tb r : Int) := b3
      omega
theorem sh_plays2 : ∀ (l : List Cm.A) (s : Cm.Ho × Cm.Pg), Cm.shH s.1 → keeps s.1 (Cm.plays2 l s).1
  | [], s, hs => ⟨hs, rfl⟩
  | a :: l, s, hs => by
    rw [Cm.plays2]
    obtain ⟨x, y⟩ := sh_doH hs a
    obtain ⟨u, v⟩ := sh_plays2 l ((Cm.doH s.1 a).1, s.2 ++ [(Cm.doH s.1 a).2]) x
    exact ⟨u, by rw [v]; exact y⟩
theorem sh_hPlay {n : Int} {l : List Cm.A} (hn : 1 ≤ n ∧ n ≤ 2) (hl : l.length ≤ 60) : Cm.shH (Cm.hPlay n l).1 ∧ ((Cm.hPlay n l).1.2.1.length : Int) = n := by
  have hw : (Cm.hNew n).2 = true := by unfold Cm.hNew; rw [if_pos (within_iff.mpr hn)]
  obtain ⟨a, b, _⟩ := sh_hNew hw
  have e : Cm.hPlay n l = Cm.plays2 l ((Cm.hNew n).1, []) := by unfold Cm.hPlay; rw [if_neg (by rw [hw]; simp; omega)]
  rw [e]
  obtain ⟨u, v⟩ := sh_plays2 l ((Cm.hNew n).1, []) a
  exact ⟨u, by rw [v]; exact b⟩
theorem bdH_upG {h : Cm.Ho} (hs : Cm.bdH h) {g : Nat} {f : Cm.Gt → Cm.Gt} (hf : g < h.2.1.length → Cm.bdG (Cm.gAt h g) → Cm.bdG (f (Cm.gAt h g))) : Cm.bdH (h.1, Cm.modAt h.2.1 g Cm.g0 f, h.2.2) := by
  refine ⟨hs.1, by rw [Cm.modAt_len]; exact hs.2.1, fun i hi => ?_⟩
  dsimp only at hi ⊢
  rw [Cm.modAt_len] at hi
  rw [modAt_get _ _ _ _ _ hi]
  split
  · rename_i e; subst e; exact hf hi (hs.2.2 g hi)
  · exact hs.2.2 i hi
theorem bd_setrow {m : Cm.Mm} (h : Cm.bd m) (p : Nat) {q : Cm.Pg} (hq : q.length ≤ 1048576) : Cm.bd (m.set p q) := by
  refine ⟨by rw [List.length_set]; exact h.1, fun i hi => ?_⟩
  rw [List.length_set] at hi
  rw [getD_set]; split
  · exact hq
  · exact h.2 i hi
theorem ifb_t {b : Bool} (h : b = true) (P Q : Prop) : ifb b P Q = P := by rw [h]; rfl
theorem ifb_f {b : Bool} (h : b = false) (P Q : Prop) : ifb b P Q = Q := by rw [h]; rfl
/-- What is asked of a host drawn. -/
def HostsOk (F : R → R × Cm.Ho) : Prop := ∀ r, rdOk r 137438953472 → ((F r).1.1 = r.1 ∧ r.2 ≤ (F r).1.2 ∧ (F r).1.2 ≤ r.2 + 1300) ∧ Cm.bdH (F r).2
theorem host_ex {p : R → Int → Int} {pl : R → R × Int × List Cm.A} (hp : PickOk p) (hl : PlOk pl) {r : R} (h : rdOk r 137438953472) :
    ∃ X : R × Cm.Ho, FGA (E_host p pl) Try.f63 (sLHost fun _ => X) [⟨kR, r⟩] no ∧ (X.1.1 = r.1 ∧ r.2 ≤ X.1.2 ∧ X.1.2 ≤ r.2 + 1300) ∧ Cm.bdH X.2 := by
  obtain ⟨a1, a2, a3⟩ := hl.rd r h
  obtain ⟨hs, hn⟩ := sh_hPlay (hl.num r h) (hl.len r h)
  have hlen := hl.len r h
  have hb := shH_bd hs
  obtain ⟨⟨f1, f2⟩, f3, f4⟩ := shH_get hs
  obtain ⟨h1, h2, h3⟩ := h
  simp only [vc_spec_l71Host]
  generalize (pl r).1 = b at *
  generalize (Cm.hPlay (pl r).2.1 (pl r).2.2).1 = H at *
  obtain ⟨B, N⟩ := b
  dsimp only at a1 a2 a3 ⊢
  subst a1
  have q : ∀ n : Int, 0 ≤ n → n ≤ 1099511627776 → rdOk (r.1, n) 1099511627776 := fun n a b => ⟨h1, a, b⟩
  simp only [Cm.inc]
  have hr0 : rdOk r 137438953472 := ⟨h1, h2, h3⟩
  have hr1 : (pl r).2.2.length ≤ 16777216 := by omega
  have gg := hp (r.1, N + 1) (H.2.1.length : Int) (q _ (by omega) (by omega)) (by omega)
  have pp := hp (r.1, N + 1 + 1) 6 (q _ (by omega) (by omega)) (by omega)
  have k9 := hp (r.1, N + 1 + 1 + 1) 9 (q _ (by omega) (by omega)) (by omega)
  have p2 := hp (r.1, N + 1 + 1 + 1 + 1) 2 (q _ (by omega) (by omega)) (by omega)
  generalize p (r.1, N + 1) (H.2.1.length : Int) = g at *
  generalize p (r.1, N + 1 + 1) 6 = i at *
  have hgn : g.toNat < H.2.1.length := by omega
  obtain ⟨l1, l2, l3⟩ := szOk_get (hs.2 _ hgn).1
  have l4 := Cm.okG_len l3
  have l5 := Cm.okG_row l3 (i := i.toNat) (by omega)
  have b0 : rdOk (r.1, N) 1099511627776 ∧ rdOk (r.1, N + 1) 1099511627776 ∧ rdOk (r.1, N + 1 + 1) 1099511627776 ∧ rdOk (r.1, N + 1 + 1 + 1) 1099511627776 ∧ rdOk (r.1, N + 1 + 1 + 1 + 1) 1099511627776 ∧ rdOk (r.1, N + 1 + 1 + 1 + 1 + 1) 1099511627776 ∧ rdOk (r.1, N + 1 + 1 + 1 + 1 + 1 + 1) 1099511627776 :=
    ⟨q _ (by omega) (by omega), q _ (by omega) (by omega), q _ (by omega) (by omega), q _ (by omega) (by omega), q _ (by omega) (by omega), q _ (by omega) (by omega), q _ (by omega) (by omega)⟩
  simp only [hr0, hr1, b0, true_and, and_true]
  by_cases c : p (r.1, N) 16 > 0
  · simp only [ifb_t (decide_eq_true c)]
    exact ⟨(_, _), ⟨rfl, rfl⟩, ⟨rfl, by dsimp only; omega, by dsimp only; omega⟩, hb⟩
  · simp only [ifb_f (decide_eq_false c)]
    have hG : (0 ≤ g ∧ g < (H.2.1.length : Int)) = True := by simp; omega
    have hP1 : (0 ≤ i ∧ i < ((List.getD H.2.1 g.toNat Cm.g0).1.length : Int)) = True := by rw [l1]; simp; omega
    have hP2 : (0 ≤ i ∧ i < ((List.getD H.2.1 g.toNat Cm.g0).2.1.length : Int)) = True := by rw [l4]; simp; omega
    have hP3 : (0 ≤ i ∧ i < ((List.getD H.2.1 g.toNat Cm.g0).2.2.length : Int)) = True := by rw [l2]; simp; omega
    have hD : (0 ≤ (0 : Int) ∧ (0 : Int) < ((List.getD (List.getD H.2.1 g.toNat Cm.g0).2.1 i.toNat []).length : Int)) = True := by rw [l5]; simp
    have hT : (0 ≤ p (r.1, N + 1 + 1 + 1 + 1) 2 ∧ p (r.1, N + 1 + 1 + 1 + 1) 2 < ((2 : Nat) : Int)) = True := by simp; omega
    have h0 : (0 ≤ (0 : Int) ∧ (0 : Int) < (H.2.1.length : Int)) = True := by simp; omega
    simp only [hG, hP1, hP2, hP3, hD, hT, h0, eq_self, true_and, and_true]
    generalize p (r.1, N + 1 + 1 + 1) 9 = k at *
    have hk : k = 0 ∨ k = 1 ∨ k = 2 ∨ k = 3 ∨ k = 4 ∨ k = 5 ∨ k = 6 ∨ k = 7 ∨ k = 8 := by omega
    rcases hk with rfl | rfl | rfl | rfl | rfl | rfl | rfl | rfl | rfl
    all_goals simp only [Int.reduceBEq, ifb]
    · exact ⟨(_, _), ⟨rfl, rfl⟩, ⟨rfl, by dsimp only; omega, by dsimp only; omega⟩, hb⟩
    · refine ⟨(_, _), ⟨⟨by omega, by omega, by omega⟩, rfl, rfl⟩, ⟨rfl, by dsimp only; omega, by dsimp only; omega⟩, ⟨?_, fun j hj => ?_⟩, hb.2⟩
      · dsimp only; rw [List.length_drop]; omega
      · dsimp only at hj ⊢
        rw [List.length_drop] at hj
        rw [show (List.drop 1 H.1).getD j [] = H.1.getD (j + 1) [] by simp [List.getD_eq_getElem?_getD]]
        exact hb.1.2 _ (by omega)
    · exact ⟨(_, _), ⟨rfl, rfl⟩, ⟨rfl, by dsimp only; omega, by dsimp only; omega⟩, bdH_upG hb fun _ hx => ⟨by rw [Cm.modAt_len]; exact hx.1, hx.2⟩⟩
    · exact ⟨(_, _), ⟨rfl, rfl⟩, ⟨rfl, by dsimp only; omega, by dsimp only; omega⟩, bdH_upG hb fun _ hx => ⟨by rw [Cm.modAt_len]; exact hx.1, hx.2⟩⟩
    · exact ⟨(_, _), ⟨rfl, rfl⟩, ⟨rfl, by dsimp only; omega, by dsimp only; omega⟩, bdH_upG hb fun _ hx => ⟨by rw [Cm.modAt_len]; exact hx.1, hx.2⟩⟩
    · refine ⟨(_, _), ⟨rfl, rfl⟩, ⟨rfl, by dsimp only; omega, by dsimp only; omega⟩, bdH_upG hb fun _ hx => ⟨hx.1, bd_setrow hx.2.1 _ ?_, hx.2.2⟩⟩
      rw [List.length_set]; unfold Cm.gAt; omega
    · exact ⟨(_, _), ⟨rfl, rfl⟩, ⟨rfl, by dsimp only; omega, by dsimp only; omega⟩, bdH_upG hb fun _ hx => ⟨hx.1, hx.2.1, by rw [List.length_set]; exact hx.2.2⟩⟩
    · refine ⟨(_, _), ⟨by omega, rfl, rfl⟩, ⟨rfl, by dsimp only; omega, by dsimp only; omega⟩, hb.1, ?_, fun j hj => ?_⟩
      · dsimp only; rw [show ∀ x y : List Cm.Gt, List.append x y = x ++ y from fun _ _ => rfl, List.length_append]; simp; omega
      · dsimp only at hj ⊢
        rw [show ∀ x y : List Cm.Gt, List.append x y = x ++ y from fun _ _ => rfl] at hj ⊢
        have hz := hb.2.2 0 (by omega)
        by_cases c : j < H.2.1.length
        · rw [List.getD_eq_getElem?_getD, List.getElem?_append_left c, ← List.getD_eq_getElem?_getD]; exact hb.2.2 j c
        · rw [List.getD_eq_getElem?_getD, List.getElem?_append_right (by omega)]
          rw [List.length_append] at hj
          have : j - H.2.1.length = 0 ∨ j - H.2.1.length = 1 := by simp at hj; omega
          rcases this with e | e <;> rw [e] <;> exact hz
    · refine ⟨(_, _), ⟨⟨by omega, by omega, by omega⟩, rfl, rfl⟩, ⟨rfl, by dsimp only; omega, by dsimp only; omega⟩, bdH_upG hb fun _ hx => ⟨hx.1, hx.2.1, ?_⟩⟩
      rw [List.length_drop]; have := hx.2.2; omega
open Classical in
noncomputable def hostF (p : R → Int → Int) (pl : R → R × Int × List Cm.A) (r : R) : R × Cm.Ho := if h : PickOk p ∧ PlOk pl ∧ rdOk r 137438953472 then (host_ex h.1 h.2.1 h.2.2).choose else (r, Cm.h0)
theorem hostF_ok {p : R → Int → Int} {pl : R → R × Int × List Cm.A} (hp : PickOk p) (hl : PlOk pl) {r : R} (h : rdOk r 137438953472) :
    FGA (E_host p pl) Try.f63 (sLHost fun _ => hostF p pl r) [⟨kR, r⟩] no ∧ ((hostF p pl r).1.1 = r.1 ∧ r.2 ≤ (hostF p pl r).1.2 ∧ (hostF p pl r).1.2 ≤ r.2 + 1300) ∧ Cm.bdH (hostF p pl r).2 := by
  unfold hostF; rw [dif_pos ⟨hp, hl, h⟩]; exact (host_ex hp hl h).choose_spec
theorem hostF_good {p : R → Int → Int} {pl : R → R × Int × List Cm.A} (hp : PickOk p) (hl : PlOk pl) : HostsOk (hostF p pl) := fun _ h => (hostF_ok hp hl h).2
theorem ok_spec_l71Host {p : R → Int → Int} {pl : R → R × Int × List Cm.A} (hp : PickOk p) (hl : PlOk pl) : FOk (E_host p pl) Try.f63 (sLHost (hostF p pl)) := FOk.of1 fun (r : R) h =>
  FGA.fg (an := no) (((vc_spec_l71Host p pl (hostF p pl) r).trans (vc_spec_l71Host p pl (fun _ => hostF p pl r) r).symm).mpr (hostF_ok hp hl h).1)
end Go.Proofs.Ytkcpacgnejlpbaa.T
open Go Go.Am Go.Proofs
open Go.Cm (R rdOk)
namespace Go.Proofs.Ytkcpacgnejlpbaa.T
set_option maxRecDepth 10000
theorem useM_two {f : Int} : ∀ {l : List Cm.E} {i j : Nat}, i < j → j < l.length → ((l.getD i Cm.e0).1 = true ∧ (l.getD i Cm.e0).2.1 = f) → ((l.getD j Cm.e0).1 = true ∧ (l.getD j Cm.e0).2.1 = f) → 2 ≤ Cm.useM f l
  | [], _, _, _, h, _, _ => by simp at h
  | m :: l, 0, 0, h, _, _, _ => by omega
  | m :: l, 0, j + 1, _, hj, ⟨a, b⟩, ⟨c, d⟩ => by
    have h1 : m.1 = true := a
    have h2 : m.2.1 = f := b
    have := Cm.useM_pos (l := l) (i := j) (by simpa using hj) c d
    rw [Cm.useM, if_pos ⟨h1, h2⟩]; omega
  | m :: l, i + 1, 0, h, _, _, _ => by omega
  | m :: l, i + 1, j + 1, h, hj, a, c => by
    have := useM_two (l := l) (i := i) (j := j) (by omega) (by simpa using hj) a c
    rw [Cm.useM]; split <;> omega
theorem useG_get {f : Int} : ∀ {l : List Cm.Gt} {i : Nat}, i < l.length → Cm.useM f (l.getD i Cm.g0).1 ≤ Cm.useG f l
  | [], i, h => by simp at h
  | g :: l, 0, _ => by have := Cm.useG_nn f l; rw [Cm.useG]; show Cm.useM f g.1 ≤ _; omega
  | g :: l, i + 1, h => by
    have := useG_get (f := f) (l := l) (i := i) (by simpa using h)
    have := Cm.useM_nn f g.1
    rw [Cm.useG]; show Cm.useM f (l.getD i Cm.g0).1 ≤ _; omega
theorem useG_two {f : Int} : ∀ {l : List Cm.Gt} {i j : Nat}, i < j → j < l.length → 1 ≤ Cm.useM f (l.getD i Cm.g0).1 → 1 ≤ Cm.useM f (l.getD j Cm.g0).1 → 2 ≤ Cm.useG f l
  | [], _, _, _, h, _, _ => by simp at h
  | g :: l, 0, 0, h, _, _, _ => by omega
  | g :: l, 0, j + 1, _, hj, a, c => by
    have a : 1 ≤ Cm.useM f g.1 := a
    have := Cm.useG_pos (l := l) (i := j) (by simpa using hj) c
    rw [Cm.useG]; omega
  | g :: l, i + 1, 0, h, _, _, _ => by omega
  | g :: l, i + 1, j + 1, h, hj, a, c => by
    have := useG_two (l := l) (i := i) (j := j) (by omega) (by simpa using hj) a c
    have := Cm.useM_nn f g.1
    rw [Cm.useG]; omega
/-- Two pages in one frame are two users. -/
theorem users_two {h : Cm.Ho} {f : Int} {g p k q : Nat} (hg : g < h.2.1.length) (hk : k < h.2.1.length) (hp : p < (Cm.gAt h g).1.length) (hq : q < (Cm.gAt h k).1.length)
    (a : (Cm.mAt h g p).1 = true ∧ (Cm.mAt h g p).2.1 = f) (b : (Cm.mAt h k q).1 = true ∧ (Cm.mAt h k q).2.1 = f) (ne : g ≠ k ∨ p ≠ q) : 2 ≤ Cm.users h f := by
  by_cases e : g = k
  · subst e
    have ne : p ≠ q := by omega
    have : 2 ≤ Cm.useM f (Cm.gAt h g).1 := by
      rcases Nat.lt_or_gt_of_ne ne with c | c
      · exact useM_two c hq a b
      · exact useM_two c hp b a
    exact Int.le_trans this (useG_get hg)
  · have x := Cm.useM_pos (f := f) hp a.1 a.2
    have y := Cm.useM_pos (f := f) hq b.1 b.2
    rcases Nat.lt_or_gt_of_ne e with c | c
    · exact useG_two c hk x y
    · exact useG_two c hg y x
end Go.Proofs.Ytkcpacgnejlpbaa.T
open Go Go.Am Go.Proofs
open Go.Cm (R rdOk)
namespace Go.Proofs.Ytkcpacgnejlpbaa.T
set_option maxRecDepth 10000
end Go.Proofs.Ytkcpacgnejlpbaa.T
open Go Go.Am Go.Proofs
open Go.Cm (R rdOk)
namespace Go.Proofs.Ytkcpacgnejlpbaa.T
set_option maxRecDepth 10000
end Go.Proofs.Ytkcpacgnejlpbaa.T
open Go Go.Am Go.Proofs
open Go.Cm (R rdOk)
namespace Go.Proofs.Ytkcpacgnejlpbaa.T
set_option maxRecDepth 10000
set_option maxHeartbeats 0
end Go.Proofs.Ytkcpacgnejlpbaa.T
open Go Go.Am Go.Proofs
open Go.Cm (R rdOk)
namespace Go.Proofs.Ytkcpacgnejlpbaa.T
set_option maxRecDepth 10000
set_option maxHeartbeats 0
end Go.Proofs.Ytkcpacgnejlpbaa.T
open Go Go.Am Go.Proofs
open Go.Cm (R rdOk)
namespace Go.Proofs.Ytkcpacgnejlpbaa.T
set_option maxRecDepth 10000
set_option maxHeartbeats 0
end Go.Proofs.Ytkcpacgnejlpbaa.T
open Go Go.Am Go.Proofs
open Go.Cm (R rdOk)
namespace Go.Proofs.Ytkcpacgnejlpbaa.T
set_option maxRecDepth 10000
set_option maxHeartbeats 0
end Go.Proofs.Ytkcpacgnejlpbaa.T
open Go Go.Am Go.Proofs
open Go.Cm (R rdOk)
namespace Go.Proofs.Ytkcpacgnejlpbaa.T
set_option maxRecDepth 10000
theorem kn_spec_l13Forget : Known Try.prog 138 sForgetPT := known_of tabOk (kn0) mixed Try.func138 (by kernel_rfl) ok_spec_l13Forget
theorem kn_spec_l13Out : Known Try.prog 126 sOutT := known_of tabOk (AllK.cons (AllK.cons kn0 kn_spec_l13Forget) kn_spec_l12Page) mixed Try.func126 (by kernel_rfl) ok_spec_l13Out
theorem kn_spec_l13Clear : Known Try.prog 124 sClearT := known_of tabOk (AllK.cons kn0 kn_spec_l13Out) mixed Try.func124 (by kernel_rfl) ok_spec_l13Clear
theorem kn_spec_l13First : Known Try.prog 123 sFirst := known_of tabOk (AllK.cons kn0 kn_spec_l12Users) mixed Try.func123 (by kernel_rfl) ok_spec_l13First
theorem kn_spec_l13In : Known Try.prog 86 sInT := known_of tabOk (AllK.cons (AllK.cons (AllK.cons kn0 kn_spec_l2Page) kn_spec_l13Clear) kn_spec_l13First) mixed Try.func86 (by kernel_rfl) ok_spec_l13In
theorem kn_spec_l13Own : Known Try.prog 89 sOwnT := known_of tabOk (AllK.cons (AllK.cons (AllK.cons kn0 kn_spec_l13Out) kn_spec_l12Users) kn_spec_l13In) mixed Try.func89 (by kernel_rfl) ok_spec_l13Own
theorem kn_spec_l14Read : Known Try.prog 127 sReadT := known_of tabOk (AllK.cons kn0 kn_spec_l13In) mixed Try.func127 (by kernel_rfl) ok_spec_l14Read
theorem kn_spec_l14Write : Known Try.prog 91 sWriteT := known_of tabOk (AllK.cons kn0 kn_spec_l13Own) mixed Try.func91 (by kernel_rfl) ok_spec_l14Write
theorem kn_spec_l14Walk : Known Try.prog 94 sWalkT := known_of tabOk (AllK.cons (AllK.cons kn0 kn_spec_EntryOf) kn_spec_l14Read) mixed Try.func94 (by kernel_rfl) ok_spec_l14Walk
theorem kn_spec_l14ReadIn : Known Try.prog 45 sReadInT := known_of tabOk (AllK.cons (AllK.cons kn0 kn_spec_l14Walk) kn_spec_l13In) mixed Try.func45 (by kernel_rfl) ok_spec_l14ReadIn
theorem kn_spec_l14WriteIn : Known Try.prog 157 sWriteInT := known_of tabOk (AllK.cons (AllK.cons kn0 kn_spec_l14Walk) kn_spec_l13Own) mixed Try.func157 (by kernel_rfl) ok_spec_l14WriteIn
theorem kn_spec_l13Share : Known Try.prog 112 sShareT := known_of tabOk (AllK.cons kn0 kn_spec_l13Forget) mixed Try.func112 (by kernel_rfl) ok_spec_l13Share
theorem kn_spec_l13Same : Known Try.prog 111 sSame := known_of tabOk (kn0) mixed Try.func111 (by kernel_rfl) ok_spec_l13Same
theorem kn_spec_l13Join : Known Try.prog 76 sJoinT := known_of tabOk (AllK.cons (AllK.cons (AllK.cons kn0 kn_spec_l13Share) kn_spec_l13Same) kn_spec_l12Users) mixed Try.func76 (by kernel_rfl) ok_spec_l13Join
theorem kn_spec_l13Move : Known Try.prog 147 sMoveT := known_of tabOk (AllK.cons (AllK.cons (AllK.cons kn0 kn_spec_l13Forget) kn_spec_l13First) kn_spec_l12Users) mixed Try.func147 (by kernel_rfl) ok_spec_l13Move
theorem kn_spec_l12New : Known Try.prog 143 sHNew0 := known_of tabOk (AllK.cons kn0 kn_spec_l2Page) mixed Try.func143 (by kernel_rfl) ok_spec_l12New
theorem kn_spec_l12Guest : Known Try.prog 144 sGuestN := known_of tabOk (AllK.cons kn0 kn_spec_l2Copy) mixed Try.func144 (by kernel_rfl) ok_spec_l12Guest
theorem kn_spec_HostNew : Known Try.prog 132 sHostNew := known_of tabOk (AllK.cons (AllK.cons (AllK.cons (AllK.cons kn0 kn_spec_MemNew) kn_spec_l12Guest) kn_spec_l12New) kn_107) mixed Try.func132 (by kernel_rfl) ok_spec_HostNew
theorem kn_spec_l21Carry : Known Try.prog 148 sCarryS := known_of tabOk (AllK.cons (AllK.cons (AllK.cons kn0 kn_spec_l12Guest) kn_spec_l12New) kn_spec_l12See) mixed Try.func148 (by kernel_rfl) ok_spec_l21Carry
theorem kn_spec_l21Got : Known Try.prog 146 sGot := known_of tabOk (kn0) mixed Try.func146 (by kernel_rfl) ok_spec_l21Got
theorem kn_spec_l21Guest : Known Try.prog 150 sDoG := known_of tabOk (AllK.cons (AllK.cons (AllK.cons (AllK.cons (AllK.cons (AllK.cons kn0 kn_spec_l14WriteIn) kn_spec_l14Forget) kn_spec_l14Read) kn_spec_l14Write) kn_107) kn_spec_l14ReadIn) mixed Try.func150 (by kernel_rfl) ok_spec_l21Guest
theorem kn_spec_l21Do : Known Try.prog 133 sDoH := known_of tabOk (AllK.cons (AllK.cons (AllK.cons (AllK.cons (AllK.cons (AllK.cons (AllK.cons (AllK.cons kn0 kn_spec_l21Guest) kn_104) kn_spec_l21Carry) kn_spec_l13Move) kn_spec_l21Got) kn_spec_l13Out) kn_spec_l13Join) kn_107) mixed Try.func133 (by kernel_rfl) ok_spec_l21Do
theorem kn_spec_HostPlay : Known Try.prog 101 sHPlay := known_of tabOk (AllK.cons (AllK.cons kn0 kn_spec_l21Do) kn_spec_HostNew) mixed Try.func101 (by kernel_rfl) ok_spec_HostPlay
noncomputable abbrev plF : R → R × Int × List Cm.A := Cm.playM pickF (actF pickF) fun r g => Cm.tabGo pickF g 6 0 (r, [])
theorem plF_good : PlOk plF := play_good pickF_good (act_good pickF_good) (tabs_good _)
noncomputable abbrev hoF : R → R × Cm.Ho := hostF pickF plF
theorem hoF_good : HostsOk hoF := hostF_good pickF_good plF_good
theorem kn_host : Known Try.prog 63 (sLHost hoF) := known_of tabOk (AllK.cons (AllK.cons (AllK.cons kn0 kn_spec_HostPlay) kn_70) kn_105) mixed Try.func63 (by kernel_rfl) (ok_spec_l71Host pickF_good plF_good)
end Go.Proofs.Ytkcpacgnejlpbaa.T
open Go Go.Am Go.Proofs
open Go.Cm (R rdOk)
namespace Go.Proofs.Ytkcpacgnejlpbaa.T
set_option maxRecDepth 10000
set_option maxHeartbeats 0
theorem alone_one {h : Cm.Ho} (e : Cm.hOk h = true) {g p k q : Nat} (hg : g < h.2.1.length) (hp : p < 6) (hk : k < h.2.1.length) (hq : q < 6)
    (a : (Cm.mAt h g p).1 = true) (b : (Cm.mAt h k q).1 = true) (w : (Cm.mAt h g p).2.2 = true) (f : (Cm.mAt h g p).2.1 = (Cm.mAt h k q).2.1) : g = k ∧ p = q := by
  obtain ⟨_, h5⟩ := hOk_get e
  obtain ⟨⟨g1, g2, g3⟩, g4, _⟩ := gOk_get (h5 g hg)
  obtain ⟨⟨k1, _, _⟩, _⟩ := gOk_get (h5 k hk)
  have m := mapsOk_get g4 p (by omega)
  unfold Cm.mapOk at m
  rw [if_neg (by rw [show (List.getD (List.getD h.2.1 g Cm.g0).1 p Cm.e0).1 = true from a]; simp), Bool.and_eq_true, show (List.getD (List.getD h.2.1 g Cm.g0).1 p Cm.e0).2.2 = true from w] at m
  have m2 := m.2
  rw [Bool.not_true, Bool.false_or, decide_eq_true_eq] at m2
  have u : Cm.users h (Cm.mAt h g p).2.1 ≤ 1 := m2
  by_cases c : g = k ∧ p = q
  · exact c
  · have := users_two hg hk (f := (Cm.mAt h g p).2.1) (show p < (Cm.gAt h g).1.length by unfold Cm.gAt; omega) (show q < (Cm.gAt h k).1.length by unfold Cm.gAt; omega) ⟨a, rfl⟩ ⟨b, f.symm⟩ (by omega)
    omega
theorem shade_to {h : Cm.Ho} (e : Cm.hOk h = true) {g i : Nat} (hg : g < h.2.1.length) (hi : i < 6) (a : (Cm.sAt h g i).1 = true) :
    (2 ≤ (Cm.sAt h g i).2.1 ∧ (Cm.sAt h g i).2.1 ≤ 5) ∧ (Cm.mAt h g (Cm.sAt h g i).2.1.toNat).1 = true ∧ (Cm.mAt h g (Cm.sAt h g i).2.1.toNat).2.1 = (Cm.sAt h g i).2.2.1 ∧ ((Cm.sAt h g i).2.2.2 = true → (Cm.mAt h g (Cm.sAt h g i).2.1.toNat).2.2 = true) := by
  obtain ⟨_, h5⟩ := hOk_get e
  obtain ⟨⟨g1, g2, g3⟩, _, g5⟩ := gOk_get (h5 g hg)
  have m := shsOk_get g5 i (by omega)
  unfold Cm.shOk at m
  have a' : (List.getD (List.getD h.2.1 g Cm.g0).2.2 i Cm.s0).1 = true := a
  rw [if_neg (by rw [a']; simp), Bool.and_eq_true, Bool.and_eq_true, Bool.and_eq_true] at m
  obtain ⟨m1, ⟨m2, m3⟩, m4⟩ := m
  rw [decide_eq_true_eq] at m3
  refine ⟨within_iff.mp m1, m2, m3, fun w => ?_⟩
  have w' : (List.getD (List.getD h.2.1 g Cm.g0).2.2 i Cm.s0).2.2.2 = true := w
  rw [w', Bool.not_true, Bool.false_or] at m4
  exact m4
end Go.Proofs.Ytkcpacgnejlpbaa.T
open Go Go.Am Go.Proofs
open Go.Cm (R rdOk)
namespace Go.Proofs.Ytkcpacgnejlpbaa.T
set_option maxRecDepth 10000
set_option maxHeartbeats 0
def frac (n k : Int) : Int := IntKind.wrap .i64 (IntKind.wrap .i64 (Int.tdiv n 23) * k)
def whoF (p : R → Int → Int) (r : R) (h : Cm.Ho) : R × Int := ((r.1, Cm.inc (Cm.inc (Cm.inc r.2))),
  IntKind.wrap .i64 (IntKind.wrap .i64 (p r (h.2.1.length : Int) + frac (p (r.1, Cm.inc r.2) 24) 3) - IntKind.wrap .i64 (Int.tdiv (p (r.1, Cm.inc (Cm.inc r.2)) 24) 23)))
theorem rd_inc {r : R} {m n : Int} (h : rdOk r m) (hm : m + 1 ≤ n) : rdOk (r.1, Cm.inc r.2) n := ⟨h.1, by have := h.2; show 0 ≤ r.2 + 1; omega, by have := h.2; show r.2 + 1 ≤ n; omega⟩
theorem rd_le {r : R} {m n : Int} (h : rdOk r m) (hm : m ≤ n) : rdOk r n := ⟨h.1, h.2.1, by have := h.2.2; omega⟩
theorem ok_who (p : R → Int → Int) : FOk (Ep p) Try.f64 (sWho (whoF p)) := FOk.of2 fun (r : R) (h : Cm.Ho) hn => FGA.fg (an := no) ((vc_who p (whoF p) r h).mpr (by
  obtain ⟨hr, hb⟩ := (show rdOk r 274877906944 ∧ Cm.bdH h from hn)
  have h1 : rdOk (r.1, Cm.inc r.2) 274877906945 := rd_inc hr (by omega)
  exact ⟨rd_le hr (by omega), rd_le h1 (by omega), by decide, rd_inc h1 (by omega), by decide, rfl, rfl, trivial⟩))
theorem host_rd {F : R → R × Cm.Ho} (hF : HostsOk F) {b : List Int} (hb : Cm.bytes b) : rdOk (Cm.cut2 b, 0) 137438953472 ∧ rdOk (F (Cm.cut2 b, 0)).1 137438954772 ∧ Cm.bdH (F (Cm.cut2 b, 0)).2 := by
  have h0 : rdOk (Cm.cut2 b, 0) 137438953472 := cut2_ok hb (by decide)
  obtain ⟨⟨a, c, d⟩, e⟩ := hF _ h0
  have h01 := h0.1; have h02 := h0.2
  exact ⟨h0, ⟨by rw [a]; exact h01, by omega, by dsimp only at h02 d ⊢; omega⟩, e⟩
def dseeF (F : R → R × Cm.Ho) (W : R → Cm.Ho → R × Int) (b : List Int) : Cm.Ho × Int := ((F (Cm.cut2 b, 0)).2, (W (F (Cm.cut2 b, 0)).1 (F (Cm.cut2 b, 0)).2).2)
theorem ok_dsee {F : R → R × Cm.Ho} (hF : HostsOk F) {W : R → Cm.Ho → R × Int} : FOk (E_dsee F W) Try.f20 (sD1 (dseeF F W)) := FOk.of1 fun (b : List Int) hn => FGA.fg (an := no) ((vc_dsee F W (dseeF F W) b).mpr (by
  obtain ⟨h0, h1, h2⟩ := host_rd hF (show Cm.bytes b from hn)
  exact ⟨trivial, h0, ⟨rd_le h1 (by omega), h2⟩, rfl, rfl, trivial⟩))
noncomputable abbrev whF := whoF pickF
noncomputable abbrev dSee : Cm.D1 := dseeF hoF whF
theorem kn_who : Known Try.prog 64 (sWho whF) := known_of tabOk (AllK.cons kn0 kn_105) mixed Try.func64 (by kernel_rfl) (ok_who pickF)
theorem kn_dsee : Known Try.prog 20 (sD1 dSee) := known_of tabOk (AllK.cons (AllK.cons (AllK.cons kn0 kn_who) kn_host) kn_69) mixed Try.func20 (by kernel_rfl) (ok_dsee hoF_good)
theorem dsee_bd {b : List Int} (hb : Cm.bytes b) : Cm.bdH (dSee b).1 := (host_rd hoF_good hb).2.2
end Go.Proofs.Ytkcpacgnejlpbaa.T
open Go Go.Am Go.Proofs
open Go.Cm (R rdOk)
namespace Go.Proofs.Ytkcpacgnejlpbaa.T
set_option maxRecDepth 10000
set_option maxHeartbeats 0
def dAt (h : Cm.Ho) (g p : Nat) : Cm.Pg := List.getD (Cm.gAt h g).2.1 p []
def EOk (h : Cm.Ho) (g p : Nat) : Prop := ((Cm.mAt h g p).1 = false → Cm.mAt h g p = Cm.e0) ∧
  ((Cm.mAt h g p).1 = true → (0 ≤ (Cm.mAt h g p).2.1 ∧ (Cm.mAt h g p).2.1 ≤ 7) ∧ Cm.blank (dAt h g p) = true ∧
    ((Cm.mAt h g p).2.2 = true → ∀ k q, k < h.2.1.length → q < 6 → (Cm.mAt h k q).1 = true → (Cm.mAt h k q).2.1 = (Cm.mAt h g p).2.1 → k = g ∧ q = p))
def SOk (h : Cm.Ho) (g i : Nat) : Prop := ((Cm.sAt h g i).1 = false → Cm.sAt h g i = Cm.s0) ∧
  ((Cm.sAt h g i).1 = true → (2 ≤ (Cm.sAt h g i).2.1 ∧ (Cm.sAt h g i).2.1 ≤ 5) ∧ (Cm.mAt h g (Cm.sAt h g i).2.1.toNat).1 = true ∧ (Cm.mAt h g (Cm.sAt h g i).2.1.toNat).2.1 = (Cm.sAt h g i).2.2.1 ∧
    ((Cm.sAt h g i).2.2.2 = true → (Cm.mAt h g (Cm.sAt h g i).2.1.toNat).2.2 = true))
structure Ok (h : Cm.Ho) : Prop where
  sh : Cm.shH h
  e : ∀ g p, g < h.2.1.length → p < 6 → EOk h g p
  s : ∀ g i, g < h.2.1.length → i < 6 → SOk h g i
theorem useM_zero {f : Int} : ∀ {l : List Cm.E}, (∀ i, i < l.length → ¬ ((l.getD i Cm.e0).1 = true ∧ (l.getD i Cm.e0).2.1 = f)) → Cm.useM f l = 0
  | [], _ => rfl
  | m :: l, h => by
    have h0 := h 0 (by simp)
    rw [Cm.useM, if_neg (show ¬ (m.1 = true ∧ m.2.1 = f) from h0), useM_zero fun i hi => h (i + 1) (by simpa using hi)]; rfl
theorem useM_one {f : Int} : ∀ {l : List Cm.E}, (∀ i j, i < l.length → j < l.length → ((l.getD i Cm.e0).1 = true ∧ (l.getD i Cm.e0).2.1 = f) → ((l.getD j Cm.e0).1 = true ∧ (l.getD j Cm.e0).2.1 = f) → i = j) → Cm.useM f l ≤ 1
  | [], _ => by simp [Cm.useM]
  | m :: l, h => by
    rw [Cm.useM]
    by_cases c : m.1 = true ∧ m.2.1 = f
    · rw [if_pos c, useM_zero fun i hi d => ?_]
      · omega
      · have := h 0 (i + 1) (by simp) (by simpa using hi) c d; omega
    · rw [if_neg c]
      have := useM_one (f := f) (l := l) fun i j hi hj a b => by have := h (i + 1) (j + 1) (by simpa using hi) (by simpa using hj) a b; omega
      omega
theorem useG_zero {f : Int} : ∀ {l : List Cm.Gt}, (∀ i, i < l.length → Cm.useM f (l.getD i Cm.g0).1 = 0) → Cm.useG f l = 0
  | [], _ => rfl
  | g :: l, h => by
    have h0 := h 0 (by simp)
    rw [Cm.useG, show Cm.useM f g.1 = 0 from h0, useG_zero fun i hi => h (i + 1) (by simpa using hi)]; rfl
theorem useG_one {f : Int} : ∀ {l : List Cm.Gt} (g : Nat), (∀ i, i < l.length → i ≠ g → Cm.useM f (l.getD i Cm.g0).1 = 0) → Cm.useM f (l.getD g Cm.g0).1 ≤ 1 → Cm.useG f l ≤ 1
  | [], _, _, _ => by simp [Cm.useG]
  | x :: l, 0, h, h1 => by
    rw [Cm.useG, useG_zero fun i hi => h (i + 1) (by simpa using hi) (by omega)]
    have h1 : Cm.useM f x.1 ≤ 1 := h1
    omega
  | x :: l, g + 1, h, h1 => by
    have h0 : Cm.useM f x.1 = 0 := h 0 (by simp) (by omega)
    have := useG_one (f := f) (l := l) g (fun i hi hg => h (i + 1) (by simpa using hi) (by omega)) h1
    rw [Cm.useG, h0]; omega
theorem gAt_len {h : Cm.Ho} (hs : Cm.shH h) {g : Nat} (hg : g < h.2.1.length) : (Cm.gAt h g).1.length = 6 ∧ (Cm.gAt h g).2.1.length = 6 ∧ (Cm.gAt h g).2.2.length = 6 := by
  obtain ⟨l1, l2, l3⟩ := szOk_get (hs.2 g hg).1
  exact ⟨l1, Cm.okG_len l3, l2⟩
theorem users_one {h : Cm.Ho} (hs : Cm.shH h) {f : Int} {g p : Nat} (c : ∀ k q, k < h.2.1.length → q < 6 → (Cm.mAt h k q).1 = true → (Cm.mAt h k q).2.1 = f → k = g ∧ q = p) : Cm.users h f ≤ 1 := by
  refine useG_one g (fun k hk ne => useM_zero fun q hq d => ?_) ?_
  · have := (gAt_len hs hk).1
    unfold Cm.gAt at this
    exact ne (c k q hk (by omega) d.1 d.2).1
  · by_cases hg : g < h.2.1.length
    · have := (gAt_len hs hg).1
      unfold Cm.gAt at this
      refine useM_one fun i j hi hj a b => ?_
      have x := c g i hg (by omega) a.1 a.2
      have y := c g j hg (by omega) b.1 b.2
      omega
    · rw [List.getD_eq_getElem?_getD, List.getElem?_eq_none (by omega)]; simp [Cm.g0, Cm.useM]
theorem mapsOk_mk {u : Int → Int} : ∀ {l : List Cm.E} {d : Cm.Mm}, (∀ i, i < l.length → Cm.mapOk u (l.getD i Cm.e0) (d.getD i []) = true) → Cm.mapsOk u l d = true
  | [], _, _ => rfl
  | m :: l, [], h => by
    have h0 := h 0 (by simp)
    rw [Cm.mapsOk, show Cm.mapOk u m [] = true from h0, mapsOk_mk fun i hi => by have := h (i + 1) (by simpa using hi); simpa using this]; rfl
  | m :: l, d :: k, h => by
    have h0 := h 0 (by simp)
    rw [Cm.mapsOk, show Cm.mapOk u m d = true from h0, mapsOk_mk fun i hi => h (i + 1) (by simpa using hi)]; rfl
theorem shsOk_mk {ms : List Cm.E} : ∀ {l : List Cm.Sh}, (∀ i, i < l.length → Cm.shOk ms (l.getD i Cm.s0) = true) → Cm.shsOk ms l = true
  | [], _ => rfl
  | s :: l, h => by
    have h0 := h 0 (by simp)
    rw [Cm.shsOk, show Cm.shOk ms s = true from h0, shsOk_mk fun i hi => h (i + 1) (by simpa using hi)]; rfl
theorem gsOk_mk {u : Int → Int} : ∀ {l : List Cm.Gt}, (∀ i, i < l.length → Cm.gOk u (l.getD i Cm.g0) = true) → Cm.gsOk u l = true
  | [], _ => rfl
  | g :: l, h => by
    have h0 := h 0 (by simp)
    rw [Cm.gsOk, show Cm.gOk u g = true from h0, gsOk_mk fun i hi => h (i + 1) (by simpa using hi)]; rfl
theorem eqE_iff {a b : Cm.E} : Cm.eqE a b = true ↔ a = b := by unfold Cm.eqE; simp
theorem eqS_iff {a b : Cm.Sh} : Cm.eqS a b = true ↔ a = b := by unfold Cm.eqS; simp
theorem ok_iff {h : Cm.Ho} : Cm.hOk h = true ↔ Ok h := by
  constructor
  · intro e
    obtain ⟨_, h5⟩ := hOk_get e
    refine ⟨hOk_shH e, fun g p hg hp => ⟨fun a => ?_, fun a => ?_⟩, fun g i hg hi => ⟨fun a => ?_, fun a => shade_to e hg hi a⟩⟩
    · obtain ⟨⟨g1, g2, g3⟩, g4, _⟩ := gOk_get (h5 g hg)
      have m := mapsOk_get g4 p (by omega)
      unfold Cm.mapOk at m
      rw [if_pos (show (List.getD (List.getD h.2.1 g Cm.g0).1 p Cm.e0).1 = false from a)] at m
      exact eqE_iff.mp m
    · obtain ⟨⟨g1, g2, g3⟩, g4, _⟩ := gOk_get (h5 g hg)
      have m := mapsOk_get g4 p (by omega)
      have mi := mapOk_in m a
      unfold Cm.mapOk at m
      rw [if_neg (by rw [show (List.getD (List.getD h.2.1 g Cm.g0).1 p Cm.e0).1 = true from a]; simp), Bool.and_eq_true, Bool.and_eq_true] at m
      exact ⟨mi, m.1.2, fun w k q hk hq b f => by have := alone_one e hg hp hk hq a b w f.symm; omega⟩
    · obtain ⟨⟨g1, g2, g3⟩, _, g5⟩ := gOk_get (h5 g hg)
      have m := shsOk_get g5 i (by omega)
      unfold Cm.shOk at m
      rw [if_pos (show (List.getD (List.getD h.2.1 g Cm.g0).2.2 i Cm.s0).1 = false from a)] at m
      exact eqS_iff.mp m
  · rintro ⟨hs, he, hh⟩
    unfold Cm.hOk
    rw [hs.1, Bool.true_and]
    refine gsOk_mk fun g hg => ?_
    obtain ⟨l1, l2, l3⟩ := gAt_len hs hg
    unfold Cm.gAt at l1 l2 l3
    unfold Cm.gOk
    rw [(hs.2 g hg).1, Bool.true_and, mapsOk_mk fun p hp => ?_, shsOk_mk fun i hi => ?_]
    · rfl
    · obtain ⟨a, b⟩ := hh g i hg (by omega)
      unfold Cm.shOk
      by_cases c : (List.getD (List.getD h.2.1 g Cm.g0).2.2 i Cm.s0).1 = false
      · rw [if_pos c]; exact eqS_iff.mpr (a c)
      · rw [if_neg c]
        obtain ⟨b1, b2, b3, b4⟩ := b (by simpa [Cm.sAt, Cm.gAt] using c)
        simp only [Cm.sAt, Cm.mAt, Cm.gAt] at b1 b2 b3 b4
        rw [within_iff.mpr b1, b2, decide_eq_true b3]
        cases d : (List.getD (List.getD h.2.1 g Cm.g0).2.2 i Cm.s0).2.2.2
        · rfl
        · rw [b4 d]; rfl
    · obtain ⟨a, b⟩ := he g p hg (by omega)
      unfold Cm.mapOk
      by_cases c : (List.getD (List.getD h.2.1 g Cm.g0).1 p Cm.e0).1 = false
      · rw [if_pos c]; exact eqE_iff.mpr (a c)
      · rw [if_neg c]
        obtain ⟨b1, b2, b3⟩ := b (by simpa [Cm.mAt, Cm.gAt] using c)
        unfold dAt Cm.gAt at b2
        have b1' : 0 ≤ (List.getD (List.getD h.2.1 g Cm.g0).1 p Cm.e0).2.1 ∧ (List.getD (List.getD h.2.1 g Cm.g0).1 p Cm.e0).2.1 ≤ 7 := b1
        rw [within_iff.mpr b1', b2]
        cases d : (List.getD (List.getD h.2.1 g Cm.g0).1 p Cm.e0).2.2
        · rfl
        · have := users_one hs (fun k q hk hq x y => b3 d k q hk hq x y)
          rw [decide_eq_true (show Cm.users h (List.getD (List.getD h.2.1 g Cm.g0).1 p Cm.e0).2.1 ≤ 1 from this)]; rfl
end Go.Proofs.Ytkcpacgnejlpbaa.T
open Go Go.Am Go.Proofs
open Go.Cm (R rdOk)
namespace Go.Proofs.Ytkcpacgnejlpbaa.T
set_option maxRecDepth 10000
set_option maxHeartbeats 0
theorem gAt_up {h : Cm.Ho} {g : Nat} {f : Cm.Gt → Cm.Gt} {k : Nat} (hk : k < h.2.1.length) : Cm.gAt (Cm.upG h g f) k = if g = k then f (Cm.gAt h k) else Cm.gAt h k := upG_get h g f hk
def pgA (h : Cm.Ho) (k q : Nat) : Cm.Pg := if (Cm.mAt h k q).1 = true then h.1.getD (Cm.mAt h k q).2.1.toNat [] else dAt h k q
theorem see_ext {h x : Cm.Ho} {k : Nat} (e : ∀ q, q < 6 → pgA h k q = pgA x k q) : Cm.see h (k : Int) = Cm.see x (k : Int) := by
  have a : ∀ y : Cm.Ho, Cm.see y (k : Int) = [pgA y k 0, pgA y k 1, pgA y k 2, pgA y k 3, pgA y k 4, pgA y k 5] := fun y => rfl
  rw [a, a, e 0 (by omega), e 1 (by omega), e 2 (by omega), e 3 (by omega), e 4 (by omega), e 5 (by omega)]
theorem see_get (h : Cm.Ho) (k : Nat) {q : Nat} (hq : q < 6) : (Cm.see h (k : Int)).getD q [] = pgA h k q := by
  have a : Cm.see h (k : Int) = [pgA h k 0, pgA h k 1, pgA h k 2, pgA h k 3, pgA h k 4, pgA h k 5] := rfl
  rw [a]
  have : q = 0 ∨ q = 1 ∨ q = 2 ∨ q = 3 ∨ q = 4 ∨ q = 5 := by omega
  rcases this with rfl | rfl | rfl | rfl | rfl | rfl <;> rfl
/-- Nobody sees a difference. -/
structure Same (h x : Cm.Ho) : Prop where
  len : x.2.1.length = h.2.1.length
  pg : ∀ k q, k < h.2.1.length → q < 6 → pgA x k q = pgA h k q
theorem Same.trans {h x y : Cm.Ho} (a : Same h x) (b : Same x y) : Same h y := ⟨b.len.trans a.len, fun k q hk hq => (b.pg k q (by rw [a.len]; exact hk) hq).trans (a.pg k q hk hq)⟩
theorem hSee_ok {h : Cm.Ho} (o : Ok h) {k : Nat} (hk : k < h.2.1.length) : Cm.hSee h (k : Int) = Cm.see h (k : Int) := by
  unfold Cm.hSee; rw [if_pos ⟨ok_iff.mpr o, within_iff.mpr (by omega)⟩]
section
variable {h : Cm.Ho} (hs : Cm.shH h) {g p : Nat} (hg : g < h.2.1.length) (hp : p < 6)
include hs hg hp
end
theorem s0_ok {P : Prop} : ((Cm.s0 : Cm.Sh).1 = true → P) := fun c => by cases c
end Go.Proofs.Ytkcpacgnejlpbaa.T
open Go Go.Am Go.Proofs
open Go.Cm (R rdOk)
namespace Go.Proofs.Ytkcpacgnejlpbaa.T
set_option maxRecDepth 10000
set_option maxHeartbeats 0
section
variable {h : Cm.Ho} (hs : Cm.shH h) {g p : Nat} {f : Int}
include hs
omit hs in
end
end Go.Proofs.Ytkcpacgnejlpbaa.T
open Go Go.Am Go.Proofs
open Go.Cm (R rdOk)
namespace Go.Proofs.Ytkcpacgnejlpbaa.T
set_option maxRecDepth 10000
set_option maxHeartbeats 0
def D1Ok (D : Cm.D1) : Prop := ∀ b, Cm.bytes b → Cm.bdH (D b).1
theorem dSee_good : D1Ok dSee := fun _ hb => dsee_bd hb
end Go.Proofs.Ytkcpacgnejlpbaa.T
open Go Go.Am Go.Proofs
open Go.Cm (R rdOk)
namespace Go.Proofs.Ytkcpacgnejlpbaa.T
set_option maxRecDepth 10000
set_option maxHeartbeats 0
theorem forg_at {h : Cm.Ho} {g : Int} {k : Nat} (hk : k < h.2.1.length) : Cm.gAt (Cm.forget h g) k = if g.toNat = k then ((Cm.gAt h k).1, (Cm.gAt h k).2.1, List.replicate 6 Cm.s0) else Cm.gAt h k := by
  have := gAt_up (h := h) (g := g.toNat) (f := fun x => (x.1, x.2.1, List.replicate 6 Cm.s0)) hk
  exact this
theorem forg_m {h : Cm.Ho} {g : Int} {k : Nat} (hk : k < h.2.1.length) (q : Nat) : Cm.mAt (Cm.forget h g) k q = Cm.mAt h k q ∧ dAt (Cm.forget h g) k q = dAt h k q := by
  unfold Cm.mAt dAt; rw [forg_at hk]
  split <;> exact ⟨rfl, rfl⟩
theorem rep_get {i : Nat} (hi : i < 6) : (List.replicate 6 Cm.s0).getD i Cm.s0 = Cm.s0 := by
  rw [List.getD_eq_getElem?_getD, List.getElem?_replicate]; split <;> rfl
theorem forg_s {h : Cm.Ho} {g : Int} {k : Nat} (hk : k < h.2.1.length) {i : Nat} (hi : i < 6) : Cm.sAt (Cm.forget h g) k i = if g.toNat = k then Cm.s0 else Cm.sAt h k i := by
  unfold Cm.sAt; rw [forg_at hk]
  split
  · exact rep_get hi
  · rfl
theorem forg_ok {h : Cm.Ho} (o : Ok h) (g : Int) : Ok (Cm.forget h g) ∧ Same h (Cm.forget h g) := by
  obtain ⟨a, L⟩ := sh_forget o.sh g
  refine ⟨⟨a, fun k q hk hq => ?_, fun k i hk hi => ?_⟩, L, fun k q hk hq => ?_⟩
  · rw [L] at hk
    obtain ⟨x, y⟩ := o.e k q hk hq
    unfold EOk
    rw [(forg_m hk q).1, (forg_m hk q).2, L]
    refine ⟨x, fun z => ⟨(y z).1, (y z).2.1, fun w k' q' hk' hq' => ?_⟩⟩
    rw [(forg_m hk' q').1]; exact (y z).2.2 w k' q' hk' hq'
  · rw [L] at hk
    unfold SOk
    rw [forg_s hk hi]
    split
    · exact ⟨fun _ => rfl, s0_ok⟩
    · obtain ⟨x, y⟩ := o.s k i hk hi
      refine ⟨x, fun z => ?_⟩
      rw [(forg_m hk _).1]; exact y z
  · unfold pgA
    rw [(forg_m hk q).1, (forg_m hk q).2]; rfl
end Go.Proofs.Ytkcpacgnejlpbaa.T
open Go Go.Am Go.Proofs
open Go.Cm (R rdOk)
namespace Go.Proofs.Ytkcpacgnejlpbaa.T
set_option maxRecDepth 10000
set_option maxHeartbeats 0
def inL : List Cm.E → Int
  | [] => 0
  | m :: l => (if m.1 = true then 1 else 0) + inL l
def inS : List Cm.Gt → Int
  | [] => 0
  | g :: l => inL g.1 + inS l
end Go.Proofs.Ytkcpacgnejlpbaa.T
open Go Go.Am Go.Proofs
open Go.Cm (R rdOk)
namespace Go.Proofs.Ytkcpacgnejlpbaa.T
set_option maxRecDepth 10000
set_option maxHeartbeats 0
end Go.Proofs.Ytkcpacgnejlpbaa.T
open Go Go.Am Go.Proofs
open Go.Cm (R rdOk)
namespace Go.Proofs.Ytkcpacgnejlpbaa.T
set_option maxRecDepth 10000
set_option maxHeartbeats 0
end Go.Proofs.Ytkcpacgnejlpbaa.T
open Go Go.Am Go.Proofs
open Go.Cm (R rdOk)
namespace Go.Proofs.Ytkcpacgnejlpbaa.T
set_option maxRecDepth 10000
set_option maxHeartbeats 0
section
variable {h : Cm.Ho} {g i : Nat} {s : Cm.Sh}
end
end Go.Proofs.Ytkcpacgnejlpbaa.T
open Go Go.Am Go.Proofs
open Go.Cm (R rdOk)
namespace Go.Proofs.Ytkcpacgnejlpbaa.T
set_option maxRecDepth 10000
set_option maxHeartbeats 0
end Go.Proofs.Ytkcpacgnejlpbaa.T
open Go Go.Am Go.Proofs
open Go.Cm (R rdOk)
namespace Go.Proofs.Ytkcpacgnejlpbaa.T
set_option maxRecDepth 10000
set_option maxHeartbeats 0
section
variable {x : Cm.Ho} (o : Ok x) {g p : Nat} (hg : g < x.2.1.length) (hp : p < 6)
include o hg hp
end
end Go.Proofs.Ytkcpacgnejlpbaa.T
open Go Go.Am Go.Proofs
open Go.Cm (R rdOk)
namespace Go.Proofs.Ytkcpacgnejlpbaa.T
set_option maxRecDepth 10000
set_option maxHeartbeats 0
end Go.Proofs.Ytkcpacgnejlpbaa.T
open Go Go.Am Go.Proofs
open Go.Cm (R rdOk)
namespace Go.Proofs.Ytkcpacgnejlpbaa.T
set_option maxRecDepth 10000
set_option maxHeartbeats 0
/-- A page was written. -/
def Wr (h : Cm.Ho) (r : Cm.Ho × Int) (g q n : Nat) (w : Int) : Prop :=
  r.2 = (pgA h g q).getD n 0 ∧ ∀ k j, k < h.2.1.length → j < 6 → pgA r.1 k j = if k = g ∧ j = q then (pgA h g q).set n w else pgA h k j
theorem Wr.nn {h : Cm.Ho} (o : Ok h) {r : Cm.Ho × Int} {g q n : Nat} {w : Int} (hg : g < h.2.1.length) (hq : q < 6) (W : Wr h r g q n w) : 0 ≤ r.2 := by
  have := Cm.okP_get (Cm.okG_okP (see_okG o.sh (g := ((g : Nat) : Int)) (by omega)) hq) n
  rw [see_get _ _ hq] at this
  rw [W.1]; exact this.1
end Go.Proofs.Ytkcpacgnejlpbaa.T
open Go Go.Am Go.Proofs
open Go.Cm (R rdOk)
namespace Go.Proofs.Ytkcpacgnejlpbaa.T
set_option maxRecDepth 10000
set_option maxHeartbeats 0
end Go.Proofs.Ytkcpacgnejlpbaa.T
open Go Go.Am Go.Proofs
open Go.Cm (R rdOk)
namespace Go.Proofs.Ytkcpacgnejlpbaa.T
set_option maxRecDepth 10000
set_option maxHeartbeats 0
end Go.Proofs.Ytkcpacgnejlpbaa.T
open Go Go.Am Go.Proofs
open Go.Cm (R rdOk)
namespace Go.Proofs.Ytkcpacgnejlpbaa.T
set_option maxRecDepth 10000
set_option maxHeartbeats 0
theorem Wr.see {h : Cm.Ho} {r : Cm.Ho × Int} {g q n : Nat} {w : Int} (W : Wr h r g q n w) (hg : g < h.2.1.length) (hq : q < 6) : Cm.see r.1 (g : Int) = Cm.set2 (Cm.see h (g : Int)) (q : Int) (n : Int) w := by
  have e : ∀ j, j < 6 → pgA r.1 g j = if j = q then (pgA h g q).set n w else pgA h g j := fun j hj => by rw [W.2 g j hg hj]; simp
  have a : ∀ y : Cm.Ho, Cm.see y (g : Int) = [pgA y g 0, pgA y g 1, pgA y g 2, pgA y g 3, pgA y g 4, pgA y g 5] := fun y => rfl
  rw [a, a, e 0 (by omega), e 1 (by omega), e 2 (by omega), e 3 (by omega), e 4 (by omega), e 5 (by omega)]
  unfold Cm.set2
  rw [Int.toNat_natCast, Int.toNat_natCast]
  have : q = 0 ∨ q = 1 ∨ q = 2 ∨ q = 3 ∨ q = 4 ∨ q = 5 := by omega
  rcases this with rfl | rfl | rfl | rfl | rfl | rfl <;> rfl
theorem Wr.other {h : Cm.Ho} {r : Cm.Ho × Int} {g q n : Nat} {w : Int} (W : Wr h r g q n w) {k : Nat} (hk : k < h.2.1.length) (ne : k ≠ g) : Cm.see r.1 (k : Int) = Cm.see h (k : Int) :=
  see_ext fun j hj => by rw [W.2 k j hk hj, if_neg (fun x => ne x.1)]
end Go.Proofs.Ytkcpacgnejlpbaa.T
open Go Go.Am Go.Proofs
open Go.Cm (R rdOk)
namespace Go.Proofs.Ytkcpacgnejlpbaa.T
set_option maxRecDepth 10000
set_option maxHeartbeats 0
end Go.Proofs.Ytkcpacgnejlpbaa.T
open Go Go.Am Go.Proofs
open Go.Cm (R rdOk)
namespace Go.Proofs.Ytkcpacgnejlpbaa.T
set_option maxRecDepth 10000
set_option maxHeartbeats 0
end Go.Proofs.Ytkcpacgnejlpbaa.T
open Go Go.Am Go.Proofs
open Go.Cm (R rdOk)
namespace Go.Proofs.Ytkcpacgnejlpbaa.T
set_option maxRecDepth 10000
set_option maxHeartbeats 0
end Go.Proofs.Ytkcpacgnejlpbaa.T
open Go Go.Am Go.Proofs
open Go.Cm (R rdOk)
namespace Go.Proofs.Ytkcpacgnejlpbaa.T
set_option maxRecDepth 10000
set_option maxHeartbeats 0
structure Rm (c : Cm.E → Prop) (nm : Cm.E → Cm.E) (V : Nat → Nat → Prop) (h x : Cm.Ho) : Prop where
  sh : Cm.shH x
  len : x.2.1.length = h.2.1.length
  fr : x.1 = h.1
  hd : x.2.2 = h.2.2
  m1 : ∀ {k q}, k < h.2.1.length → q < 6 → V k q → c (Cm.mAt h k q) → Cm.mAt x k q = nm (Cm.mAt h k q)
  m0 : ∀ {k q}, k < h.2.1.length → q < 6 → ¬ (V k q ∧ c (Cm.mAt h k q)) → Cm.mAt x k q = Cm.mAt h k q
  d : ∀ {k q}, k < h.2.1.length → q < 6 → dAt x k q = dAt h k q
  s : ∀ {k i}, k < h.2.1.length → i < 6 → Cm.sAt x k i = Cm.s0 ∨ Cm.sAt x k i = Cm.sAt h k i
  z : ∀ {k i j}, k < h.2.1.length → i < 6 → j < 6 → V k j → c (Cm.mAt h k j) → (Cm.sAt h k i).1 = true → (Cm.sAt h k i).2.1 = (j : Int) → Cm.sAt x k i = Cm.s0
  n : ∀ {k i}, k < h.2.1.length → i < 6 → (∀ j, j < 6 → V k j → c (Cm.mAt h k j) → ¬ ((Cm.sAt h k i).1 = true ∧ (Cm.sAt h k i).2.1 = (j : Int))) → Cm.sAt x k i = Cm.sAt h k i
section
variable {c : Cm.E → Prop} [DecidablePred c] {nm : Cm.E → Cm.E} (hn : ∀ x : Cm.E, (nm x).1 = true → 0 ≤ (nm x).2.1 ∧ (nm x).2.1 ≤ 7)
include hn
omit hn in
omit hn in
end
structure Mv (h x : Cm.Ho) (f a : Int) : Prop where
  sh : Cm.shH x
  len : x.2.1.length = h.2.1.length
  fr : x.1 = h.1.set a.toNat (h.1.getD f.toNat [])
  hd : x.2.2 = h.2.2
  m1 : ∀ {k q}, k < h.2.1.length → q < 6 → (Cm.mAt h k q).1 = true → (Cm.mAt h k q).2.1 = f → Cm.mAt x k q = (true, a, (Cm.mAt h k q).2.2)
  m0 : ∀ {k q}, k < h.2.1.length → q < 6 → ¬ ((Cm.mAt h k q).1 = true ∧ (Cm.mAt h k q).2.1 = f) → Cm.mAt x k q = Cm.mAt h k q
  d : ∀ {k q}, k < h.2.1.length → q < 6 → dAt x k q = dAt h k q
  s : ∀ {k i}, k < h.2.1.length → i < 6 → Cm.sAt x k i = Cm.s0 ∨ Cm.sAt x k i = Cm.sAt h k i
  z : ∀ {k i j}, k < h.2.1.length → i < 6 → j < 6 → (Cm.mAt h k j).1 = true → (Cm.mAt h k j).2.1 = f → (Cm.sAt h k i).1 = true → (Cm.sAt h k i).2.1 = (j : Int) → Cm.sAt x k i = Cm.s0
  a0 : 0 ≤ a ∧ a ≤ 7
  ua : Cm.users h a = 0
  uf : Cm.users h f ≠ 0
theorem Mv.ne {h x : Cm.Ho} {f a : Int} (v : Mv h x f a) : f ≠ a := fun e => v.uf (e ▸ v.ua)
section
variable {h x : Cm.Ho} {f a : Int} (v : Mv h x f a) (o : Ok h)
include v o
/-- An entry behind the move. -/
theorem Mv.m {k q : Nat} (hk : k < h.2.1.length) (hq : q < 6) : (Cm.mAt x k q).1 = (Cm.mAt h k q).1 ∧ (Cm.mAt x k q).2.2 = (Cm.mAt h k q).2.2 ∧ ((Cm.mAt h k q).1 = true → (Cm.mAt x k q).2.1 = if (Cm.mAt h k q).2.1 = f then a else (Cm.mAt h k q).2.1) := by
  by_cases e : (Cm.mAt h k q).1 = true ∧ (Cm.mAt h k q).2.1 = f
  · rw [v.m1 hk hq e.1 e.2]
    exact ⟨e.1.symm, rfl, fun _ => by rw [if_pos e.2]⟩
  · rw [v.m0 hk hq e]
    exact ⟨rfl, rfl, fun t => by rw [if_neg fun w => e ⟨t, w⟩]⟩
end
end Go.Proofs.Ytkcpacgnejlpbaa.T
open Go Go.Am Go.Proofs
open Go.Cm (R rdOk)
namespace Go.Proofs.Ytkcpacgnejlpbaa.T
set_option maxRecDepth 10000
set_option maxHeartbeats 0
end Go.Proofs.Ytkcpacgnejlpbaa.T
open Go Go.Am Go.Proofs
open Go.Cm (R rdOk)
namespace Go.Proofs.Ytkcpacgnejlpbaa.T
set_option maxRecDepth 10000
set_option maxHeartbeats 0
/-- Shared: what was in the frame b is in the frame a. -/
structure Jn (h x : Cm.Ho) (b a : Int) : Prop where
  sh : Cm.shH x
  len : x.2.1.length = h.2.1.length
  fr : x.1 = h.1
  hd : x.2.2 = h.2.2
  m1 : ∀ {k q}, k < h.2.1.length → q < 6 → (Cm.mAt h k q).1 = true → ((Cm.mAt h k q).2.1 = b ∨ (Cm.mAt h k q).2.1 = a) → Cm.mAt x k q = (true, a, false)
  m0 : ∀ {k q}, k < h.2.1.length → q < 6 → ¬ ((Cm.mAt h k q).1 = true ∧ ((Cm.mAt h k q).2.1 = b ∨ (Cm.mAt h k q).2.1 = a)) → Cm.mAt x k q = Cm.mAt h k q
  d : ∀ {k q}, k < h.2.1.length → q < 6 → dAt x k q = dAt h k q
  s : ∀ {k i}, k < h.2.1.length → i < 6 → Cm.sAt x k i = Cm.s0 ∨ Cm.sAt x k i = Cm.sAt h k i
  z : ∀ {k i j}, k < h.2.1.length → i < 6 → j < 6 → (Cm.mAt h k j).1 = true → ((Cm.mAt h k j).2.1 = b ∨ (Cm.mAt h k j).2.1 = a) → (Cm.sAt h k i).1 = true → (Cm.sAt h k i).2.1 = (j : Int) → Cm.sAt x k i = Cm.s0
  ab : (0 ≤ a ∧ a < b) ∧ b ≤ 7
  ua : Cm.users h a ≠ 0
  ub : Cm.users h b ≠ 0
  eq : h.1.getD a.toNat [] = h.1.getD b.toNat []
section
variable {h x : Cm.Ho} {b a : Int} (v : Jn h x b a) (o : Ok h)
include v o
/-- An entry behind the sharing. -/
theorem Jn.m {k q : Nat} (hk : k < h.2.1.length) (hq : q < 6) : (Cm.mAt x k q).1 = (Cm.mAt h k q).1 ∧ ((Cm.mAt h k q).1 = true → (Cm.mAt x k q).2.1 = if (Cm.mAt h k q).2.1 = b then a else (Cm.mAt h k q).2.1) ∧
    ((Cm.mAt x k q).2.2 = true → (Cm.mAt h k q).2.2 = true ∧ Cm.mAt x k q = Cm.mAt h k q ∧ ((Cm.mAt h k q).1 = true → (Cm.mAt h k q).2.1 ≠ b ∧ (Cm.mAt h k q).2.1 ≠ a)) := by
  by_cases e : (Cm.mAt h k q).1 = true ∧ ((Cm.mAt h k q).2.1 = b ∨ (Cm.mAt h k q).2.1 = a)
  · have m := v.m1 hk hq e.1 e.2
    rw [m]
    refine ⟨e.1.symm, fun _ => ?_, fun w => by cases w⟩
    show a = _
    split
    · rfl
    · have := e.2; omega
  · have m := v.m0 hk hq e
    rw [m]
    exact ⟨rfl, fun t => by rw [if_neg fun w => e ⟨t, .inl w⟩], fun w => ⟨w, rfl, fun t => ⟨fun u => e ⟨t, .inl u⟩, fun u => e ⟨t, .inr u⟩⟩⟩⟩
end
end Go.Proofs.Ytkcpacgnejlpbaa.T
open Go Go.Am Go.Proofs
open Go.Cm (R rdOk)
namespace Go.Proofs.Ytkcpacgnejlpbaa.T
set_option maxRecDepth 10000
set_option maxHeartbeats 0
end Go.Proofs.Ytkcpacgnejlpbaa.T
open Go Go.Am Go.Proofs
open Go.Cm (R rdOk)
namespace Go.Proofs.Ytkcpacgnejlpbaa.T
set_option maxRecDepth 10000
set_option maxHeartbeats 0
end Go.Proofs.Ytkcpacgnejlpbaa.T
open Go Go.Am Go.Proofs
open Go.Cm (R rdOk)
namespace Go.Proofs.Ytkcpacgnejlpbaa.T
set_option maxRecDepth 10000
set_option maxHeartbeats 0
end Go.Proofs.Ytkcpacgnejlpbaa.T
open Go Go.Am Go.Proofs
open Go.Cm (R rdOk)
namespace Go.Proofs.Ytkcpacgnejlpbaa.T
set_option maxRecDepth 10000
set_option maxHeartbeats 0
end Go.Proofs.Ytkcpacgnejlpbaa.T
open Go Go.Am Go.Proofs
open Go.Cm (R rdOk)
namespace Go.Proofs.Ytkcpacgnejlpbaa.T
set_option maxRecDepth 10000
set_option maxHeartbeats 0
end Go.Proofs.Ytkcpacgnejlpbaa.T
open Go Go.Am Go.Proofs
open Go.Cm (R rdOk)
namespace Go.Proofs.Ytkcpacgnejlpbaa.T
set_option maxRecDepth 10000
set_option maxHeartbeats 0
theorem ok_laws_FnHostOut {D : Cm.D1} (hD : D1Ok D) : FOk (E_laws_FnHostOut D) Try.f4 sLawB := FOk.of1 fun (b : List Int) hn => FGA.fg (an := no) ((vc_laws_FnHostOut D b).mpr (by
  have hb : Cm.bytes b := hn
  have ho := hD b hb
  generalize (D b).1 = h at *
  generalize (D b).2 = g at *
  simp only [ifb_iff, imp_self, true_and, and_true, implies_true, Cm.eqM_refl, Bool.not_true, Bool.not_false, Bool.false_or, Bool.or_false, hb, ho, bne_self_eq_false, beq_self_eq_true, Bool.and_self]
  have sb := see_bd ho g
  refine fun _ => ⟨sb, fun _ => sb, fun c => ⟨fun z => by rw [z]; rfl, fun z => ?_, fun z => ?_⟩⟩
  · have nr : ¬ (Cm.hOk h = true ∧ Cm.within g 0 ((h.2.1.length : Int) - 1) = true) := fun y => by
      have := within_iff.mp y.2
      simp only [Bool.or_eq_true, decide_eq_true_eq] at z
      omega
    have : Cm.hSee h g = [] := if_neg nr
    rw [this]; rfl
  · simp only [Bool.or_eq_false_iff, decide_eq_false_iff_not] at z
    have o := ok_iff.mp (bnf c)
    have hl2 := (shH_get o.sh).2.1
    have hgn : g.toNat < h.2.1.length := by omega
    have hgi : ((g.toNat : Nat) : Int) = g := by omega
    obtain ⟨oF, sF⟩ := forg_ok o g
    have eF : (h.1, Cm.modAt h.2.1 g.toNat Cm.g0 fun x => (x.1, x.2.1, List.replicate 6 Cm.s0), h.2.2) = Cm.forget h g := rfl
    rw [eF]
    have lF := sF.len
    have e1 := hSee_ok oF (k := g.toNat) (by omega)
    have e2 := hSee_ok o hgn
    rw [hgi] at e1 e2
    have e : Cm.hSee (Cm.forget h g) g = Cm.hSee h g := by
      rw [e1, e2, ← hgi]
      exact see_ext fun q hq => by rw [hgi]; exact sF.pg g.toNat q hgn hq
    have bF := shH_bd oF.sh
    rw [e, Cm.eqM_refl, ok_iff.mpr oF]
    exact ⟨by omega, by omega, by omega, bF, sb, fun _ => bF, rfl⟩))
theorem kn_laws_FnHostOut : Known Try.prog 4 sLawB := known_of tabOk (AllK.cons (AllK.cons (AllK.cons (AllK.cons (AllK.cons (AllK.cons kn0 kn_impl_HostOk) kn_spec_HostOk) kn_spec_HostSee) kn_laws_lkMem) kn_impl_HostSee) kn_dsee) mixed Try.func4 (by kernel_rfl) (ok_laws_FnHostOut dSee_good)
end Go.Proofs.Ytkcpacgnejlpbaa.T
open Go Go.Am Go.Proofs
open Go.ChangeShapes Go.WideShapes Go.ChangeAt Go.RowKit
namespace Go.Proofs.Ytkcpacgnejlpbaa.T
theorem own : ownKnob Try.prog.godebug = none := by kernel_rfl
theorem laidOut : laidOutB Try.prog = true := by kernel_rfl
theorem bytes_of {y : List Int} (h : Wf kU y) : Cm.bytes y := fun i hi => by
  have h1 : (Lit.int .u8 (y.getD i 0)).wf = true := h.2 i hi
  generalize y.getD i 0 = x at h1 ⊢
  have e1 : IntKind.u8.min = 0 := rfl
  have e2 : IntKind.u8.max = 255 := rfl
  simp [Lit.wf, e1, e2] at h1
  omega
end Go.Proofs.Ytkcpacgnejlpbaa.T
