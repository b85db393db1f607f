/-
  For each function: its contract holds; the conditions stand in the contracts.
-/
import Derived.Test.YtkcpacgnejlpbaaCp1
import Derived.OpenShut
import Derived.ShutString
import Derived.ChangeOld
import Derived.Carry
set_option linter.all false
set_option maxHeartbeats 0
open Go Go.Am Go.Proofs
open Go.Cm (R rdOk)
namespace Go.Proofs.Ytkcpacgnejlpbaa.T
set_option maxRecDepth 10000
set_option maxHeartbeats 0
theorem joinIn_spec (h : Cm.Ho) (a : Nat) : ∀ (n b : Nat), (Cm.joinIn h a n b = none ∧ ∀ j, b ≤ j → j < b + n → Cm.canJoin h a j = false) ∨ ∃ j, b ≤ j ∧ j < b + n ∧ Cm.canJoin h a j = true ∧ Cm.joinIn h a n b = some (Cm.share h (j : Int) (a : Int))
  | 0, b => .inl ⟨rfl, fun j h1 h2 => by omega⟩
  | n + 1, b => by
    rw [Cm.joinIn]
    by_cases c : Cm.canJoin h a b = true
    · rw [if_pos c]; exact .inr ⟨b, by omega, by omega, c, rfl⟩
    · rw [if_neg c]
      rcases joinIn_spec h a n (b + 1) with ⟨e, f⟩ | ⟨j, h1, h2, h3, h4⟩
      · refine .inl ⟨e, fun j h1 h2 => ?_⟩
        by_cases e : j = b
        · rw [e]; simpa using c
        · exact f j (by omega) (by omega)
      · exact .inr ⟨j, by omega, by omega, h3, h4⟩
theorem joinGo_spec (h : Cm.Ho) : ∀ (n a : Nat), n + a = 8 → (Cm.joinGo h n a = none ∧ ∀ i j, a ≤ i → i < j → j < 8 → Cm.canJoin h i j = false) ∨ ∃ i j, a ≤ i ∧ i < j ∧ j < 8 ∧ Cm.canJoin h i j = true ∧ Cm.joinGo h n a = some (Cm.share h (j : Int) (i : Int))
  | 0, a, e => .inl ⟨rfl, fun i j h1 h2 h3 => by omega⟩
  | n + 1, a, e => by
    rw [Cm.joinGo]
    rcases joinIn_spec h a (8 - (a + 1)) (a + 1) with ⟨e1, f⟩ | ⟨j, h1, h2, h3, h4⟩
    · rw [e1]
      rcases joinGo_spec h n (a + 1) (by omega) with ⟨e2, f2⟩ | ⟨i, j, h1, h2, h3, h4, h5⟩
      · refine .inl ⟨e2, fun i j h1 h2 h3 => ?_⟩
        by_cases e : i = a
        · rw [e]; exact f j (by omega) (by omega)
        · exact f2 i j (by omega) h2 h3
      · exact .inr ⟨i, j, by omega, h2, h3, h4, h5⟩
    · rw [h4]; exact .inr ⟨a, j, by omega, by omega, by omega, h3, rfl⟩
theorem join_no {h : Cm.Ho} (c : (Cm.join h).2 = false) : (Cm.join h).1 = h ∧ ∀ i j, i < j → j < 8 → Cm.canJoin h i j = false := by
  rcases joinGo_spec h 8 0 rfl with ⟨e, f⟩ | ⟨i, j, h1, h2, h3, h4, h5⟩
  · unfold Cm.join; rw [e]; exact ⟨rfl, fun i j => f i j (by omega)⟩
  · unfold Cm.join at c; rw [h5] at c; cases c
theorem join_yes {h : Cm.Ho} (c : (Cm.join h).2 = true) : ∃ i j, i < j ∧ j < 8 ∧ Cm.canJoin h i j = true ∧ (Cm.join h).1 = Cm.share h (j : Int) (i : Int) := by
  rcases joinGo_spec h 8 0 rfl with ⟨e, f⟩ | ⟨i, j, h1, h2, h3, h4, h5⟩
  · unfold Cm.join at c; rw [e] at c; cases c
  · unfold Cm.join; rw [h5]; exact ⟨i, j, h2, h3, h4, rfl⟩
theorem canJoin_iff {h : Cm.Ho} {i j : Nat} : Cm.canJoin h i j = true ↔ (0 < Cm.users h (i : Int) ∧ 0 < Cm.users h (j : Int)) ∧ h.1.getD i [] = h.1.getD j [] := by
  unfold Cm.canJoin
  rw [Bool.and_eq_true, Bool.and_eq_true, Cm.eqI_iff]
  simp only [decide_eq_true_eq, gt_iff_lt]
/-- Shared: what was in the frame b is in the frame a. -/
structure Jn (h x : Cm.Ho) (b a : Int) : Prop where
  sh : Cm.shH x
  len : x.2.1.length = h.2.1.length
  fr : x.1 = h.1
  hd : x.2.2 = h.2.2
  m1 : ∀ {k q}, k < h.2.1.length → q < 6 → (Cm.mAt h k q).1 = true → ((Cm.mAt h k q).2.1 = b ∨ (Cm.mAt h k q).2.1 = a) → Cm.mAt x k q = (true, a, false)
  m0 : ∀ {k q}, k < h.2.1.length → q < 6 → ¬ ((Cm.mAt h k q).1 = true ∧ ((Cm.mAt h k q).2.1 = b ∨ (Cm.mAt h k q).2.1 = a)) → Cm.mAt x k q = Cm.mAt h k q
  d : ∀ {k q}, k < h.2.1.length → q < 6 → dAt x k q = dAt h k q
  s : ∀ {k i}, k < h.2.1.length → i < 6 → Cm.sAt x k i = Cm.s0 ∨ Cm.sAt x k i = Cm.sAt h k i
  z : ∀ {k i j}, k < h.2.1.length → i < 6 → j < 6 → (Cm.mAt h k j).1 = true → ((Cm.mAt h k j).2.1 = b ∨ (Cm.mAt h k j).2.1 = a) → (Cm.sAt h k i).1 = true → (Cm.sAt h k i).2.1 = (j : Int) → Cm.sAt x k i = Cm.s0
  ab : (0 ≤ a ∧ a < b) ∧ b ≤ 7
  ua : Cm.users h a ≠ 0
  ub : Cm.users h b ≠ 0
  eq : h.1.getD a.toNat [] = h.1.getD b.toNat []
theorem pgJoin_no {h : Cm.Ho} (o : Ok h) (c : (Cm.pgJoin h).2 = false) : (Cm.pgJoin h).1 = h ∧ ∀ i j, i < j → j < 8 → Cm.canJoin h i j = false := by
  have e : Cm.pgJoin h = Cm.join h := if_pos (ok_iff.mpr o)
  rw [e] at c ⊢
  exact join_no c
theorem pgJoin_get {h : Cm.Ho} (c : (Cm.pgJoin h).2 = true) : Ok h ∧ Cm.pgJoin h = Cm.join h := by
  unfold Cm.pgJoin at c ⊢
  by_cases e : Cm.hOk h = true
  · rw [if_pos e]; exact ⟨ok_iff.mp e, rfl⟩
  · rw [if_neg e] at c; cases c
theorem pgJoin_jn {h : Cm.Ho} (c : (Cm.pgJoin h).2 = true) : Ok h ∧ ∃ b a, Jn h (Cm.pgJoin h).1 b a := by
  obtain ⟨o, e⟩ := pgJoin_get c
  rw [e] at c ⊢
  obtain ⟨i, j, h1, h2, h3, h4⟩ := join_yes c
  obtain ⟨⟨u1, u2⟩, f⟩ := canJoin_iff.mp h3
  have r := share_of o.sh (j : Int) (b := (i : Int)) (by omega)
  rw [← h4] at r
  exact ⟨o, (j : Int), (i : Int), r.sh, r.len, r.fr, r.hd, fun hk hq t u => r.m1 hk hq ⟨by omega, by omega⟩ ⟨t, u⟩, fun hk hq t => r.m0 hk hq fun w => t w.2, fun hk hq => r.d hk hq, fun hk hi => r.s hk hi, fun hk hi hj t u v w => r.z hk hi hj ⟨by omega, by omega⟩ ⟨t, u⟩ v w, by omega, by omega, by omega, f⟩
section
variable {h x : Cm.Ho} {b a : Int} (v : Jn h x b a) (o : Ok h)
include v o
/-- An entry behind the sharing. -/
theorem Jn.m {k q : Nat} (hk : k < h.2.1.length) (hq : q < 6) : (Cm.mAt x k q).1 = (Cm.mAt h k q).1 ∧ ((Cm.mAt h k q).1 = true → (Cm.mAt x k q).2.1 = if (Cm.mAt h k q).2.1 = b then a else (Cm.mAt h k q).2.1) ∧
    ((Cm.mAt x k q).2.2 = true → (Cm.mAt h k q).2.2 = true ∧ Cm.mAt x k q = Cm.mAt h k q ∧ ((Cm.mAt h k q).1 = true → (Cm.mAt h k q).2.1 ≠ b ∧ (Cm.mAt h k q).2.1 ≠ a)) := by
  by_cases e : (Cm.mAt h k q).1 = true ∧ ((Cm.mAt h k q).2.1 = b ∨ (Cm.mAt h k q).2.1 = a)
  · have m := v.m1 hk hq e.1 e.2
    rw [m]
    refine ⟨e.1.symm, fun _ => ?_, fun w => by cases w⟩
    show a = _
    split
    · rfl
    · have := e.2; omega
  · have m := v.m0 hk hq e
    rw [m]
    exact ⟨rfl, fun t => by rw [if_neg fun w => e ⟨t, .inl w⟩], fun w => ⟨w, rfl, fun t => ⟨fun u => e ⟨t, .inl u⟩, fun u => e ⟨t, .inr u⟩⟩⟩⟩
theorem Jn.ok : Ok x ∧ Same h x := by
  have f8 := (shH_get o.sh).1.1
  have ab := v.ab
  refine ⟨⟨v.sh, fun k q hk hq => ?_, fun k i hk hi => ?_⟩, v.len, fun k q hk hq => ?_⟩
  · rw [v.len] at hk
    obtain ⟨e1, e2⟩ := o.e k q hk hq
    obtain ⟨t1, t2, t3⟩ := v.m o hk hq
    refine ⟨fun t => ?_, fun t => ?_⟩
    · rw [t1] at t
      rw [v.m0 hk hq (fun w => by rw [t] at w; cases w.1)]
      exact e1 t
    · rw [t1] at t
      obtain ⟨b1, b2, b3⟩ := e2 t
      rw [v.d hk hq, v.len]
      refine ⟨by rw [t2 t]; split <;> omega, b2, fun w k' q' hk' hq' y1 y2 => ?_⟩
      obtain ⟨w1, w2, w3⟩ := t3 w
      rw [w2] at y2
      obtain ⟨s1, s2, _⟩ := v.m o hk' hq'
      have z1 : (Cm.mAt h k' q').1 = true := s1 ▸ y1
      have w3 := w3 t
      refine b3 w1 k' q' hk' hq' z1 ?_
      rw [s2 z1] at y2
      split at y2
      · exact absurd y2.symm w3.2
      · exact y2
  · rw [v.len] at hk
    obtain ⟨e1, e2⟩ := o.s k i hk hi
    rcases v.s hk hi with w | w
    · unfold SOk; rw [w]; exact ⟨fun _ => rfl, s0_ok⟩
    · unfold SOk; rw [w]
      refine ⟨e1, fun t => ?_⟩
      obtain ⟨b1, b2, b3, b4⟩ := e2 t
      have hj : (Cm.sAt h k i).2.1.toNat < 6 := by omega
      have nf : ¬ ((Cm.mAt h k (Cm.sAt h k i).2.1.toNat).1 = true ∧ ((Cm.mAt h k (Cm.sAt h k i).2.1.toNat).2.1 = b ∨ (Cm.mAt h k (Cm.sAt h k i).2.1.toNat).2.1 = a)) := fun u => by
        have := v.z hk hi hj u.1 u.2 t (by omega)
        rw [w] at this; rw [this] at t; cases t
      rw [v.m0 hk hj nf]
      exact ⟨b1, b2, b3, b4⟩
  · obtain ⟨t1, t2, _⟩ := v.m o hk hq
    unfold pgA
    rw [t1, v.d hk hq, v.fr]
    by_cases t : (Cm.mAt h k q).1 = true
    · rw [if_pos t, if_pos t, t2 t]
      split
      · rename_i u
        rw [u, v.eq]
      · rfl
    · rw [if_neg t, if_neg t]
theorem Jn.us : Cm.users x b = 0 ∧ Cm.users x a ≠ 0 ∧ ∀ i : Int, i ≠ b → (Cm.users x i = 0 ↔ Cm.users h i = 0) := by
  have ab := v.ab
  have oth : ∀ i : Int, i ≠ b → (Cm.users x i = 0 ↔ Cm.users h i = 0) := fun i i1 => by
    rw [users_none v.sh, users_none o.sh, v.len]
    by_cases ia : i = a
    · subst ia
      refine ⟨fun u => absurd ((users_none o.sh).mpr fun k q hk hq w => ?_) v.ua, fun u => absurd ((users_none o.sh).mpr u) v.ua⟩
      obtain ⟨t1, t2, _⟩ := v.m o hk hq
      refine u k q hk hq ⟨t1.trans w.1, ?_⟩
      rw [t2 w.1, if_neg (by omega)]; exact w.2
    · constructor
      · intro u k q hk hq w
        obtain ⟨t1, t2, _⟩ := v.m o hk hq
        refine u k q hk hq ⟨t1.trans w.1, ?_⟩
        rw [t2 w.1, if_neg (by omega)]; exact w.2
      · intro u k q hk hq w
        obtain ⟨t1, t2, _⟩ := v.m o hk hq
        have t : (Cm.mAt h k q).1 = true := t1 ▸ w.1
        refine u k q hk hq ⟨t, ?_⟩
        have := t2 t
        have w2 := w.2
        split at this <;> omega
  refine ⟨(users_none v.sh).mpr fun k q hk hq w => ?_, fun z => v.ua ((oth a (by omega)).mp z), oth⟩
  rw [v.len] at hk
  obtain ⟨t1, t2, _⟩ := v.m o hk hq
  have t : (Cm.mAt h k q).1 = true := t1 ▸ w.1
  have := t2 t
  have w2 := w.2
  split at this <;> omega
end
theorem freeUp_one {h x : Cm.Ho} {b : Nat} (e : ∀ i : Nat, i ≠ b → (Cm.users x (i : Int) = 0 ↔ Cm.users h (i : Int) = 0)) (h2 : Cm.users h (b : Int) ≠ 0) (x1 : Cm.users x (b : Int) = 0) :
    ∀ n : Nat, (Cm.freeUp x n).length = (Cm.freeUp h n).length + (if b < n then 1 else 0)
  | 0 => by simp [Cm.freeUp]
  | n + 1 => by
    have ih := freeUp_one e h2 x1 n
    rw [Cm.freeUp, Cm.freeUp, List.length_append, List.length_append]
    by_cases n1 : n = b
    · rw [n1] at ih ⊢
      rw [if_pos x1, if_neg h2]
      simp only [List.length_cons, List.length_nil]
      split at ih <;> split <;> omega
    · have := e n n1
      by_cases u : Cm.users h (n : Int) = 0
      · rw [if_pos u, if_pos (this.mpr u)]
        simp only [List.length_cons, List.length_nil]
        split at ih <;> split <;> omega
      · rw [if_neg u, if_neg (fun w => u (this.mp w))]
        split at ih <;> split <;> omega
theorem Jn.free {h x : Cm.Ho} {b a : Int} (v : Jn h x b a) (o : Ok h) : (Cm.freeL x).length = (Cm.freeL h).length + 1 := by
  obtain ⟨u1, u2, u3⟩ := v.us o
  have ab := v.ab
  have e : ((b.toNat : Nat) : Int) = b := by omega
  have := freeUp_one (h := h) (x := x) (b := b.toNat) (fun i n1 => u3 i (by omega)) (by rw [e]; exact v.ub) (by rw [e]; exact u1) 8
  rw [if_pos (by omega)] at this
  exact this
/-- Hosts behind some sharing. -/
theorem pgJoin_ok {h : Cm.Ho} (o : Ok h) : Ok (Cm.pgJoin h).1 ∧ Same h (Cm.pgJoin h).1 := by
  cases c : (Cm.pgJoin h).2
  · rw [(pgJoin_no o c).1]; exact ⟨o, Same.refl h⟩
  · obtain ⟨_, b, a, v⟩ := pgJoin_jn c
    exact v.ok o
end Go.Proofs.Ytkcpacgnejlpbaa.T
open Go Go.Am Go.Proofs
open Go.Cm (R rdOk)
namespace Go.Proofs.Ytkcpacgnejlpbaa.T
set_option maxRecDepth 10000
set_option maxHeartbeats 0
end Go.Proofs.Ytkcpacgnejlpbaa.T
open Go Go.Am Go.Proofs
open Go.Cm (R rdOk)
namespace Go.Proofs.Ytkcpacgnejlpbaa.T
set_option maxRecDepth 10000
set_option maxHeartbeats 0
end Go.Proofs.Ytkcpacgnejlpbaa.T
open Go Go.Am Go.Proofs
open Go.Cm (R rdOk)
namespace Go.Proofs.Ytkcpacgnejlpbaa.T
set_option maxRecDepth 10000
set_option maxHeartbeats 0
end Go.Proofs.Ytkcpacgnejlpbaa.T
open Go Go.Am Go.Proofs
open Go.Cm (R rdOk)
namespace Go.Proofs.Ytkcpacgnejlpbaa.T
set_option maxRecDepth 10000
set_option maxHeartbeats 0
theorem readIn_none {h : Cm.Ho} (o : Ok h) {g p : Nat} (hg : g < h.2.1.length) (hp : p < 6) (n : Nat) (s : (Cm.sAt h g p).1 = false) (d : (entA h g p).1 = false) : (Cm.sAt (Cm.readIn h g p n).1 g p).1 = false := by
  obtain ⟨_, w⟩ := walk_ok o hg hp
  unfold Cm.readIn
  rw [if_neg (by rw [s]; simp), if_pos (by rw [w]; exact d)]
  exact in_s0 o hg hp s
theorem read_stays {h z : Cm.Ho} (o : Ok h) {g p : Nat} (hg : g < h.2.1.length) (hp : p < 6) (n : Nat) (s : (Cm.sAt h g p).1 = false) (oz : Ok z) (sz : Same (Cm.readIn h g p n).1 z)
    (hz : Cm.sAt z g p = Cm.s0 ∨ Cm.sAt z g p = Cm.sAt (Cm.readIn h g p n).1 g p) : (Cm.readIn z g p n).2 = (Cm.readIn h g p n).2 := by
  obtain ⟨⟨o1, s1⟩, v⟩ := readIn_ok o hg hp n
  rw [if_neg (by rw [s]; simp)] at v
  have t := s1.trans sz
  have hgz : g < z.2.1.length := by rw [t.len]; exact hg
  obtain ⟨_, vz⟩ := readIn_ok oz hgz hp n
  rw [vz, v]
  have E := t.ent hg hp
  rw [E]
  by_cases d : (entA h g p).1 = false
  · have r := readIn_none o hg hp n s d
    have nz : (Cm.sAt z g p).1 = false := by
      rcases hz with e | e
      · rw [e]; rfl
      · rw [e]; exact r
    rw [if_neg (by rw [nz]; simp), if_pos d, if_pos d]
  · have d' : (entA h g p).1 = true := by simpa using d
    have pg := ent_page h g p d'
    have P := t.pg g (entA h g p).2.1.toNat hg (by omega)
    rw [if_neg d, if_neg d, P]
    by_cases m : (Cm.sAt z g p).1 = true
    · rw [if_pos m]
      have e : Cm.sAt z g p = Cm.sAt (Cm.readIn h g p n).1 g p := hz.resolve_left fun e => by rw [e] at m; cases m
      rw [e, (readIn_new o hg hp n s d').1]
      dsimp only
      rw [P]
    · rw [if_neg m]
theorem out_sc {h : Cm.Ho} (hs : Cm.shH h) {g p : Nat} (hg : g < h.2.1.length) (hp : p < 6) {k i : Nat} (hk : k < h.2.1.length) (hi : i < 6) : Cm.sAt (Cm.outP h g p) k i = Cm.s0 ∨ Cm.sAt (Cm.outP h g p) k i = Cm.sAt h k i := by
  by_cases m : (Cm.mAt h g p).1 = true
  · rw [out_s hs hg hp m hk hi]
    split
    · rcases clr_cases (p : Int) (Cm.sAt h k i) with ⟨s, _⟩ | ⟨s, _⟩
      · exact .inl s
      · exact .inr s
    · exact .inr rfl
  · rw [out_no (by simpa using m)]; exact .inr rfl
theorem pgJoin_sc {h : Cm.Ho} (o : Ok h) {k i : Nat} (hk : k < h.2.1.length) (hi : i < 6) : Cm.sAt (Cm.pgJoin h).1 k i = Cm.s0 ∨ Cm.sAt (Cm.pgJoin h).1 k i = Cm.sAt h k i := by
  cases c : (Cm.pgJoin h).2
  · rw [(pgJoin_no o c).1]; exact .inr rfl
  · obtain ⟨_, b, a, v⟩ := pgJoin_jn c
    exact v.s hk hi
theorem pgMove_all {h : Cm.Ho} (o : Ok h) {f : Int} (hf : 0 ≤ f ∧ f ≤ 7) : (Ok (Cm.pgMove h f).1 ∧ Same h (Cm.pgMove h f).1) ∧ ∀ {k i : Nat}, k < h.2.1.length → i < 6 → Cm.sAt (Cm.pgMove h f).1 k i = Cm.s0 ∨ Cm.sAt (Cm.pgMove h f).1 k i = Cm.sAt h k i := by
  have e : Cm.pgMove h f = Cm.move h f := if_pos ⟨ok_iff.mpr o, within_iff.mpr hf⟩
  cases c : (Cm.pgMove h f).2
  · rw [e] at c ⊢
    rw [(move_no c).1]; exact ⟨⟨o, Same.refl h⟩, fun _ _ => .inr rfl⟩
  · obtain ⟨_, _, v⟩ := pgMove_mv c
    exact ⟨v.ok o, fun hk hi => v.s hk hi⟩
theorem ok_laws_FnShadeMoved {D : Cm.D3} (hD : D3Ok D) : FOk (E_laws_FnShadeMoved D) Try.f3 sLawBC := FOk.of2 fun (b m : List Int) hn => FGA.fg (an := no) ((vc_laws_FnShadeMoved D b m).mpr (by
  obtain ⟨hb, hm⟩ := (show Cm.bytes b ∧ Cm.bytes m from hn)
  have ho := hD b hb
  have hx := bd_of (hReadIn_sh (D b).1 (D b).2.1 (D b).2.2.1 (D b).2.2.2)
  generalize (D b).1 = h at *
  generalize (D b).2.1 = g at *
  generalize (D b).2.2.1 = p at *
  generalize (D b).2.2.2 = n at *
  simp only [ifb_iff, imp_self, true_and, and_true, implies_true, Cm.eqH_refl, Bool.not_true, Bool.not_false, Bool.false_or, Bool.or_false, hb, hm, ho, hx, bne_self_eq_false, beq_self_eq_true, Bool.and_self]
  refine ⟨fun c => by rw [c]; rfl, fun c d => ?_⟩
  by_cases r : Cm.isR h g p n = true
  · obtain ⟨c1, hn⟩ := isR_get r
    have o := ok_iff.mp (isH_get c1).1
    obtain ⟨_, hg, hp⟩ := isH_sh c1
    have hgn : g.toNat < h.2.1.length := by omega
    have hpn : p.toNat < 6 := by omega
    have EF : Cm.hForget h g = Cm.forget h g := if_pos (isH_of o hg (by omega))
    obtain ⟨oF, sF⟩ := forg_ok o g
    have z0 : (Cm.sAt (Cm.forget h g) g.toNat p.toNat).1 = false := by rw [forg_s hgn hpn, if_pos rfl]; rfl
    have lF := sF.len
    rw [EF]
    generalize Cm.forget h g = H at *
    have hgH : g.toNat < H.2.1.length := by omega
    have ER := hReadIn_eq oF (g := g) (p := p) (n := n) (by omega) hp hn
    rw [ER]
    obtain ⟨⟨oy, sy⟩, _⟩ := readIn_ok oF hgH hpn n.toNat
    have K := fun z (oz : Ok z) (sz : Same (Cm.readIn H g.toNat p.toNat n.toNat).1 z) hz => read_stays oF hgH hpn n.toNat z0 oz sz hz
    have ly := sy.len
    generalize hV : Cm.readIn H g.toNat p.toNat n.toNat = y at *
    have hgy : g.toNat < y.1.2.1.length := by omega
    have h6 : 0 ≤ Int.tmod (m.length : Int) 6 ∧ Int.tmod (m.length : Int) 6 < 6 := ⟨Int.tmod_nonneg _ (by omega), Int.tmod_lt_of_pos _ (by omega)⟩
    have h8 : 0 ≤ Int.tmod (m.length : Int) 8 ∧ Int.tmod (m.length : Int) 8 < 8 := ⟨Int.tmod_nonneg _ (by omega), Int.tmod_lt_of_pos _ (by omega)⟩
    generalize Int.tmod (m.length : Int) 6 = q at *
    generalize Int.tmod (m.length : Int) 8 = f at *
    have EO : Cm.pgOut y.1 g q = Cm.outP y.1 g.toNat q.toNat := if_pos (isH_of oy (by omega) (by omega))
    obtain ⟨oa, sa⟩ := out_ok oy hgy (show q.toNat < 6 by omega)
    have A := K _ oa sa (out_sc oy.sh hgy (by omega) hgy hpn)
    obtain ⟨ob, sb⟩ := pgJoin_ok oy
    have B := K _ ob sb (pgJoin_sc oy hgy hpn)
    obtain ⟨⟨oc, sc⟩, zc⟩ := pgMove_all oy (f := f) (by omega)
    have C := K _ oc sc (zc hgy hpn)
    have la := sa.len
    have lb := sb.len
    have lc := sc.len
    rw [EO, hReadIn_eq oa (by omega) hp hn, hReadIn_eq ob (by omega) hp hn, hReadIn_eq oc (by omega) hp hn, A, B, C]
    refine ⟨shH_bd oF.sh, by omega, shH_bd oy.sh, shH_bd oy.sh, by omega, shH_bd oy.sh, shH_bd oa.sh, shH_bd ob.sh, shH_bd oc.sh, fun _ z => ?_, ?_⟩
    · rw [bnf z]; simp
    · simp
  · have : Cm.hReadIn h g p n = (Cm.h0, -3) := isR_h0 (by simpa using r)
    rw [this] at d; cases d))
theorem kn_laws_FnShadeMoved : Known Try.prog 3 sLawBC := known_of tabOk (AllK.cons (AllK.cons (AllK.cons (AllK.cons (AllK.cons (AllK.cons (AllK.cons (AllK.cons kn0 kn_impl_PageMove) kn_impl_PageJoin) kn_impl_PageOut) kn_impl_HostForget) kn_laws_lkHost) kn_impl_HostReadIn) kn_spec_HostReadIn) kn_dreadin) mixed Try.func3 (by kernel_rfl) (ok_laws_FnShadeMoved dRead_good)
end Go.Proofs.Ytkcpacgnejlpbaa.T
open Go Go.Am Go.Proofs
open Go.Cm (R rdOk)
namespace Go.Proofs.Ytkcpacgnejlpbaa.T
set_option maxRecDepth 10000
set_option maxHeartbeats 0
end Go.Proofs.Ytkcpacgnejlpbaa.T
open Go Go.Am Go.Proofs
open Go.ChangeShapes Go.WideShapes Go.ChangeAt Go.RowKit
namespace Go.Proofs.Ytkcpacgnejlpbaa.T
theorem own : ownKnob Try.prog.godebug = none := by kernel_rfl
theorem laidOut : laidOutB Try.prog = true := by kernel_rfl
theorem bytes_of {y : List Int} (h : Wf kU y) : Cm.bytes y := fun i hi => by
  have h1 : (Lit.int .u8 (y.getD i 0)).wf = true := h.2 i hi
  generalize y.getD i 0 = x at h1 ⊢
  have e1 : IntKind.u8.min = 0 := rfl
  have e2 : IntKind.u8.max = 255 := rfl
  simp [Lit.wf, e1, e2] at h1
  omega
end Go.Proofs.Ytkcpacgnejlpbaa.T
