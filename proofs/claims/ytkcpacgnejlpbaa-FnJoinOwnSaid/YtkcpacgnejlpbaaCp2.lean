/-
  For each function: its contract holds; the conditions stand in the contracts.
-/
import Derived.Test.YtkcpacgnejlpbaaCp1
import Derived.OpenShut
import Derived.ShutString
import Derived.ChangeOld
import Derived.Carry
set_option linter.all false
set_option maxHeartbeats 0
open Go Go.Am Go.Proofs
open Go.Cm (R rdOk)
namespace Go.Proofs.Ytkcpacgnejlpbaa.T
set_option maxRecDepth 10000
set_option maxHeartbeats 0
theorem free_mono {h x : Cm.Ho} (e : ∀ f : Nat, Cm.users x (f : Int) = 0 → Cm.users h (f : Int) = 0) : ∀ n : Nat, (Cm.freeUp x n).length ≤ (Cm.freeUp h n).length
  | 0 => Nat.le_refl _
  | n + 1 => by
    have ih := free_mono e n
    rw [Cm.freeUp, Cm.freeUp, List.length_append, List.length_append]
    by_cases u : Cm.users x (n : Int) = 0
    · rw [if_pos u, if_pos (e n u)]; omega
    · rw [if_neg u]; simp only [List.length_nil]; omega
theorem in_free {h : Cm.Ho} (o : Ok h) {g p : Nat} (hg : g < h.2.1.length) (hp : p < 6) (f : Int) (u : Cm.users (Cm.inP h g p) f = 0) : Cm.users h f = 0 := by
  obtain ⟨o1, s1⟩ := in_ok o hg hp
  have N := (users_none o1.sh).mp u
  refine (users_none o.sh).mpr fun k q hk hq c => ?_
  obtain ⟨a, b⟩ := in_other o hg hp hk hq c.1
  cases m : (Cm.mAt (Cm.inP h g p) k q).1
  · obtain ⟨b1, b2⟩ := b m
    have c0 : (Cm.mAt h g p).1 = false := by
      cases d : (Cm.mAt h g p).1
      · rfl
      · have e : Cm.inP h g p = h := if_pos d
        rw [e, c.1] at m; cases m
    rcases in_cases c0 with ⟨_, Y⟩ | ⟨Y, _⟩
    · have hh := (shH_get o.sh).2.2
      have hc := sh_clear o.sh h.2.2
      have P := put_m (h := setHand (Cm.clearF h h.2.2) ((h.2.2 + 1) % 8)) (g := g) (p := p) (f := h.2.2) (sh_hand hc.1 (by omega)) (k := g) (by show g < (Cm.clearF h h.2.2).2.1.length; rw [hc.2]; exact hg) hp p
      rw [if_pos ⟨rfl, rfl⟩, ← Y] at P
      refine N g p (by rw [s1.len]; exact hg) hp ?_
      rw [P]
      exact ⟨rfl, by rw [← c.2, b1]⟩
    · rw [b2] at Y; simp at Y
  · have a := a m
    exact N k q (by rw [s1.len]; exact hk) hq (by rw [a]; exact c)
theorem own_free {h : Cm.Ho} (o : Ok h) {g p : Nat} (hg : g < h.2.1.length) (hp : p < 6) (f : Int) (u : Cm.users (Cm.ownP h g p) f = 0) : Cm.users h f = 0 := by
  obtain ⟨o1, s1⟩ := in_ok o hg hp
  have hi := in_in o.sh hg hp
  have hg' : g < (Cm.inP h g p).2.1.length := by rw [s1.len]; exact hg
  refine in_free o hg hp f ?_
  unfold Cm.ownP at u
  split at u
  · exact u
  · split at u
    · rename_i w
      have hs' : Cm.shH (wrE (Cm.inP h g p) g p) := sh_writable o1.sh g p
      have N := (users_none hs').mp u
      have L : (wrE (Cm.inP h g p) g p).2.1.length = (Cm.inP h g p).2.1.length := upG_len _ _ _
      refine (users_none o1.sh).mpr fun k q hk hq c => N k q (by rw [L]; exact hk) hq ?_
      have := wr_m (g := g) (p := p) o1.sh hk hq
      rw [this]
      split
      · exact c
      · exact c
    · rename_i w
      generalize Cm.inP h g p = z at *
      obtain ⟨o2, s2⟩ := out_ok o1 hg' hp
      have u2 := in_free o2 (g := g) (p := p) (by rw [s2.len]; exact hg') hp f u
      have N := (users_none o2.sh).mp u2
      refine (users_none o1.sh).mpr fun k q hk hq c => ?_
      have M := fun {k} (hk : k < z.2.1.length) q => out_m o1.sh hg' hp hi hk q
      by_cases e : ∃ k' q', (k' < z.2.1.length ∧ q' < 6) ∧ (¬ (k' = g ∧ q' = p)) ∧ (Cm.mAt z k' q').1 = true ∧ (Cm.mAt z k' q').2.1 = f
      · obtain ⟨k', q', ⟨h1, h2⟩, h3, h4⟩ := e
        refine N k' q' (by rw [s2.len]; exact h1) h2 ?_
        rw [M h1, if_neg h3]; exact h4
      · have al : ∀ k' q', k' < z.2.1.length → q' < 6 → (Cm.mAt z k' q').1 = true → (Cm.mAt z k' q').2.1 = f → k' = g ∧ q' = p := fun k' q' h1 h2 h3 h4 => Classical.byContradiction fun n => e ⟨k', q', ⟨h1, h2⟩, n, h3, h4⟩
        have hf : (Cm.mAt z g p).2.1 = f := by
          have := al k q hk hq c.1 c.2
          rw [this.1, this.2] at c; exact c.2
        have one := users_one (f := f) o1.sh al
        have pos := users_gt o1.sh hg' hp hi
        rw [hf] at pos w
        omega
/-- Who writes into a page has at most as many frames free. -/
theorem own_len {h : Cm.Ho} (o : Ok h) {g p : Nat} (hg : g < h.2.1.length) (hp : p < 6) : (Cm.hFree (Cm.ownP h g p)).length ≤ (Cm.hFree h).length := by
  rw [hFree_ok o, hFree_ok (own_ok o hg hp).1.1]
  exact free_mono (fun f u => own_free o hg hp f u) 8
theorem ok_laws_FnJoinOwn {J : List Int → Cm.Ho} (hJ : DJOk J) : FOk (E_laws_FnJoinOwn J) Try.f10 sLawBC := FOk.of2 fun (b m : List Int) hn => FGA.fg (an := no) ((vc_laws_FnJoinOwn J b m).mpr (by
  obtain ⟨hb, hm⟩ := (show Cm.bytes b ∧ Cm.bytes m from hn)
  have ho := hJ b hb
  generalize J b = h at *
  have hx := bd_of (pgJoin_sh h)
  have hy := fun x g p => bd_of (pgOwn_sh x g p)
  simp only [ifb_iff, imp_self, true_and, and_true, implies_true, Cm.eqH_refl, Bool.not_true, Bool.not_false, Bool.false_or, Bool.or_false, hb, hm, ho, hx, hy, bne_self_eq_false, beq_self_eq_true, Bool.and_self]
  refine ⟨fun c => by rw [c]; rfl, fun c d => ?_⟩
  have d := bnf d
  obtain ⟨o, b', a', v⟩ := pgJoin_jn d
  obtain ⟨ox, s⟩ := v.ok o
  have fl := v.free o
  have hl := (shH_get v.sh).2.1
  have l8 := hFree_bd h
  simp only [Bool.or_eq_false_iff, decide_eq_false_iff_not] at c
  generalize (Cm.pgJoin h).1 = x at *
  have hG : 0 ≤ Int.tmod (m.length : Int) (x.2.1.length : Int) ∧ Int.tmod (m.length : Int) (x.2.1.length : Int) < (x.2.1.length : Int) := ⟨Int.tmod_nonneg _ (by omega), Int.tmod_lt_of_pos _ (by omega)⟩
  have hT : 0 ≤ Int.tdiv (m.length : Int) 2 ∧ Int.tdiv (m.length : Int) 2 ≤ 1048576 := by
    rw [Int.tdiv_eq_ediv_of_nonneg (by omega)]; omega
  have hP : 0 ≤ Int.tmod (IntKind.wrap .i64 (Int.tdiv (m.length : Int) 2)) 6 ∧ Int.tmod (IntKind.wrap .i64 (Int.tdiv (m.length : Int) 2)) 6 < 6 := by
    rw [Cm.wrap_id (by omega) (by omega)]
    exact ⟨Int.tmod_nonneg _ (by omega), Int.tmod_lt_of_pos _ (by omega)⟩
  generalize Int.tmod (m.length : Int) (x.2.1.length : Int) = g at *
  generalize Int.tmod (IntKind.wrap .i64 (Int.tdiv (m.length : Int) 2)) 6 = p at *
  have E : Cm.pgOwn x g p = Cm.ownP x g.toNat p.toNat := if_pos (isH_of ox hG (by omega))
  obtain ⟨⟨oy, s2⟩, w1, w2⟩ := own_ok ox (g := g.toNat) (p := p.toNat) (by omega) (by omega)
  have fy := own_len ox (g := g.toNat) (p := p.toNat) (by omega) (by omega)
  have L := s2.len
  rw [E]
  generalize Cm.ownP x g.toNat p.toNat = y at *
  have l := (gAt_len oy.sh (g := g.toNat) (by omega)).1
  unfold Cm.gAt at l
  have m2 : (List.getD (List.getD y.2.1 g.toNat Cm.g0).1 p.toNat Cm.e0).2.2 = true := w2
  rw [hFree_ok ox, fl] at fy
  rw [hFree_ok o] at l8 ⊢
  rw [(s.trans s2).seen o oy, ok_iff.mpr oy, m2, Cm.wrap_id (by omega) (by omega), decide_eq_true (show ((Cm.hFree y).length : Int) ≤ ((Cm.freeL h).length : Int) + 1 by omega)]
  exact ⟨by omega, by omega, by omega, fun _ => rfl, fun _ => by omega, fun _ => by omega, rfl⟩))
theorem kn_laws_FnJoinOwn : Known Try.prog 10 sLawBC := known_of tabOk (AllK.cons (AllK.cons (AllK.cons (AllK.cons (AllK.cons (AllK.cons (AllK.cons (AllK.cons kn0 kn_laws_lkAlone) kn_impl_PageOwn) kn_impl_HostFree) kn_laws_lkSeen) kn_djoin) kn_spec_PageJoin) kn_pjF) kn_laws_lkHost) mixed Try.func10 (by kernel_rfl) (ok_laws_FnJoinOwn dJoin_good)
end Go.Proofs.Ytkcpacgnejlpbaa.T
open Go Go.Am Go.Proofs
open Go.Cm (R rdOk)
namespace Go.Proofs.Ytkcpacgnejlpbaa.T
set_option maxRecDepth 10000
set_option maxHeartbeats 0
end Go.Proofs.Ytkcpacgnejlpbaa.T
open Go Go.Am Go.Proofs
open Go.ChangeShapes Go.WideShapes Go.ChangeAt Go.RowKit
namespace Go.Proofs.Ytkcpacgnejlpbaa.T
theorem own : ownKnob Try.prog.godebug = none := by kernel_rfl
theorem laidOut : laidOutB Try.prog = true := by kernel_rfl
theorem bytes_of {y : List Int} (h : Wf kU y) : Cm.bytes y := fun i hi => by
  have h1 : (Lit.int .u8 (y.getD i 0)).wf = true := h.2 i hi
  generalize y.getD i 0 = x at h1 ⊢
  have e1 : IntKind.u8.min = 0 := rfl
  have e2 : IntKind.u8.max = 255 := rfl
  simp [Lit.wf, e1, e2] at h1
  omega
end Go.Proofs.Ytkcpacgnejlpbaa.T
