/-
  For each function: its contract holds; the conditions stand in the contracts.
-/
import Derived.Test.YtkcpacgnejlpbaaCp1
import Derived.OpenShut
import Derived.ShutString
import Derived.ChangeOld
import Derived.Carry
set_option linter.all false
set_option maxHeartbeats 0
open Go Go.Am Go.Proofs
open Go.Cm (R rdOk)
namespace Go.Proofs.Ytkcpacgnejlpbaa.T
set_option maxRecDepth 10000
set_option maxHeartbeats 0
theorem same_seen {h y : Cm.Ho} (o : Ok h) (oy : Ok y) (e : Cm.seenEq y h = true) : Same h y := by
  obtain ⟨e1, e2⟩ := seenEq_iff.mp e
  refine ⟨e1, fun k q hk hq => ?_⟩
  have := e2 k (by omega)
  rw [hSee_ok oy (by omega), hSee_ok o hk] at this
  exact see_inj this hq
theorem ok_laws_FnWriteShared {D : Cm.D4} (hD : D4Ok D) : FOk (E_laws_FnWriteShared D) Try.f11 sLawB := FOk.of1 fun (b : List Int) hn => FGA.fg (an := one (an_ws (D b).1 (D b).2.1 (D b).2.2.1 (D b).2.2.2.1 (D b).2.2.2.2)) ((vc_laws_FnWriteShared D b).mpr (by
  have hb : Cm.bytes b := hn
  have ho := hD b hb
  have hx := bd_of (hWrite_sh (D b).1 (D b).2.1 (D b).2.2.1 (D b).2.2.2.1 (D b).2.2.2.2)
  generalize (D b).1 = h at *
  generalize (D b).2.1 = g at *
  generalize (D b).2.2.1 = p at *
  generalize (D b).2.2.2.1 = n at *
  generalize (D b).2.2.2.2 = w at *
  simp only [ifb_iff, imp_self, true_and, and_true, implies_true, Cm.eqH_refl, Bool.not_true, Bool.not_false, Bool.false_or, Bool.or_false, hb, ho, hx, bne_self_eq_false, beq_self_eq_true, Bool.and_self]
  refine fun _ c => ?_
  by_cases r : Cm.isR h g p n = true ∧ Cm.within w 0 63 = true
  · obtain ⟨c1, hn⟩ := isR_get r.1
    have hw := within_iff.mp r.2
    have o := ok_iff.mp (isH_get c1).1
    obtain ⟨_, hg, hp⟩ := isH_sh c1
    have hgn : g.toNat < h.2.1.length := by omega
    have hpn : p.toNat < 6 := by omega
    have E : Cm.hWrite h g p n w = Cm.writeP h g.toNat p.toNat n.toNat w := if_pos r
    obtain ⟨o1, L1, W⟩ := writeP_ok o hgn hpn n.toNat hw
    rw [E]
    generalize Cm.writeP h g.toNat p.toNat n.toNat w = x at *
    refine ⟨⟨(0, h), ⟨by omega, ok_iff.mpr o, (Same.refl h).seen o o⟩, rfl, rfl, rfl, rfl⟩, ?_⟩
    rintro ⟨i, y⟩ ⟨q1, q2, q3⟩
    dsimp only at q1 q2 q3 ⊢
    have oy := ok_iff.mp q2
    have bx := shH_bd oy.sh
    obtain ⟨y1, y2⟩ := pgJoin_seen oy
    refine ⟨fun e => ⟨bx, fun d => ?_, fun d => ?_⟩, fun _ => ?_⟩
    · have e : (i : Int) < 8 := of_decide_eq_true e
      exact ⟨(i + 1, (Cm.pgJoin y).1), ⟨⟨by dsimp only; omega, y1, seen_tr y2 q3⟩, by dsimp only; omega⟩, (wsucc (by omega)).symm, rfl, rfl, rfl⟩
    · have e : (i : Int) < 8 := of_decide_eq_true e
      exact ⟨(i + 1, y), ⟨⟨by dsimp only; omega, q2, q3⟩, by dsimp only; omega⟩, (wsucc (by omega)).symm, rfl, rfl, rfl⟩
    · have s := same_seen o oy q3
      have sl := s.len
      have R : Cm.isR y g p n = true := by unfold Cm.isR; rw [isH_of oy (by omega) hp, within_iff.mpr hn]; rfl
      have E2 : Cm.hWrite y g p n w = Cm.writeP y g.toNat p.toNat n.toNat w := if_pos ⟨R, r.2⟩
      obtain ⟨o2, L2, W2⟩ := writeP_ok oy (g := g.toNat) (p := p.toNat) (by omega) hpn n.toNat hw
      rw [E2]
      generalize Cm.writeP y g.toNat p.toNat n.toNat w = z at *
      have P := s.pg g.toNat p.toNat hgn hpn
      have V : z.2 = x.2 := by rw [W2.1, W.1, P]
      have SS : Same x.1 z.1 := ⟨by omega, fun k q hk hq => by
        rw [W2.2 k q (by omega) hq, W.2 k q (by omega) hq, P, s.pg k q (by omega) hq]⟩
      rw [V, SS.seen o1 o2, ok_iff.mpr o2]
      exact ⟨bx, fun _ => shH_bd o2.sh, fun _ => rfl, by simp⟩
  · have : Cm.hWrite h g p n w = (Cm.h0, -3) := if_neg r
    rw [this] at c
    cases c))
theorem kn_laws_FnWriteShared : Known Try.prog 11 sLawB := known_of tabOk (AllK.cons (AllK.cons (AllK.cons (AllK.cons (AllK.cons (AllK.cons (AllK.cons kn0 kn_impl_HostWrite) kn_spec_HostWrite) kn_dwrite) kn_laws_lkAlone) kn_laws_lkSeen) kn_pjF) kn_laws_lkHost) mixed Try.func11 (by kernel_rfl) (ok_laws_FnWriteShared dWrite_good)
end Go.Proofs.Ytkcpacgnejlpbaa.T
open Go Go.Am Go.Proofs
open Go.Cm (R rdOk)
namespace Go.Proofs.Ytkcpacgnejlpbaa.T
set_option maxRecDepth 10000
set_option maxHeartbeats 0
end Go.Proofs.Ytkcpacgnejlpbaa.T
open Go Go.Am Go.Proofs
open Go.ChangeShapes Go.WideShapes Go.ChangeAt Go.RowKit
namespace Go.Proofs.Ytkcpacgnejlpbaa.T
theorem own : ownKnob Try.prog.godebug = none := by kernel_rfl
theorem laidOut : laidOutB Try.prog = true := by kernel_rfl
theorem bytes_of {y : List Int} (h : Wf kU y) : Cm.bytes y := fun i hi => by
  have h1 : (Lit.int .u8 (y.getD i 0)).wf = true := h.2 i hi
  generalize y.getD i 0 = x at h1 ⊢
  have e1 : IntKind.u8.min = 0 := rfl
  have e2 : IntKind.u8.max = 255 := rfl
  simp [Lit.wf, e1, e2] at h1
  omega
end Go.Proofs.Ytkcpacgnejlpbaa.T
