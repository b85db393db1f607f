/-
  For each function of hosts: what the machine asks of it, written out; no condition.
-/
import Derived.Test.YtcfmelkegjpciaaV1
set_option linter.all false
open Go Go.Am Go.Proofs
open Go.Cm (R rdOk)
namespace Go.Proofs.Ytcfmelkegjpciaa.T
set_option maxHeartbeats 0
set_option maxRecDepth 100000
abbrev A1 {α : Type} (f : α → St) (m : α → Nat) (I : α → Prop) : Ann := .mk α f m I fun _ _ => .none
def an_szGs (l : List Cm.Gt) (n : Int) : Ann := A1 (fun a : Nat × Int => ⟨[(0, .vsl kG l), (1, nn a.2), (5, nn (a.1 : Int))], [], []⟩) (fun a => l.length - a.1) (fun a => a.1 ≤ l.length ∧ (0 ≤ a.2 ∧ a.2 ≤ 1048576) ∧ Cm.szT (Cm.totGs l) n = Cm.szT (Cm.totS (l.drop a.1)) a.2)
def an_toEs (l : List Cm.E) : Ann := A1 (fun i : Nat => ⟨[(0, .vsl kE l), (3, rf 0), (4, nn (i : Int))], [rt 0 kE (Cm.fill Cm.e0 l i)], []⟩) (fun i => l.length - i) (fun i => i ≤ l.length)
def an_toSs (l : List Cm.Sh) : Ann := A1 (fun i : Nat => ⟨[(0, .vsl kS l), (3, rf 0), (4, nn (i : Int))], [rt 0 kS (Cm.fill Cm.s0 l i)], []⟩) (fun i => l.length - i) (fun i => i ≤ l.length)
def an_toGs (l : List Cm.Gt) : Ann := A1 (fun i : Nat => ⟨[(0, .vsl kG l), (3, rf 0), (4, nn (i : Int))], [rt 0 kG (Cm.fill Cm.g0 l i)], []⟩) (fun i => l.length - i) (fun i => i ≤ l.length)
def an_eqEs (a b : List Cm.E) : Ann := A1 (fun i : Nat => ⟨[(0, .vsl kE a), (1, .vsl kE b), (5, nn (i : Int))], [], []⟩) (fun i => a.length - i) (fun i => i ≤ a.length ∧ Cm.eqEs a b = Cm.eqEs (a.drop i) (b.drop i))
def an_eqSs (a b : List Cm.Sh) : Ann := A1 (fun i : Nat => ⟨[(0, .vsl kS a), (1, .vsl kS b), (5, nn (i : Int))], [], []⟩) (fun i => a.length - i) (fun i => i ≤ a.length ∧ Cm.eqSs a b = Cm.eqSs (a.drop i) (b.drop i))
def an_eqGs (a b : List Cm.Gt) : Ann := A1 (fun i : Nat => ⟨[(0, .vsl kG a), (1, .vsl kG b), (5, nn (i : Int))], [], []⟩) (fun i => a.length - i) (fun i => i ≤ a.length ∧ Cm.eqGs a b = Cm.eqGs (a.drop i) (b.drop i))
def an_markEs (a : List Cm.E) (k : Int) : Ann := A1 (fun i : Nat => ⟨[(0, .rf 0 0 0 []), (1, nn (k + 3 * (i : Int))), (5, nn (i : Int))], [(0, ⟨0, 0, some ⟨kE, (Cm.mkEs k i ++ a.drop i : List Cm.E), true⟩, none⟩)], []⟩) (fun i => a.length - i) (fun i => i ≤ a.length)
def an_markSs (a : List Cm.Sh) (k : Int) : Ann := A1 (fun i : Nat => ⟨[(0, .rf 0 0 0 []), (1, nn (k + 4 * (i : Int))), (5, nn (i : Int))], [(0, ⟨0, 0, some ⟨kS, (Cm.mkSs k i ++ a.drop i : List Cm.Sh), true⟩, none⟩)], []⟩) (fun i => a.length - i) (fun i => i ≤ a.length)
def an_heldEs (a : List Cm.E) (k : Int) : Ann := A1 (fun i : Nat => ⟨[(0, .vsl kE a), (1, nn (k + 3 * (i : Int))), (5, nn (i : Int))], [], []⟩) (fun i => a.length - i) (fun i => i ≤ a.length)
def an_heldSs (a : List Cm.Sh) (k : Int) : Ann := A1 (fun i : Nat => ⟨[(0, .vsl kS a), (1, nn (k + 4 * (i : Int))), (5, nn (i : Int))], [], []⟩) (fun i => a.length - i) (fun i => i ≤ a.length)
def an_markGs (a : List Cm.Gt) (k : Int) : Ann := A1 (fun i : Nat => ⟨[(0, .rf 0 0 0 []), (1, nn (k + Cm.cntS (a.take i))), (5, nn (i : Int))], [(0, ⟨0, 0, some ⟨kG, (Cm.mkGs (a.take i) k ++ a.drop i : List Cm.Gt), true⟩, none⟩)], []⟩) (fun i => a.length - i) (fun i => i ≤ a.length)
def an_heldGs (a : List Cm.Gt) (k : Int) : Ann := A1 (fun i : Nat => ⟨[(0, .vsl kG a), (1, nn (k + Cm.cntS (a.take i))), (5, nn (i : Int))], [], []⟩) (fun i => a.length - i) (fun i => i ≤ a.length)
def an_manyI (gs : List Cm.Gt) (f : Int) (i : Nat) : Ann := A1 (fun a : Nat × Int => ⟨[(1, nn f), (5, nn a.2), (11, .vsl kG gs), (12, nn gs.length), (13, nn (i : Int)), (18, .vsl kE (List.getD gs i Cm.g0).1), (19, nn (List.getD gs i Cm.g0).1.length), (20, nn (a.1 : Int))], [], []⟩)
  (fun a => (List.getD gs i Cm.g0).1.length - a.1) (fun a => a.1 ≤ (List.getD gs i Cm.g0).1.length ∧ (0 ≤ a.2 ∧ a.2 ≤ 1048576 * (i : Int) + (a.1 : Int)) ∧ Cm.useG f gs = a.2 + Cm.useM f ((List.getD gs i Cm.g0).1.drop a.1) + Cm.useG f (gs.drop (i + 1)))
def an_many (gs : List Cm.Gt) (f : Int) : Ann := .mk (Nat × Int) (fun a => ⟨[(1, nn f), (5, nn a.2), (11, .vsl kG gs), (12, nn gs.length), (13, nn (a.1 : Int))], [], []⟩)
  (fun a => gs.length - a.1) (fun a => a.1 ≤ gs.length ∧ (0 ≤ a.2 ∧ a.2 ≤ 1048576 * (a.1 : Int)) ∧ Cm.useG f gs = a.2 + Cm.useG f (gs.drop a.1)) fun a _ => an_manyI gs f a.1
def an_usersI (h : Cm.Ho) (f : Int) (i : Nat) : Ann := A1 (fun a : Nat × Int => ⟨[(1, nn f), (2, pb 0), (5, nn a.2), (6, nn (i : Int)), (7, nn (a.1 : Int))], [], [bxv 0 kH h]⟩)
  (fun a => (List.getD h.2.1 i Cm.g0).1.length - a.1) (fun a => (i < h.2.1.length ∧ a.1 ≤ (List.getD h.2.1 i Cm.g0).1.length) ∧ (0 ≤ a.2 ∧ a.2 ≤ 1048576 * (i : Int) + (a.1 : Int)) ∧ Cm.users h f = a.2 + Cm.useM f ((List.getD h.2.1 i Cm.g0).1.drop a.1) + Cm.useG f (h.2.1.drop (i + 1)))
def an_users (h : Cm.Ho) (f : Int) : Ann := .mk (Nat × Int) (fun a => ⟨[(1, nn f), (2, pb 0), (5, nn a.2), (6, nn (a.1 : Int))], [], [bxv 0 kH h]⟩)
  (fun a => h.2.1.length - a.1) (fun a => a.1 ≤ h.2.1.length ∧ (0 ≤ a.2 ∧ a.2 ≤ 1048576 * (a.1 : Int)) ∧ Cm.users h f = a.2 + Cm.useG f (h.2.1.drop a.1)) fun a _ => an_usersI h f a.1
def an_index (a : Cm.Pg) : Ann := A1 (fun i : Nat => ⟨[(0, .vsl kI a), (1, .fn 165 .nil .nil), (7, nn a.length), (8, nn (i : Int))], [], []⟩) (fun i => a.length - i) (fun i => i ≤ a.length ∧ Cm.idxNZ a 0 = Cm.idxNZ (a.drop i) (i : Int))
def an_blank (a : Cm.Pg) : Ann := A1 (fun i : Nat => ⟨[(0, .vsl kI a), (3, nn (i : Int))], [], []⟩) (fun i => a.length - i) (fun i => i ≤ a.length ∧ Cm.blank a = Cm.blank (a.drop i))
def an_gOk (h : Cm.Ho) (g : Cm.Gt) : Nat → Ann
  | 0 => A1 (fun i : Nat => ⟨[(2, pb 0), (3, pb 1), (27, .vsl kE g.1), (28, nn g.1.length), (29, nn (i : Int))], [], [bxv 0 kH h, bxv 1 kG g]⟩) (fun i => g.1.length - i)
    (fun i => (i ≤ g.1.length ∧ Cm.szOk g = true) ∧ Cm.mapsOk (Cm.users h) g.1 g.2.1 = Cm.mapsOk (Cm.users h) (g.1.drop i) (g.2.1.drop i))
  | _ => A1 (fun i : Nat => ⟨[(3, pb 1), (66, .vsl kS g.2.2), (67, nn g.2.2.length), (68, nn (i : Int))], [], [bxv 1 kG g]⟩) (fun i => g.2.2.length - i)
    (fun i => (i ≤ g.2.2.length ∧ Cm.szOk g = true ∧ Cm.mapsOk (Cm.users h) g.1 g.2.1 = true) ∧ Cm.shsOk g.1 g.2.2 = Cm.shsOk g.1 (g.2.2.drop i))
def an_hOkI (h : Cm.Ho) : Ann := A1 (fun i : Nat => ⟨[(1, pb 0), (29, .vsl kG h.2.1), (30, nn h.2.1.length), (31, nn (i : Int))], [], [bxv 0 kH h]⟩) (fun i => h.2.1.length - i)
  (fun i => i ≤ h.2.1.length ∧ Cm.gsOk (Cm.users h) h.2.1 = Cm.gsOk (Cm.users h) (h.2.1.drop i))
def an_hOkP (h : Cm.Ho) (i : Nat) : Ann := A1 (fun p : Nat => ⟨[(1, pb 0), (5, nn (i : Int)), (6, pb 1), (7, nn (p : Int))], [], [bxv 0 kH h, bxv 1 kG (List.getD h.2.1 i Cm.g0)]⟩) (fun p => 6 - p)
  (fun p => (p ≤ 6 ∧ i < h.2.1.length ∧ Cm.szsOk h.2.1 = true) ∧ Cm.gsOk (Cm.users h) h.2.1 = ((Cm.mapsOk (Cm.users h) ((List.getD h.2.1 i Cm.g0).1.drop p) ((List.getD h.2.1 i Cm.g0).2.1.drop p) && Cm.shsOk (List.getD h.2.1 i Cm.g0).1 ((List.getD h.2.1 i Cm.g0).2.2.drop p)) && Cm.gsOk (Cm.users h) (h.2.1.drop (i + 1))))
def an_hOkS (h : Cm.Ho) : Nat → Ann
  | 0 => A1 (fun i : Nat => ⟨[(1, pb 0), (3, nn (i : Int))], [], [bxv 0 kH h]⟩) (fun i => h.2.1.length - i) (fun i => i ≤ h.2.1.length ∧ Cm.szsOk h.2.1 = Cm.szsOk (h.2.1.drop i))
  | _ => .mk Nat (fun i => ⟨[(1, pb 0), (5, nn (i : Int))], [], [bxv 0 kH h]⟩) (fun i => h.2.1.length - i) (fun i => (i ≤ h.2.1.length ∧ Cm.szsOk h.2.1 = true) ∧ Cm.gsOk (Cm.users h) h.2.1 = Cm.gsOk (Cm.users h) (h.2.1.drop i)) fun i _ => an_hOkP h i
def an_seeS (h : Cm.Ho) (g : Int) : Ann := A1 (fun i : Nat => ⟨[(1, nn g), (2, pb 0), (5, rf 0), (6, nn (i : Int))], [rt 0 kP ((Cm.see h g).take i : Cm.Mm)], [bxv 0 kH h]⟩) (fun i => 6 - i) (fun i => i ≤ 6)
def an_seeI (h : Cm.Ho) (g : Int) : Ann := A1 (fun i : Nat => ⟨[(2, pb 0), (5, rf 0), (6, pb 1), (17, .vsl kE (List.getD h.2.1 g.toNat Cm.g0).1), (18, nn (List.getD h.2.1 g.toNat Cm.g0).1.length), (19, nn (i : Int))], [rt 0 kP ((Cm.see h g).take i : Cm.Mm)], [bxv 0 kH h, bxv 1 kG (List.getD h.2.1 g.toNat Cm.g0)]⟩) (fun i => 6 - i) (fun i => i ≤ 6)
def ownH (hand : Int) : AV := .pr (rf 0) (.pr (rf 1) (nn hand))
def an_copyHS (h : Cm.Ho) : Ann := .peel (h.2.1.length + 1) (fun _ => .none) Nat (fun i => ⟨[(1, pb 0), (2, pb 2), (3, pb 1), (4, nn (i : Int))], [rt 0 kP h.1, rt 1 kG (h.2.1.take i : List Cm.Gt)], [bxv 0 kH h, (1001, ⟨0, some (ownH h.2.2), false⟩), bxv 2 kH Cm.h0]⟩) (fun i => h.2.1.length - i) (fun i => i ≤ h.2.1.length) fun _ _ => .none
def an_copyHI (h : Cm.Ho) : Ann := A1 (fun i : Nat => ⟨[(14, .vsl kG h.2.1), (15, nn h.2.1.length), (16, nn (i : Int)), (2, pb 2), (3, pb 1)], [rt 0 kP h.1, rt 1 kG (h.2.1.take i : List Cm.Gt)], [(1001, ⟨0, some (ownH h.2.2), false⟩), bxv 2 kH Cm.h0]⟩) (fun i => h.2.1.length - i) (fun i => i ≤ h.2.1.length)
noncomputable def E_laws_szMapS : Env := En (Go.Am.look [] [])
theorem vc_laws_szMapS (l : List Cm.E) (n : Int) : (FGA E_laws_szMapS Try.f156 (sSz kE) [⟨kEs, l⟩,  ⟨kI, n⟩] no) = (
 ifb (decide (IntKind.wrap IntKind.i64 (n - (↑(List.length l) : Int)) < (0 : Int))) ((-1 : Int) = Cm.szL l n ∧ True)
 (IntKind.wrap IntKind.i64 (n - (↑(List.length l) : Int)) = Cm.szL l n ∧ True)) := by kernel_rfl
noncomputable def E_laws_szShadeS : Env := En (Go.Am.look [] [])
theorem vc_laws_szShadeS (l : List Cm.Sh) (n : Int) : (FGA E_laws_szShadeS Try.f157 (sSz kS) [⟨kSs, l⟩,  ⟨kI, n⟩] no) = (
 ifb (decide (IntKind.wrap IntKind.i64 (n - (↑(List.length l) : Int)) < (0 : Int))) ((-1 : Int) = Cm.szL l n ∧ True)
 (IntKind.wrap IntKind.i64 (n - (↑(List.length l) : Int)) = Cm.szL l n ∧ True)) := by kernel_rfl
noncomputable def E_laws_szGuest : Env := En (Go.Am.look [] [(23, [sSzM]), (156, [(sSz kE)]), (157, [(sSz kS)])])
theorem vc_laws_szGuest (g : Cm.Gt) (n : Int) : (FGA E_laws_szGuest Try.f136 sSzG [⟨kG, g⟩,  ⟨kI, n⟩] no) = (
 True ∧
 ifb (decide (Cm.szL g.1 n < (0 : Int))) ((-1 : Int) = Cm.szT (Cm.totG g) n ∧ True)
 ((Cm.wfM g.2.1 ∧ (0 : Int) ≤ Cm.szL g.1 n ∧ Cm.szL g.1 n ≤ (1048576 : Int)) ∧
 ifb (decide (Cm.szLL g.2.1 (Cm.szL g.1 n) < (0 : Int))) ((-1 : Int) = Cm.szT (Cm.totG g) n ∧ True)
 (True ∧
 ifb (decide (Cm.szL g.2.2 (Cm.szLL g.2.1 (Cm.szL g.1 n)) < (0 : Int)))
 ((-1 : Int) = Cm.szT (Cm.totG g) n ∧ True)
 (Cm.szL g.2.2 (Cm.szLL g.2.1 (Cm.szL g.1 n)) = Cm.szT (Cm.totG g) n ∧ True)))) := by kernel_rfl
noncomputable def E_laws_szGuestS : Env := En (Go.Am.look [] [(136, [sSzG])])
theorem vc_laws_szGuestS (l : List Cm.Gt) (n : Int) : (FGA E_laws_szGuestS Try.f106 sSzGs [⟨kGs, l⟩,  ⟨kI, n⟩] (one (an_szGs l n))) = (
 ifb (decide (IntKind.wrap IntKind.i64 (n - (↑(List.length l) : Int)) < (0 : Int)))
 ((-1 : Int) = Cm.szT (Cm.totGs l) n ∧ True)
 ((∃ (a : Nat × Int),
 (a.1 ≤ List.length l ∧
 ((0 : Int) ≤ a.2 ∧ a.2 ≤ (1048576 : Int)) ∧ Cm.szT (Cm.totGs l) n = Cm.szT (Cm.totS (List.drop a.1 l)) a.2) ∧
 (l = l ∧ a.2 = IntKind.wrap IntKind.i64 (n - (↑(List.length l) : Int)) ∧ (↑a.1 : Int) = (0 : Int)) ∧
 True ∧ True) ∧
 ∀ (a : Nat × Int),
 a.1 ≤ List.length l ∧
 ((0 : Int) ≤ a.2 ∧ a.2 ≤ (1048576 : Int)) ∧ Cm.szT (Cm.totGs l) n = Cm.szT (Cm.totS (List.drop a.1 l)) a.2 →
 ifb (decide ((↑a.1 : Int) < (↑(List.length l) : Int)))
 (((0 : Int) ≤ (↑a.1 : Int) ∧ (↑a.1 : Int) < (↑(List.length l) : Int)) ∧
 (Cm.wfG (List.getD l a.1 Cm.g0) ∧ (0 : Int) ≤ a.2 ∧ a.2 ≤ (1048576 : Int)) ∧
 ifb (decide (Cm.szT (Cm.totG (List.getD l a.1 Cm.g0)) a.2 < (0 : Int)))
 ((-1 : Int) = Cm.szT (Cm.totGs l) n ∧ True)
 (∃ (a' : Nat × Int),
 ((a'.1 ≤ List.length l ∧
 ((0 : Int) ≤ a'.2 ∧ a'.2 ≤ (1048576 : Int)) ∧
 Cm.szT (Cm.totGs l) n = Cm.szT (Cm.totS (List.drop a'.1 l)) a'.2) ∧
 List.length l - a'.1 < List.length l - a.1) ∧
 (l = l ∧
 a'.2 = Cm.szT (Cm.totG (List.getD l a.1 Cm.g0)) a.2 ∧
 (↑a'.1 : Int) = IntKind.wrap IntKind.i64 ((↑a.1 : Int) + (1 : Int))) ∧
 True ∧ True))
 (a.2 = Cm.szT (Cm.totGs l) n ∧ True))) := by kernel_rfl
noncomputable def E_laws_szHost : Env := En (Go.Am.look [] [(23, [sSzM]), (106, [sSzGs])])
theorem vc_laws_szHost (h : Cm.Ho) (n : Int) : (FGA E_laws_szHost Try.f54 sSzH [⟨kH, h⟩,  ⟨kI, n⟩] no) = (
 (Cm.wfM h.1 ∧ (0 : Int) ≤ n ∧ n ≤ (1048576 : Int)) ∧
 ifb (decide (Cm.szLL h.1 n < (0 : Int))) ((-1 : Int) = Cm.szT (Cm.totH h) n ∧ True)
 ((Cm.wfGs h.2.1 ∧ (0 : Int) ≤ Cm.szLL h.1 n ∧ Cm.szLL h.1 n ≤ (1048576 : Int)) ∧
 ifb (decide (Cm.szT (Cm.totGs h.2.1) (Cm.szLL h.1 n) < (0 : Int))) ((-1 : Int) = Cm.szT (Cm.totH h) n ∧ True)
 (Cm.szT (Cm.totGs h.2.1) (Cm.szLL h.1 n) = Cm.szT (Cm.totH h) n ∧ True))) := by kernel_rfl
noncomputable def E_laws_toMap : Env := En (Go.Am.look [] [])
theorem vc_laws_toMap (a : Cm.E) : (FGA E_laws_toMap Try.f168 (sId kE) [⟨kE, a⟩] no) = (
 a = a ∧ True) := by kernel_rfl
noncomputable def E_laws_toShade : Env := En (Go.Am.look [] [])
theorem vc_laws_toShade (a : Cm.Sh) : (FGA E_laws_toShade Try.f169 (sId kS) [⟨kS, a⟩] no) = (
 a = a ∧ True) := by kernel_rfl
noncomputable def E_laws_toMapS : Env := En (Go.Am.look [] [(168, [(sId kE)])])
theorem vc_laws_toMapS (l : List Cm.E) : (FGA E_laws_toMapS Try.f158 (sToL kE) [⟨kEs, l⟩] (one (an_toEs l))) = (
 ((↑(List.length l) : Int) = (↑(List.length l) : Int) ∧
 (0 : Int) ≤ (↑(List.length l) : Int) ∧ (↑(List.length l) : Int) * (↑(nat_lit 24) : Int) ≤ (140737488355328 : Int)) ∧
 (∃ (a : Nat),
 a ≤ List.length l ∧
 (l = l ∧ ([] : Go.Am.Pth) = [] ∧ (↑a : Int) = (0 : Int)) ∧
 Cm.fill Cm.e0 l a = List.replicate (List.length l) Cm.e0 ∧ True) ∧
 ∀ (a : Nat),
 a ≤ List.length l →
 ifb (decide ((↑a : Int) < (↑(List.length l) : Int)))
 (((0 : Int) ≤ (↑a : Int) ∧ (↑a : Int) < (↑(List.length l) : Int)) ∧
 True ∧
 ((0 : Int) ≤ (↑a : Int) ∧ (↑a : Int) < (↑(List.length (Cm.fill Cm.e0 l a)) : Int)) ∧
 ∃ (a' : Nat),
 (a' ≤ List.length l ∧ List.length l - a' < List.length l - a) ∧
 (l = l ∧ ([] : Go.Am.Pth) = [] ∧ (↑a' : Int) = IntKind.wrap IntKind.i64 ((↑a : Int) + (1 : Int))) ∧
 Cm.fill Cm.e0 l a' = List.set (Cm.fill Cm.e0 l a) a (List.getD l a Cm.e0) ∧
 True)
 (Cm.fill Cm.e0 l a = l ∧ True)) := by kernel_rfl
noncomputable def E_laws_toShadeS : Env := En (Go.Am.look [] [(169, [(sId kS)])])
theorem vc_laws_toShadeS (l : List Cm.Sh) : (FGA E_laws_toShadeS Try.f159 (sToL kS) [⟨kSs, l⟩] (one (an_toSs l))) = (
 ((↑(List.length l) : Int) = (↑(List.length l) : Int) ∧
 (0 : Int) ≤ (↑(List.length l) : Int) ∧ (↑(List.length l) : Int) * (↑(nat_lit 32) : Int) ≤ (140737488355328 : Int)) ∧
 (∃ (a : Nat),
 a ≤ List.length l ∧
 (l = l ∧ ([] : Go.Am.Pth) = [] ∧ (↑a : Int) = (0 : Int)) ∧
 Cm.fill Cm.s0 l a = List.replicate (List.length l) Cm.s0 ∧ True) ∧
 ∀ (a : Nat),
 a ≤ List.length l →
 ifb (decide ((↑a : Int) < (↑(List.length l) : Int)))
 (((0 : Int) ≤ (↑a : Int) ∧ (↑a : Int) < (↑(List.length l) : Int)) ∧
 True ∧
 ((0 : Int) ≤ (↑a : Int) ∧ (↑a : Int) < (↑(List.length (Cm.fill Cm.s0 l a)) : Int)) ∧
 ∃ (a' : Nat),
 (a' ≤ List.length l ∧ List.length l - a' < List.length l - a) ∧
 (l = l ∧ ([] : Go.Am.Pth) = [] ∧ (↑a' : Int) = IntKind.wrap IntKind.i64 ((↑a : Int) + (1 : Int))) ∧
 Cm.fill Cm.s0 l a' =
 List.set (Cm.fill Cm.s0 l a) a (List.getD l a Cm.s0) ∧
 True)
 (Cm.fill Cm.s0 l a = l ∧ True)) := by kernel_rfl
noncomputable def E_laws_toGuest : Env := En (Go.Am.look [] [(25, [sToM]), (158, [(sToL kE)]), (159, [(sToL kS)])])
theorem vc_laws_toGuest (g : Cm.Gt) : (FGA E_laws_toGuest Try.f138 sToG [⟨kG, g⟩] no) = (
 List.length g.1 ≤ (1048576 : Nat) ∧ Cm.bd g.2.1 ∧ List.length g.2.2 ≤ (1048576 : Nat) ∧ g = g ∧ True) := by kernel_rfl
noncomputable def E_laws_toGuestS : Env := En (Go.Am.look [] [(138, [sToG])])
theorem vc_laws_toGuestS (l : List Cm.Gt) : (FGA E_laws_toGuestS Try.f109 sToGs [⟨kGs, l⟩] (one (an_toGs l))) = (
 ((↑(List.length l) : Int) = (↑(List.length l) : Int) ∧
 (0 : Int) ≤ (↑(List.length l) : Int) ∧ (↑(List.length l) : Int) * (↑(nat_lit 72) : Int) ≤ (140737488355328 : Int)) ∧
 (∃ (a : Nat),
 a ≤ List.length l ∧
 (l = l ∧ ([] : Go.Am.Pth) = [] ∧ (↑a : Int) = (0 : Int)) ∧
 Cm.fill Cm.g0 l a = List.replicate (List.length l) Cm.g0 ∧ True) ∧
 ∀ (a : Nat),
 a ≤ List.length l →
 ifb (decide ((↑a : Int) < (↑(List.length l) : Int)))
 (((0 : Int) ≤ (↑a : Int) ∧ (↑a : Int) < (↑(List.length l) : Int)) ∧
 Cm.bdG (List.getD l a Cm.g0) ∧
 ((0 : Int) ≤ (↑a : Int) ∧ (↑a : Int) < (↑(List.length (Cm.fill Cm.g0 l a)) : Int)) ∧
 ∃ (a' : Nat),
 (a' ≤ List.length l ∧ List.length l - a' < List.length l - a) ∧
 (l = l ∧ ([] : Go.Am.Pth) = [] ∧ (↑a' : Int) = IntKind.wrap IntKind.i64 ((↑a : Int) + (1 : Int))) ∧
 Cm.fill Cm.g0 l a' = List.set (Cm.fill Cm.g0 l a) a (List.getD l a Cm.g0) ∧ True)
 (Cm.fill Cm.g0 l a = l ∧ True)) := by kernel_rfl
noncomputable def E_laws_toHost : Env := En (Go.Am.look [] [(25, [sToM]), (109, [sToGs])])
theorem vc_laws_toHost (h : Cm.Ho) : (FGA E_laws_toHost Try.f56 sToH [⟨kH, h⟩] no) = (
 Cm.bd h.1 ∧ Cm.bdGs h.2.1 ∧ h = h ∧ True) := by kernel_rfl
noncomputable def E_laws_eqMap : Env := En (Go.Am.look [] [])
theorem vc_laws_eqMap (a b : Cm.E) : (FGA E_laws_eqMap Try.f170 sEqE [⟨kE, a⟩,  ⟨kE, b⟩] no) = (
 ifb (!a.1 == b.1) (false = Cm.eqE a b ∧ True)
 (ifb (a.2.1 != b.2.1) (false = Cm.eqE a b ∧ True)
 (ifb (!a.2.2 == b.2.2) (false = Cm.eqE a b ∧ True) (true = Cm.eqE a b ∧ True)))) := by kernel_rfl
noncomputable def E_laws_eqShade : Env := En (Go.Am.look [] [])
theorem vc_laws_eqShade (a b : Cm.Sh) : (FGA E_laws_eqShade Try.f171 sEqS [⟨kS, a⟩,  ⟨kS, b⟩] no) = (
 ifb (!a.1 == b.1) (false = Cm.eqS a b ∧ True)
 (ifb (a.2.1 != b.2.1) (false = Cm.eqS a b ∧ True)
 (ifb (a.2.2.1 != b.2.2.1) (false = Cm.eqS a b ∧ True)
 (ifb (!a.2.2.2 == b.2.2.2) (false = Cm.eqS a b ∧ True) (true = Cm.eqS a b ∧ True))))) := by kernel_rfl
noncomputable def E_laws_eqMapS : Env := En (Go.Am.look [] [(170, [sEqE])])
theorem vc_laws_eqMapS (a b : List Cm.E) : (FGA E_laws_eqMapS Try.f160 sEqEs [⟨kEs, a⟩,  ⟨kEs, b⟩] (one (an_eqEs a b))) = (
 ifb ((↑(List.length a) : Int) != (↑(List.length b) : Int)) (false = Cm.eqEs a b ∧ True)
 ((∃ (a_1 : Nat),
 (a_1 ≤ List.length a ∧ Cm.eqEs a b = Cm.eqEs (List.drop a_1 a) (List.drop a_1 b)) ∧
 (a = a ∧ b = b ∧ (↑a_1 : Int) = (0 : Int)) ∧ True ∧ True) ∧
 ∀ (a_1 : Nat),
 a_1 ≤ List.length a ∧ Cm.eqEs a b = Cm.eqEs (List.drop a_1 a) (List.drop a_1 b) →
 ifb (decide ((↑a_1 : Int) < (↑(List.length a) : Int)))
 (((0 : Int) ≤ (↑a_1 : Int) ∧ (↑a_1 : Int) < (↑(List.length a) : Int)) ∧
 ((0 : Int) ≤ (↑a_1 : Int) ∧ (↑a_1 : Int) < (↑(List.length b) : Int)) ∧
 True ∧
 ifb (!Cm.eqE (List.getD a a_1 Cm.e0) (List.getD b a_1 Cm.e0))
 (false = Cm.eqEs a b ∧ True)
 (∃ (a' : Nat),
 ((a' ≤ List.length a ∧ Cm.eqEs a b = Cm.eqEs (List.drop a' a) (List.drop a' b)) ∧
 List.length a - a' < List.length a - a_1) ∧
 (a = a ∧ b = b ∧ (↑a' : Int) = IntKind.wrap IntKind.i64 ((↑a_1 : Int) + (1 : Int))) ∧
 True ∧ True))
 (true = Cm.eqEs a b ∧ True))) := by kernel_rfl
noncomputable def E_laws_eqShadeS : Env := En (Go.Am.look [] [(171, [sEqS])])
theorem vc_laws_eqShadeS (a b : List Cm.Sh) : (FGA E_laws_eqShadeS Try.f161 sEqSs [⟨kSs, a⟩,  ⟨kSs, b⟩] (one (an_eqSs a b))) = (
 ifb ((↑(List.length a) : Int) != (↑(List.length b) : Int)) (false = Cm.eqSs a b ∧ True)
 ((∃ (a_1 : Nat),
 (a_1 ≤ List.length a ∧ Cm.eqSs a b = Cm.eqSs (List.drop a_1 a) (List.drop a_1 b)) ∧
 (a = a ∧ b = b ∧ (↑a_1 : Int) = (0 : Int)) ∧ True ∧ True) ∧
 ∀ (a_1 : Nat),
 a_1 ≤ List.length a ∧ Cm.eqSs a b = Cm.eqSs (List.drop a_1 a) (List.drop a_1 b) →
 ifb (decide ((↑a_1 : Int) < (↑(List.length a) : Int)))
 (((0 : Int) ≤ (↑a_1 : Int) ∧ (↑a_1 : Int) < (↑(List.length a) : Int)) ∧
 ((0 : Int) ≤ (↑a_1 : Int) ∧ (↑a_1 : Int) < (↑(List.length b) : Int)) ∧
 True ∧
 ifb
 (!Cm.eqS (List.getD a a_1 Cm.s0)
 (List.getD b a_1 Cm.s0))
 (false = Cm.eqSs a b ∧ True)
 (∃ (a' : Nat),
 ((a' ≤ List.length a ∧ Cm.eqSs a b = Cm.eqSs (List.drop a' a) (List.drop a' b)) ∧
 List.length a - a' < List.length a - a_1) ∧
 (a = a ∧ b = b ∧ (↑a' : Int) = IntKind.wrap IntKind.i64 ((↑a_1 : Int) + (1 : Int))) ∧
 True ∧ True))
 (true = Cm.eqSs a b ∧ True))) := by kernel_rfl
noncomputable def E_laws_eqGuest : Env := En (Go.Am.look [] [(28, [sEqM]), (160, [sEqEs]), (161, [sEqSs])])
theorem vc_laws_eqGuest (a b : Cm.Gt) : (FGA E_laws_eqGuest Try.f139 sEqG [⟨kG, a⟩,  ⟨kG, b⟩] no) = (
 List.length a.1 ≤ (1048576 : Nat) ∧
 ifb (!Cm.eqEs a.1 b.1) (false = Cm.eqG a b ∧ True)
 (Cm.bd a.2.1 ∧
 ifb (!Cm.eqM a.2.1 b.2.1) (false = Cm.eqG a b ∧ True)
 (List.length a.2.2 ≤ (1048576 : Nat) ∧
 ifb (!Cm.eqSs a.2.2 b.2.2) (false = Cm.eqG a b ∧ True) (true = Cm.eqG a b ∧ True)))) := by kernel_rfl
noncomputable def E_laws_eqGuestS : Env := En (Go.Am.look [] [(139, [sEqG])])
theorem vc_laws_eqGuestS (a b : List Cm.Gt) : (FGA E_laws_eqGuestS Try.f111 sEqGs [⟨kGs, a⟩,  ⟨kGs, b⟩] (one (an_eqGs a b))) = (
 ifb ((↑(List.length a) : Int) != (↑(List.length b) : Int)) (false = Cm.eqGs a b ∧ True)
 ((∃ (a_1 : Nat),
 (a_1 ≤ List.length a ∧ Cm.eqGs a b = Cm.eqGs (List.drop a_1 a) (List.drop a_1 b)) ∧
 (a = a ∧ b = b ∧ (↑a_1 : Int) = (0 : Int)) ∧ True ∧ True) ∧
 ∀ (a_1 : Nat),
 a_1 ≤ List.length a ∧ Cm.eqGs a b = Cm.eqGs (List.drop a_1 a) (List.drop a_1 b) →
 ifb (decide ((↑a_1 : Int) < (↑(List.length a) : Int)))
 (((0 : Int) ≤ (↑a_1 : Int) ∧ (↑a_1 : Int) < (↑(List.length a) : Int)) ∧
 ((0 : Int) ≤ (↑a_1 : Int) ∧ (↑a_1 : Int) < (↑(List.length b) : Int)) ∧
 Cm.bdG (List.getD a a_1 Cm.g0) ∧
 ifb (!Cm.eqG (List.getD a a_1 Cm.g0) (List.getD b a_1 Cm.g0)) (false = Cm.eqGs a b ∧ True)
 (∃ (a' : Nat),
 ((a' ≤ List.length a ∧ Cm.eqGs a b = Cm.eqGs (List.drop a' a) (List.drop a' b)) ∧
 List.length a - a' < List.length a - a_1) ∧
 (a = a ∧ b = b ∧ (↑a' : Int) = IntKind.wrap IntKind.i64 ((↑a_1 : Int) + (1 : Int))) ∧
 True ∧ True))
 (true = Cm.eqGs a b ∧ True))) := by kernel_rfl
noncomputable def E_laws_eqHost : Env := En (Go.Am.look [] [(28, [sEqM]), (111, [sEqGs])])
theorem vc_laws_eqHost (a b : Cm.Ho) : (FGA E_laws_eqHost Try.f58 sEqH [⟨kH, a⟩,  ⟨kH, b⟩] no) = (
 Cm.bd a.1 ∧
 ifb (!Cm.eqM a.1 b.1) (false = Cm.eqH a b ∧ True)
 (Cm.bdGs a.2.1 ∧
 ifb (!Cm.eqGs a.2.1 b.2.1) (false = Cm.eqH a b ∧ True)
 (ifb (a.2.2 != b.2.2) (false = Cm.eqH a b ∧ True) (true = Cm.eqH a b ∧ True)))) := by kernel_rfl
noncomputable def E_laws_markMapS : Env := En (Go.Am.look [] [])
theorem vc_laws_markMapS (a : List Cm.E) (k : Int) : (FGA E_laws_markMapS Try.f140 sMarkEs [⟨kEs, a⟩,  ⟨kI, k⟩] (one (an_markEs a k))) = (
 (∃ (a_1 : Nat),
 a_1 ≤ List.length a ∧
 (([] : Go.Am.Pth) = [] ∧ k + (3 : Int) * (↑a_1 : Int) = k ∧ (↑a_1 : Int) = (0 : Int)) ∧
 Cm.mkEs k a_1 ++ List.drop a_1 a = a ∧ True) ∧
 ∀ (a_1 : Nat),
 a_1 ≤ List.length a →
 ifb (decide ((↑a_1 : Int) < (↑(List.length (Cm.mkEs k a_1 ++ List.drop a_1 a)) : Int)))
 ((3 : Int) ≠ (0 : Int) ∧
 ((0 : Int) ≤ (↑a_1 : Int) ∧ (↑a_1 : Int) < (↑(List.length (Cm.mkEs k a_1 ++ List.drop a_1 a)) : Int)) ∧
 ((0 : Int) ≤ (↑a_1 : Int) ∧
 (↑a_1 : Int) <
 (↑(List.length
 (Cm.modAt (Cm.mkEs k a_1 ++ List.drop a_1 a) a_1 Cm.e0
 fun (x : Bool × Int × Bool) =>
 (Int.tmod (k + (3 : Int) * (↑a_1 : Int)) (3 : Int) == (0 : Int), x.2))) :
 Int)) ∧
 (3 : Int) ≠ (0 : Int) ∧
 ((0 : Int) ≤ (↑a_1 : Int) ∧
 (↑a_1 : Int) <
 (↑(List.length
 (Cm.modAt
 (Cm.modAt (Cm.mkEs k a_1 ++ List.drop a_1 a) a_1 Cm.e0
 fun (x : Bool × Int × Bool) =>
 (Int.tmod (k + (3 : Int) * (↑a_1 : Int)) (3 : Int) == (0 : Int), x.2))
 a_1 Cm.e0 fun (x : Bool × Int × Bool) =>
 (x.1, IntKind.wrap IntKind.i64 (k + (3 : Int) * (↑a_1 : Int) + (1 : Int)), x.2.2))) :
 Int)) ∧
 ∃ (a' : Nat),
 (a' ≤ List.length a ∧ List.length a - a' < List.length a - a_1) ∧
 (([] : Go.Am.Pth) = [] ∧
 k + (3 : Int) * (↑a' : Int) =
 IntKind.wrap IntKind.i64
 (IntKind.wrap IntKind.i64
 (IntKind.wrap IntKind.i64 (k + (3 : Int) * (↑a_1 : Int) + (1 : Int)) + (1 : Int)) +
 (1 : Int)) ∧
 (↑a' : Int) = IntKind.wrap IntKind.i64 ((↑a_1 : Int) + (1 : Int))) ∧
 (Cm.mkEs k a' ++ List.drop a' a =
 Cm.modAt
 (Cm.modAt
 (Cm.modAt (Cm.mkEs k a_1 ++ List.drop a_1 a) a_1 Cm.e0
 fun (x : Bool × Int × Bool) =>
 (Int.tmod (k + (3 : Int) * (↑a_1 : Int)) (3 : Int) == (0 : Int), x.2))
 a_1 Cm.e0 fun (x : Bool × Int × Bool) =>
 (x.1, IntKind.wrap IntKind.i64 (k + (3 : Int) * (↑a_1 : Int) + (1 : Int)), x.2.2))
 a_1 Cm.e0 fun (x : Bool × Int × Bool) =>
 (x.1, x.2.1,
 Int.tmod
 (IntKind.wrap IntKind.i64
 (IntKind.wrap IntKind.i64 (k + (3 : Int) * (↑a_1 : Int) + (1 : Int)) + (1 : Int)))
 (3 : Int) ==
 (0 : Int))) ∧
 True)
 (k + (3 : Int) * (↑a_1 : Int) = k + (3 : Int) * (↑(List.length a) : Int) ∧
 Cm.mkEs k a_1 ++ List.drop a_1 a = Cm.mkEs k (List.length a) ∧ True)) := by kernel_rfl
noncomputable def E_laws_markShadeS : Env := En (Go.Am.look [] [])
theorem vc_laws_markShadeS (a : List Cm.Sh) (k : Int) : (FGA E_laws_markShadeS Try.f141 sMarkSs [⟨kSs, a⟩,  ⟨kI, k⟩] (one (an_markSs a k))) = (
 (∃ (a_1 : Nat),
 a_1 ≤ List.length a ∧
 (([] : Go.Am.Pth) = [] ∧ k + (4 : Int) * (↑a_1 : Int) = k ∧ (↑a_1 : Int) = (0 : Int)) ∧
 Cm.mkSs k a_1 ++ List.drop a_1 a = a ∧ True) ∧
 ∀ (a_1 : Nat),
 a_1 ≤ List.length a →
 ifb (decide ((↑a_1 : Int) < (↑(List.length (Cm.mkSs k a_1 ++ List.drop a_1 a)) : Int)))
 ((3 : Int) ≠ (0 : Int) ∧
 ((0 : Int) ≤ (↑a_1 : Int) ∧ (↑a_1 : Int) < (↑(List.length (Cm.mkSs k a_1 ++ List.drop a_1 a)) : Int)) ∧
 ((0 : Int) ≤ (↑a_1 : Int) ∧
 (↑a_1 : Int) <
 (↑(List.length
 (Cm.modAt (Cm.mkSs k a_1 ++ List.drop a_1 a) a_1 Cm.s0
 fun (x : Bool × Int × Int × Bool) =>
 (Int.tmod (k + (4 : Int) * (↑a_1 : Int)) (3 : Int) == (0 : Int), x.2))) :
 Int)) ∧
 ((0 : Int) ≤ (↑a_1 : Int) ∧
 (↑a_1 : Int) <
 (↑(List.length
 (Cm.modAt
 (Cm.modAt (Cm.mkSs k a_1 ++ List.drop a_1 a) a_1 Cm.s0
 fun (x : Bool × Int × Int × Bool) =>
 (Int.tmod (k + (4 : Int) * (↑a_1 : Int)) (3 : Int) == (0 : Int), x.2))
 a_1 Cm.s0 fun (x : Bool × Int × Int × Bool) =>
 (x.1, IntKind.wrap IntKind.i64 (k + (4 : Int) * (↑a_1 : Int) + (1 : Int)), x.2.2))) :
 Int)) ∧
 (3 : Int) ≠ (0 : Int) ∧
 ((0 : Int) ≤ (↑a_1 : Int) ∧
 (↑a_1 : Int) <
 (↑(List.length
 (Cm.modAt
 (Cm.modAt
 (Cm.modAt (Cm.mkSs k a_1 ++ List.drop a_1 a) a_1 Cm.s0
 fun (x : Bool × Int × Int × Bool) =>
 (Int.tmod (k + (4 : Int) * (↑a_1 : Int)) (3 : Int) == (0 : Int), x.2))
 a_1 Cm.s0 fun (x : Bool × Int × Int × Bool) =>
 (x.1, IntKind.wrap IntKind.i64 (k + (4 : Int) * (↑a_1 : Int) + (1 : Int)), x.2.2))
 a_1 Cm.s0 fun (x : Bool × Int × Int × Bool) =>
 (x.1, x.2.1,
 IntKind.wrap IntKind.i64
 (IntKind.wrap IntKind.i64 (k + (4 : Int) * (↑a_1 : Int) + (1 : Int)) + (1 : Int)),
 x.2.2.2))) :
 Int)) ∧
 ∃ (a' : Nat),
 (a' ≤ List.length a ∧ List.length a - a' < List.length a - a_1) ∧
 (([] : Go.Am.Pth) = [] ∧
 k + (4 : Int) * (↑a' : Int) =
 IntKind.wrap IntKind.i64
 (IntKind.wrap IntKind.i64
 (IntKind.wrap IntKind.i64
 (IntKind.wrap IntKind.i64 (k + (4 : Int) * (↑a_1 : Int) + (1 : Int)) +
 (1 : Int)) +
 (1 : Int)) +
 (1 : Int)) ∧
 (↑a' : Int) = IntKind.wrap IntKind.i64 ((↑a_1 : Int) + (1 : Int))) ∧
 (Cm.mkSs k a' ++ List.drop a' a =
 Cm.modAt
 (Cm.modAt
 (Cm.modAt
 (Cm.modAt (Cm.mkSs k a_1 ++ List.drop a_1 a) a_1
 Cm.s0 fun (x : Bool × Int × Int × Bool) =>
 (Int.tmod (k + (4 : Int) * (↑a_1 : Int)) (3 : Int) == (0 : Int), x.2))
 a_1 Cm.s0 fun (x : Bool × Int × Int × Bool) =>
 (x.1, IntKind.wrap IntKind.i64 (k + (4 : Int) * (↑a_1 : Int) + (1 : Int)), x.2.2))
 a_1 Cm.s0 fun (x : Bool × Int × Int × Bool) =>
 (x.1, x.2.1,
 IntKind.wrap IntKind.i64
 (IntKind.wrap IntKind.i64 (k + (4 : Int) * (↑a_1 : Int) + (1 : Int)) + (1 : Int)),
 x.2.2.2))
 a_1 Cm.s0 fun (x : Bool × Int × Int × Bool) =>
 (x.1, x.2.1, x.2.2.1,
 Int.tmod
 (IntKind.wrap IntKind.i64
 (IntKind.wrap IntKind.i64
 (IntKind.wrap IntKind.i64 (k + (4 : Int) * (↑a_1 : Int) + (1 : Int)) +
 (1 : Int)) +
 (1 : Int)))
 (3 : Int) ==
 (0 : Int))) ∧
 True)
 (k + (4 : Int) * (↑a_1 : Int) = k + (4 : Int) * (↑(List.length a) : Int) ∧
 Cm.mkSs k a_1 ++ List.drop a_1 a = Cm.mkSs k (List.length a) ∧ True)) := by kernel_rfl
noncomputable def E_laws_markGuestS : Env := En (Go.Am.look [] [(29, [sMarkM]), (140, [sMarkEs]), (141, [sMarkSs])])
theorem vc_laws_markGuestS (a : List Cm.Gt) (k : Int) : (FGA E_laws_markGuestS Try.f112 sMarkGs [⟨kGs, a⟩,  ⟨kI, k⟩] (one (an_markGs a k))) = (
 (∃ (a_1 : Nat),
 a_1 ≤ List.length a ∧
 (([] : Go.Am.Pth) = [] ∧ k + Cm.cntS (List.take a_1 a) = k ∧ (↑a_1 : Int) = (0 : Int)) ∧
 Cm.mkGs (List.take a_1 a) k ++ List.drop a_1 a = a ∧ True) ∧
 ∀ (a_1 : Nat),
 a_1 ≤ List.length a →
 ifb (decide ((↑a_1 : Int) < (↑(List.length (Cm.mkGs (List.take a_1 a) k ++ List.drop a_1 a)) : Int)))
 (((0 : Int) ≤ (↑a_1 : Int) ∧
 (↑a_1 : Int) < (↑(List.length (Cm.mkGs (List.take a_1 a) k ++ List.drop a_1 a)) : Int)) ∧
 (List.length (List.getD (Cm.mkGs (List.take a_1 a) k ++ List.drop a_1 a) a_1 Cm.g0).1 ≤
 (1048576 : Nat) ∧
 (0 : Int) ≤ k + Cm.cntS (List.take a_1 a) ∧ k + Cm.cntS (List.take a_1 a) ≤ (1099511627776 : Int)) ∧
 ((0 : Int) ≤ (↑a_1 : Int) ∧
 (↑a_1 : Int) <
 (↑(List.length
 (Cm.modAt (Cm.mkGs (List.take a_1 a) k ++ List.drop a_1 a) a_1 Cm.g0
 fun (x : List (Bool × Int × Bool) × List (List Int) × List (Bool × Int × Int × Bool)) =>
 (Cm.mkEs (k + Cm.cntS (List.take a_1 a)) (List.length x.1), x.2))) :
 Int)) ∧
 (Cm.bd
 (List.getD
 (Cm.modAt (Cm.mkGs (List.take a_1 a) k ++ List.drop a_1 a) a_1 Cm.g0
 fun (x : List (Bool × Int × Bool) × List (List Int) × List (Bool × Int × Int × Bool)) =>
 (Cm.mkEs (k + Cm.cntS (List.take a_1 a)) (List.length x.1), x.2))
 a_1 Cm.g0).2.1 ∧
 (0 : Int) ≤
 k + Cm.cntS (List.take a_1 a) +
 (3 : Int) *
 (↑(List.length
 (List.getD (Cm.mkGs (List.take a_1 a) k ++ List.drop a_1 a) a_1 Cm.g0).1) :
 Int) ∧
 k + Cm.cntS (List.take a_1 a) +
 (3 : Int) *
 (↑(List.length
 (List.getD (Cm.mkGs (List.take a_1 a) k ++ List.drop a_1 a) a_1 Cm.g0).1) :
 Int) ≤
 (1099511627776 : Int)) ∧
 ((0 : Int) ≤ (↑a_1 : Int) ∧
 (↑a_1 : Int) <
 (↑(List.length
 (Cm.modAt
 (Cm.modAt (Cm.mkGs (List.take a_1 a) k ++ List.drop a_1 a) a_1 Cm.g0
 fun (x : List (Bool × Int × Bool) × List (List Int) × List (Bool × Int × Int × Bool)) =>
 (Cm.mkEs (k + Cm.cntS (List.take a_1 a)) (List.length x.1), x.2))
 a_1 Cm.g0
 fun (x : List (Bool × Int × Bool) × List (List Int) × List (Bool × Int × Int × Bool)) =>
 (x.1,
 Cm.markM x.2.1
 (k + Cm.cntS (List.take a_1 a) +
 (3 : Int) *
 (↑(List.length
 (List.getD (Cm.mkGs (List.take a_1 a) k ++ List.drop a_1 a) a_1
 Cm.g0).1) :
 Int)),
 x.2.2))) :
 Int)) ∧
 (List.length
 (List.getD
 (Cm.modAt
 (Cm.modAt (Cm.mkGs (List.take a_1 a) k ++ List.drop a_1 a) a_1 Cm.g0
 fun
 (x :
 List (Bool × Int × Bool) × List (List Int) × List (Bool × Int × Int × Bool)) =>
 (Cm.mkEs (k + Cm.cntS (List.take a_1 a)) (List.length x.1), x.2))
 a_1 Cm.g0
 fun
 (x : List (Bool × Int × Bool) × List (List Int) × List (Bool × Int × Int × Bool)) =>
 (x.1,
 Cm.markM x.2.1
 (k + Cm.cntS (List.take a_1 a) +
 (3 : Int) *
 (↑(List.length
 (List.getD (Cm.mkGs (List.take a_1 a) k ++ List.drop a_1 a) a_1
 Cm.g0).1) :
 Int)),
 x.2.2))
 a_1 Cm.g0).2.2 ≤
 (1048576 : Nat) ∧
 (0 : Int) ≤
 k + Cm.cntS (List.take a_1 a) +
 (3 : Int) *
 (↑(List.length
 (List.getD (Cm.mkGs (List.take a_1 a) k ++ List.drop a_1 a) a_1 Cm.g0).1) :
 Int) +
 Cm.cnt
 (List.getD
 (Cm.modAt (Cm.mkGs (List.take a_1 a) k ++ List.drop a_1 a) a_1 Cm.g0
 fun
 (x :
 List (Bool × Int × Bool) ×
 List (List Int) × List (Bool × Int × Int × Bool)) =>
 (Cm.mkEs (k + Cm.cntS (List.take a_1 a)) (List.length x.1), x.2))
 a_1 Cm.g0).2.1 ∧
 k + Cm.cntS (List.take a_1 a) +
 (3 : Int) *
 (↑(List.length
 (List.getD (Cm.mkGs (List.take a_1 a) k ++ List.drop a_1 a) a_1 Cm.g0).1) :
 Int) +
 Cm.cnt
 (List.getD
 (Cm.modAt (Cm.mkGs (List.take a_1 a) k ++ List.drop a_1 a) a_1 Cm.g0
 fun
 (x :
 List (Bool × Int × Bool) ×
 List (List Int) × List (Bool × Int × Int × Bool)) =>
 (Cm.mkEs (k + Cm.cntS (List.take a_1 a)) (List.length x.1), x.2))
 a_1 Cm.g0).2.1 ≤
 (1099511627776 : Int)) ∧
 ∃ (a' : Nat),
 (a' ≤ List.length a ∧ List.length a - a' < List.length a - a_1) ∧
 (([] : Go.Am.Pth) = [] ∧
 k + Cm.cntS (List.take a' a) =
 k + Cm.cntS (List.take a_1 a) +
 (3 : Int) *
 (↑(List.length
 (List.getD (Cm.mkGs (List.take a_1 a) k ++ List.drop a_1 a) a_1
 Cm.g0).1) :
 Int) +
 Cm.cnt
 (List.getD
 (Cm.modAt (Cm.mkGs (List.take a_1 a) k ++ List.drop a_1 a) a_1 Cm.g0
 fun
 (x :
 List (Bool × Int × Bool) ×
 List (List Int) × List (Bool × Int × Int × Bool)) =>
 (Cm.mkEs (k + Cm.cntS (List.take a_1 a)) (List.length x.1), x.2))
 a_1 Cm.g0).2.1 +
 (4 : Int) *
 (↑(List.length
 (List.getD
 (Cm.modAt
 (Cm.modAt (Cm.mkGs (List.take a_1 a) k ++ List.drop a_1 a) a_1
 Cm.g0
 fun
 (x :
 List (Bool × Int × Bool) ×
 List (List Int) × List (Bool × Int × Int × Bool)) =>
 (Cm.mkEs (k + Cm.cntS (List.take a_1 a)) (List.length x.1), x.2))
 a_1 Cm.g0
 fun
 (x :
 List (Bool × Int × Bool) ×
 List (List Int) × List (Bool × Int × Int × Bool)) =>
 (x.1,
 Cm.markM x.2.1
 (k + Cm.cntS (List.take a_1 a) +
 (3 : Int) *
 (↑(List.length
 (List.getD
 (Cm.mkGs (List.take a_1 a) k ++ List.drop a_1 a) a_1
 Cm.g0).1) :
 Int)),
 x.2.2))
 a_1 Cm.g0).2.2) :
 Int) ∧
 (↑a' : Int) = IntKind.wrap IntKind.i64 ((↑a_1 : Int) + (1 : Int))) ∧
 (Cm.mkGs (List.take a' a) k ++ List.drop a' a =
 Cm.modAt
 (Cm.modAt
 (Cm.modAt (Cm.mkGs (List.take a_1 a) k ++ List.drop a_1 a) a_1 Cm.g0
 fun
 (x :
 List (Bool × Int × Bool) × List (List Int) × List (Bool × Int × Int × Bool)) =>
 (Cm.mkEs (k + Cm.cntS (List.take a_1 a)) (List.length x.1), x.2))
 a_1 Cm.g0
 fun
 (x : List (Bool × Int × Bool) × List (List Int) × List (Bool × Int × Int × Bool)) =>
 (x.1,
 Cm.markM x.2.1
 (k + Cm.cntS (List.take a_1 a) +
 (3 : Int) *
 (↑(List.length
 (List.getD (Cm.mkGs (List.take a_1 a) k ++ List.drop a_1 a) a_1
 Cm.g0).1) :
 Int)),
 x.2.2))
 a_1 Cm.g0
 fun (x : List (Bool × Int × Bool) × List (List Int) × List (Bool × Int × Int × Bool)) =>
 (x.1, x.2.1,
 Cm.mkSs
 (k + Cm.cntS (List.take a_1 a) +
 (3 : Int) *
 (↑(List.length
 (List.getD (Cm.mkGs (List.take a_1 a) k ++ List.drop a_1 a) a_1
 Cm.g0).1) :
 Int) +
 Cm.cnt
 (List.getD
 (Cm.modAt (Cm.mkGs (List.take a_1 a) k ++ List.drop a_1 a) a_1
 Cm.g0
 fun
 (x :
 List (Bool × Int × Bool) ×
 List (List Int) × List (Bool × Int × Int × Bool)) =>
 (Cm.mkEs (k + Cm.cntS (List.take a_1 a)) (List.length x.1), x.2))
 a_1 Cm.g0).2.1)
 (List.length x.2.2))) ∧
 True)
 (k + Cm.cntS (List.take a_1 a) = k + Cm.cntS a ∧
 Cm.mkGs (List.take a_1 a) k ++ List.drop a_1 a = Cm.mkGs a k ∧ True)) := by kernel_rfl
noncomputable def E_laws_markHost : Env := En (Go.Am.look [] [(29, [sMarkM]), (112, [sMarkGs])])
theorem vc_laws_markHost (a : Cm.Ho) (k : Int) : (FGA E_laws_markHost Try.f59 sMarkH [⟨kH, a⟩,  ⟨kI, k⟩] no) = (
 (Cm.bd a.1 ∧ (0 : Int) ≤ k ∧ k ≤ (1099511627776 : Int)) ∧
 ((Cm.bdGs a.2.1 ∧ Cm.totGs a.2.1 ≤ (1048576 : Int)) ∧
 (0 : Int) ≤ k + Cm.cnt a.1 ∧ k + Cm.cnt a.1 ≤ (1073741824 : Int)) ∧
 k + Cm.cnt a.1 + Cm.cntS a.2.1 = k + Cm.cntH a ∧
 Cm.markM a.1 k = (Cm.mkH a k).1 ∧ Cm.mkGs a.2.1 (k + Cm.cnt a.1) = (Cm.mkH a k).2.1 ∧ True) := by kernel_rfl
noncomputable def E_laws_heldMapS : Env := En (Go.Am.look [] [])
theorem vc_laws_heldMapS (a : List Cm.E) (k : Int) : (FGA E_laws_heldMapS Try.f142 sHeldEs [⟨kEs, a⟩,  ⟨kI, k⟩] (one (an_heldEs a k))) = (
 (∃ (a_1 : Nat),
 a_1 ≤ List.length a ∧ (a = a ∧ k + (3 : Int) * (↑a_1 : Int) = k ∧ (↑a_1 : Int) = (0 : Int)) ∧ True ∧ True) ∧
 ∀ (a_1 : Nat),
 a_1 ≤ List.length a →
 ifb (decide ((↑a_1 : Int) < (↑(List.length a) : Int)))
 (((0 : Int) ≤ (↑a_1 : Int) ∧ (↑a_1 : Int) < (↑(List.length a) : Int)) ∧
 (3 : Int) ≠ (0 : Int) ∧
 ifb
 (!(List.getD a a_1 Cm.e0).1 ==
 (Int.tmod (k + (3 : Int) * (↑a_1 : Int)) (3 : Int) == (0 : Int)))
 ((-1 : Int) = k + (3 : Int) * (↑(List.length a) : Int) ∧ True)
 (((0 : Int) ≤ (↑a_1 : Int) ∧ (↑a_1 : Int) < (↑(List.length a) : Int)) ∧
 ifb
 ((List.getD a a_1 Cm.e0).2.1 !=
 IntKind.wrap IntKind.i64 (k + (3 : Int) * (↑a_1 : Int) + (1 : Int)))
 ((-1 : Int) = k + (3 : Int) * (↑(List.length a) : Int) ∧ True)
 (((0 : Int) ≤ (↑a_1 : Int) ∧ (↑a_1 : Int) < (↑(List.length a) : Int)) ∧
 (3 : Int) ≠ (0 : Int) ∧
 ifb
 (!(List.getD a a_1 Cm.e0).2.2 ==
 (Int.tmod
 (IntKind.wrap IntKind.i64
 (IntKind.wrap IntKind.i64 (k + (3 : Int) * (↑a_1 : Int) + (1 : Int)) + (1 : Int)))
 (3 : Int) ==
 (0 : Int)))
 ((-1 : Int) = k + (3 : Int) * (↑(List.length a) : Int) ∧ True)
 (∃ (a' : Nat),
 (a' ≤ List.length a ∧ List.length a - a' < List.length a - a_1) ∧
 (a = a ∧
 k + (3 : Int) * (↑a' : Int) =
 IntKind.wrap IntKind.i64
 (IntKind.wrap IntKind.i64
 (IntKind.wrap IntKind.i64 (k + (3 : Int) * (↑a_1 : Int) + (1 : Int)) +
 (1 : Int)) +
 (1 : Int)) ∧
 (↑a' : Int) = IntKind.wrap IntKind.i64 ((↑a_1 : Int) + (1 : Int))) ∧
 True ∧ True))))
 (k + (3 : Int) * (↑a_1 : Int) = k + (3 : Int) * (↑(List.length a) : Int) ∧ True)) := by kernel_rfl
noncomputable def E_laws_heldShadeS : Env := En (Go.Am.look [] [])
theorem vc_laws_heldShadeS (a : List Cm.Sh) (k : Int) : (FGA E_laws_heldShadeS Try.f143 sHeldSs [⟨kSs, a⟩,  ⟨kI, k⟩] (one (an_heldSs a k))) = (
 (∃ (a_1 : Nat),
 a_1 ≤ List.length a ∧ (a = a ∧ k + (4 : Int) * (↑a_1 : Int) = k ∧ (↑a_1 : Int) = (0 : Int)) ∧ True ∧ True) ∧
 ∀ (a_1 : Nat),
 a_1 ≤ List.length a →
 ifb (decide ((↑a_1 : Int) < (↑(List.length a) : Int)))
 (((0 : Int) ≤ (↑a_1 : Int) ∧ (↑a_1 : Int) < (↑(List.length a) : Int)) ∧
 (3 : Int) ≠ (0 : Int) ∧
 ifb
 (!(List.getD a a_1 Cm.s0).1 ==
 (Int.tmod (k + (4 : Int) * (↑a_1 : Int)) (3 : Int) == (0 : Int)))
 ((-1 : Int) = k + (4 : Int) * (↑(List.length a) : Int) ∧ True)
 (((0 : Int) ≤ (↑a_1 : Int) ∧ (↑a_1 : Int) < (↑(List.length a) : Int)) ∧
 ifb
 ((List.getD a a_1 Cm.s0).2.1 !=
 IntKind.wrap IntKind.i64 (k + (4 : Int) * (↑a_1 : Int) + (1 : Int)))
 ((-1 : Int) = k + (4 : Int) * (↑(List.length a) : Int) ∧ True)
 (((0 : Int) ≤ (↑a_1 : Int) ∧ (↑a_1 : Int) < (↑(List.length a) : Int)) ∧
 ifb
 ((List.getD a a_1 Cm.s0).2.2.1 !=
 IntKind.wrap IntKind.i64
 (IntKind.wrap IntKind.i64 (k + (4 : Int) * (↑a_1 : Int) + (1 : Int)) + (1 : Int)))
 ((-1 : Int) = k + (4 : Int) * (↑(List.length a) : Int) ∧ True)
 (((0 : Int) ≤ (↑a_1 : Int) ∧ (↑a_1 : Int) < (↑(List.length a) : Int)) ∧
 (3 : Int) ≠ (0 : Int) ∧
 ifb
 (!(List.getD a a_1 Cm.s0).2.2.2 ==
 (Int.tmod
 (IntKind.wrap IntKind.i64
 (IntKind.wrap IntKind.i64
 (IntKind.wrap IntKind.i64 (k + (4 : Int) * (↑a_1 : Int) + (1 : Int)) +
 (1 : Int)) +
 (1 : Int)))
 (3 : Int) ==
 (0 : Int)))
 ((-1 : Int) = k + (4 : Int) * (↑(List.length a) : Int) ∧ True)
 (∃ (a' : Nat),
 (a' ≤ List.length a ∧ List.length a - a' < List.length a - a_1) ∧
 (a = a ∧
 k + (4 : Int) * (↑a' : Int) =
 IntKind.wrap IntKind.i64
 (IntKind.wrap IntKind.i64
 (IntKind.wrap IntKind.i64
 (IntKind.wrap IntKind.i64 (k + (4 : Int) * (↑a_1 : Int) + (1 : Int)) +
 (1 : Int)) +
 (1 : Int)) +
 (1 : Int)) ∧
 (↑a' : Int) = IntKind.wrap IntKind.i64 ((↑a_1 : Int) + (1 : Int))) ∧
 True ∧ True)))))
 (k + (4 : Int) * (↑a_1 : Int) = k + (4 : Int) * (↑(List.length a) : Int) ∧ True)) := by kernel_rfl
noncomputable def E_laws_heldGuestS : Env := En (Go.Am.look [] [(30, [sHeldM]), (142, [sHeldEs]), (143, [sHeldSs])])
theorem vc_laws_heldGuestS (a : List Cm.Gt) (k : Int) : (FGA E_laws_heldGuestS Try.f115 sHeldGs [⟨kGs, a⟩,  ⟨kI, k⟩] (one (an_heldGs a k))) = (
 (∃ (a_1 : Nat),
 a_1 ≤ List.length a ∧ (a = a ∧ k + Cm.cntS (List.take a_1 a) = k ∧ (↑a_1 : Int) = (0 : Int)) ∧ True ∧ True) ∧
 ∀ (a_1 : Nat),
 a_1 ≤ List.length a →
 ifb (decide ((↑a_1 : Int) < (↑(List.length a) : Int)))
 (((0 : Int) ≤ (↑a_1 : Int) ∧ (↑a_1 : Int) < (↑(List.length a) : Int)) ∧
 ((List.length (List.getD a a_1 Cm.g0).1 ≤ (1048576 : Nat) ∧
 (List.getD a a_1 Cm.g0).1 =
 Cm.mkEs (k + Cm.cntS (List.take a_1 a)) (List.length (List.getD a a_1 Cm.g0).1)) ∧
 (0 : Int) ≤ k + Cm.cntS (List.take a_1 a) ∧ k + Cm.cntS (List.take a_1 a) ≤ (1099511627776 : Int)) ∧
 ifb
 (decide
 (k + Cm.cntS (List.take a_1 a) + (3 : Int) * (↑(List.length (List.getD a a_1 Cm.g0).1) : Int) <
 (0 : Int)))
 ((-1 : Int) = k + Cm.cntS a ∧ True)
 (((0 : Int) ≤ (↑a_1 : Int) ∧ (↑a_1 : Int) < (↑(List.length a) : Int)) ∧
 (Cm.bd (List.getD a a_1 Cm.g0).2.1 ∧
 (0 : Int) ≤
 k + Cm.cntS (List.take a_1 a) +
 (3 : Int) * (↑(List.length (List.getD a a_1 Cm.g0).1) : Int) ∧
 k + Cm.cntS (List.take a_1 a) +
 (3 : Int) * (↑(List.length (List.getD a a_1 Cm.g0).1) : Int) ≤
 (1099511627776 : Int)) ∧
 ifb
 (decide
 (Cm.heldM (List.getD a a_1 Cm.g0).2.1
 (k + Cm.cntS (List.take a_1 a) +
 (3 : Int) * (↑(List.length (List.getD a a_1 Cm.g0).1) : Int)) <
 (0 : Int)))
 ((-1 : Int) = k + Cm.cntS a ∧ True)
 (((0 : Int) ≤ (↑a_1 : Int) ∧ (↑a_1 : Int) < (↑(List.length a) : Int)) ∧
 ((List.length (List.getD a a_1 Cm.g0).2.2 ≤ (1048576 : Nat) ∧
 (List.getD a a_1 Cm.g0).2.2 =
 Cm.mkSs
 (Cm.heldM (List.getD a a_1 Cm.g0).2.1
 (k + Cm.cntS (List.take a_1 a) +
 (3 : Int) * (↑(List.length (List.getD a a_1 Cm.g0).1) : Int)))
 (List.length (List.getD a a_1 Cm.g0).2.2)) ∧
 (0 : Int) ≤
 Cm.heldM (List.getD a a_1 Cm.g0).2.1
 (k + Cm.cntS (List.take a_1 a) +
 (3 : Int) * (↑(List.length (List.getD a a_1 Cm.g0).1) : Int)) ∧
 Cm.heldM (List.getD a a_1 Cm.g0).2.1
 (k + Cm.cntS (List.take a_1 a) +
 (3 : Int) * (↑(List.length (List.getD a a_1 Cm.g0).1) : Int)) ≤
 (1099511627776 : Int)) ∧
 ifb
 (decide
 (Cm.heldM (List.getD a a_1 Cm.g0).2.1
 (k + Cm.cntS (List.take a_1 a) +
 (3 : Int) * (↑(List.length (List.getD a a_1 Cm.g0).1) : Int)) +
 (4 : Int) * (↑(List.length (List.getD a a_1 Cm.g0).2.2) : Int) <
 (0 : Int)))
 ((-1 : Int) = k + Cm.cntS a ∧ True)
 (∃ (a' : Nat),
 (a' ≤ List.length a ∧ List.length a - a' < List.length a - a_1) ∧
 (a = a ∧
 k + Cm.cntS (List.take a' a) =
 Cm.heldM (List.getD a a_1 Cm.g0).2.1
 (k + Cm.cntS (List.take a_1 a) +
 (3 : Int) * (↑(List.length (List.getD a a_1 Cm.g0).1) : Int)) +
 (4 : Int) * (↑(List.length (List.getD a a_1 Cm.g0).2.2) : Int) ∧
 (↑a' : Int) = IntKind.wrap IntKind.i64 ((↑a_1 : Int) + (1 : Int))) ∧
 True ∧ True))))
 (k + Cm.cntS (List.take a_1 a) = k + Cm.cntS a ∧ True)) := by kernel_rfl
noncomputable def E_laws_heldHost : Env := En (Go.Am.look [] [(30, [sHeldM]), (115, [sHeldGs])])
theorem vc_laws_heldHost (a : Cm.Ho) (k : Int) : (FGA E_laws_heldHost Try.f61 sHeldH [⟨kH, a⟩,  ⟨kI, k⟩] no) = (
 (Cm.bd a.1 ∧ (0 : Int) ≤ k ∧ k ≤ (1099511627776 : Int)) ∧
 ifb (decide (Cm.heldM a.1 k < (0 : Int))) ((-1 : Int) = k + Cm.cntH a ∧ True)
 ((((Cm.bdGs a.2.1 ∧ Cm.totGs a.2.1 ≤ (1048576 : Int)) ∧ a.2.1 = Cm.mkGs a.2.1 (Cm.heldM a.1 k)) ∧
 (0 : Int) ≤ Cm.heldM a.1 k ∧ Cm.heldM a.1 k ≤ (1073741824 : Int)) ∧
 ifb (decide (Cm.heldM a.1 k + Cm.cntS a.2.1 < (0 : Int))) ((-1 : Int) = k + Cm.cntH a ∧ True)
 (Cm.heldM a.1 k + Cm.cntS a.2.1 = k + Cm.cntH a ∧ True))) := by kernel_rfl
noncomputable def E_impl_Host_many : Env := En (Go.Am.look [] [])
theorem vc_impl_Host_many (h : Cm.Ho) (f : Int) : (FGA E_impl_Host_many Try.f95 sUsers [⟨kH, h⟩,  ⟨kI, f⟩] (one (an_many h.2.1 f))) = (
 (∃ (a : Nat × Int),
 (a.1 ≤ List.length h.2.1 ∧
 ((0 : Int) ≤ a.2 ∧ a.2 ≤ (1048576 : Int) * (↑a.1 : Int)) ∧
 Cm.useG f h.2.1 = a.2 + Cm.useG f (List.drop a.1 h.2.1)) ∧
 (f = f ∧
 a.2 = (0 : Int) ∧
 h.2.1 = h.2.1 ∧ (↑(List.length h.2.1) : Int) = (↑(List.length h.2.1) : Int) ∧ (↑a.1 : Int) = (0 : Int)) ∧
 True ∧ True) ∧
 ∀ (a : Nat × Int),
 a.1 ≤ List.length h.2.1 ∧
 ((0 : Int) ≤ a.2 ∧ a.2 ≤ (1048576 : Int) * (↑a.1 : Int)) ∧
 Cm.useG f h.2.1 = a.2 + Cm.useG f (List.drop a.1 h.2.1) →
 ifb (decide ((↑a.1 : Int) < (↑(List.length h.2.1) : Int)))
 (((0 : Int) ≤ (↑a.1 : Int) ∧ (↑a.1 : Int) < (↑(List.length h.2.1) : Int)) ∧
 (∃ (a_1 : Nat × Int),
 (a_1.1 ≤ List.length (List.getD h.2.1 a.1 Cm.g0).1 ∧
 ((0 : Int) ≤ a_1.2 ∧ a_1.2 ≤ (1048576 : Int) * (↑a.1 : Int) + (↑a_1.1 : Int)) ∧
 Cm.useG f h.2.1 =
 a_1.2 + Cm.useM f (List.drop a_1.1 (List.getD h.2.1 a.1 Cm.g0).1) +
 Cm.useG f (List.drop (a.1 + (1 : Nat)) h.2.1)) ∧
 (f = f ∧
 a_1.2 = a.2 ∧
 h.2.1 = h.2.1 ∧
 (↑(List.length h.2.1) : Int) = (↑(List.length h.2.1) : Int) ∧
 (↑a.1 : Int) = (↑a.1 : Int) ∧
 (List.getD h.2.1 a.1 Cm.g0).1 = (List.getD h.2.1 a.1 Cm.g0).1 ∧
 (↑(List.length (List.getD h.2.1 a.1 Cm.g0).1) : Int) =
 (↑(List.length (List.getD h.2.1 a.1 Cm.g0).1) : Int) ∧
 (↑a_1.1 : Int) = (0 : Int)) ∧
 True ∧ True) ∧
 ∀ (a_1 : Nat × Int),
 a_1.1 ≤ List.length (List.getD h.2.1 a.1 Cm.g0).1 ∧
 ((0 : Int) ≤ a_1.2 ∧ a_1.2 ≤ (1048576 : Int) * (↑a.1 : Int) + (↑a_1.1 : Int)) ∧
 Cm.useG f h.2.1 =
 a_1.2 + Cm.useM f (List.drop a_1.1 (List.getD h.2.1 a.1 Cm.g0).1) +
 Cm.useG f (List.drop (a.1 + (1 : Nat)) h.2.1) →
 ifb (decide ((↑a_1.1 : Int) < (↑(List.length (List.getD h.2.1 a.1 Cm.g0).1) : Int)))
 (((0 : Int) ≤ (↑a_1.1 : Int) ∧
 (↑a_1.1 : Int) < (↑(List.length (List.getD h.2.1 a.1 Cm.g0).1) : Int)) ∧
 ((List.getD (List.getD h.2.1 a.1 Cm.g0).1 a_1.1 Cm.e0).1 = true →
 (List.getD (List.getD h.2.1 a.1 Cm.g0).1 a_1.1 Cm.e0).1 = true) ∧
 ((List.getD (List.getD h.2.1 a.1 Cm.g0).1 a_1.1 Cm.e0).1 = true →
 (List.getD (List.getD h.2.1 a.1 Cm.g0).1 a_1.1 Cm.e0).1 = true) ∧
 ((List.getD (List.getD h.2.1 a.1 Cm.g0).1 a_1.1 Cm.e0).1 = true →
 (List.getD (List.getD h.2.1 a.1 Cm.g0).1 a_1.1 Cm.e0).1 = true) ∧
 ((List.getD (List.getD h.2.1 a.1 Cm.g0).1 a_1.1 Cm.e0).1 = true →
 (List.getD (List.getD h.2.1 a.1 Cm.g0).1 a_1.1 Cm.e0).1 = true) ∧
 ifb
 ((List.getD (List.getD h.2.1 a.1 Cm.g0).1 a_1.1 Cm.e0).1 &&
 (List.getD (List.getD h.2.1 a.1 Cm.g0).1 a_1.1 Cm.e0).2.1 == f)
 (∃ (a' : Nat × Int),
 ((a'.1 ≤ List.length (List.getD h.2.1 a.1 Cm.g0).1 ∧
 ((0 : Int) ≤ a'.2 ∧ a'.2 ≤ (1048576 : Int) * (↑a.1 : Int) + (↑a'.1 : Int)) ∧
 Cm.useG f h.2.1 =
 a'.2 + Cm.useM f (List.drop a'.1 (List.getD h.2.1 a.1 Cm.g0).1) +
 Cm.useG f (List.drop (a.1 + (1 : Nat)) h.2.1)) ∧
 List.length (List.getD h.2.1 a.1 Cm.g0).1 - a'.1 <
 List.length (List.getD h.2.1 a.1 Cm.g0).1 - a_1.1) ∧
 (f = f ∧
 a'.2 = IntKind.wrap IntKind.i64 (a_1.2 + (1 : Int)) ∧
 h.2.1 = h.2.1 ∧
 (↑(List.length h.2.1) : Int) = (↑(List.length h.2.1) : Int) ∧
 (↑a.1 : Int) = (↑a.1 : Int) ∧
 (List.getD h.2.1 a.1 Cm.g0).1 = (List.getD h.2.1 a.1 Cm.g0).1 ∧
 (↑(List.length (List.getD h.2.1 a.1 Cm.g0).1) : Int) =
 (↑(List.length (List.getD h.2.1 a.1 Cm.g0).1) : Int) ∧
 (↑a'.1 : Int) =
 IntKind.wrap IntKind.i64 ((↑a_1.1 : Int) + (1 : Int))) ∧
 True ∧ True)
 (∃ (a' : Nat × Int),
 ((a'.1 ≤ List.length (List.getD h.2.1 a.1 Cm.g0).1 ∧
 ((0 : Int) ≤ a'.2 ∧ a'.2 ≤ (1048576 : Int) * (↑a.1 : Int) + (↑a'.1 : Int)) ∧
 Cm.useG f h.2.1 =
 a'.2 + Cm.useM f (List.drop a'.1 (List.getD h.2.1 a.1 Cm.g0).1) +
 Cm.useG f (List.drop (a.1 + (1 : Nat)) h.2.1)) ∧
 List.length (List.getD h.2.1 a.1 Cm.g0).1 - a'.1 <
 List.length (List.getD h.2.1 a.1 Cm.g0).1 - a_1.1) ∧
 (f = f ∧
 a'.2 = a_1.2 ∧
 h.2.1 = h.2.1 ∧
 (↑(List.length h.2.1) : Int) = (↑(List.length h.2.1) : Int) ∧
 (↑a.1 : Int) = (↑a.1 : Int) ∧
 (List.getD h.2.1 a.1 Cm.g0).1 = (List.getD h.2.1 a.1 Cm.g0).1 ∧
 (↑(List.length (List.getD h.2.1 a.1 Cm.g0).1) : Int) =
 (↑(List.length (List.getD h.2.1 a.1 Cm.g0).1) : Int) ∧
 (↑a'.1 : Int) =
 IntKind.wrap IntKind.i64 ((↑a_1.1 : Int) + (1 : Int))) ∧
 True ∧ True))
 (∃ (a' : Nat × Int),
 ((a'.1 ≤ List.length h.2.1 ∧
 ((0 : Int) ≤ a'.2 ∧ a'.2 ≤ (1048576 : Int) * (↑a'.1 : Int)) ∧
 Cm.useG f h.2.1 = a'.2 + Cm.useG f (List.drop a'.1 h.2.1)) ∧
 List.length h.2.1 - a'.1 < List.length h.2.1 - a.1) ∧
 (f = f ∧
 a'.2 = a_1.2 ∧
 h.2.1 = h.2.1 ∧
 (↑(List.length h.2.1) : Int) = (↑(List.length h.2.1) : Int) ∧
 (↑a'.1 : Int) = IntKind.wrap IntKind.i64 ((↑a.1 : Int) + (1 : Int))) ∧
 True ∧ True))
 (a.2 = Cm.users h f ∧ True)) := by kernel_rfl
noncomputable def E_spec_l12Users : Env := En (Go.Am.look [] [])
theorem vc_spec_l12Users (h : Cm.Ho) (f : Int) : (FGA E_spec_l12Users Try.f149 sUsers [⟨kH, h⟩,  ⟨kI, f⟩] (one (an_users h f))) = (
 (∃ (a : Nat × Int),
 (a.1 ≤ List.length h.2.1 ∧
 ((0 : Int) ≤ a.2 ∧ a.2 ≤ (1048576 : Int) * (↑a.1 : Int)) ∧
 Cm.users h f = a.2 + Cm.useG f (List.drop a.1 h.2.1)) ∧
 (f = f ∧ ([] : Go.Am.Pth) = [] ∧ a.2 = (0 : Int) ∧ (↑a.1 : Int) = (0 : Int)) ∧
 True ∧ h.1 = h.1 ∧ h.2.1 = h.2.1 ∧ h.2.2 = h.2.2) ∧
 ∀ (a : Nat × Int),
 a.1 ≤ List.length h.2.1 ∧
 ((0 : Int) ≤ a.2 ∧ a.2 ≤ (1048576 : Int) * (↑a.1 : Int)) ∧
 Cm.users h f = a.2 + Cm.useG f (List.drop a.1 h.2.1) →
 ifb (decide ((↑a.1 : Int) < (↑(List.length h.2.1) : Int)))
 ((∃ (a_1 : Nat × Int),
 ((a.1 < List.length h.2.1 ∧ a_1.1 ≤ List.length (List.getD h.2.1 a.1 Cm.g0).1) ∧
 ((0 : Int) ≤ a_1.2 ∧ a_1.2 ≤ (1048576 : Int) * (↑a.1 : Int) + (↑a_1.1 : Int)) ∧
 Cm.users h f =
 a_1.2 + Cm.useM f (List.drop a_1.1 (List.getD h.2.1 a.1 Cm.g0).1) +
 Cm.useG f (List.drop (a.1 + (1 : Nat)) h.2.1)) ∧
 (f = f ∧ ([] : Go.Am.Pth) = [] ∧ a_1.2 = a.2 ∧ (↑a.1 : Int) = (↑a.1 : Int) ∧ (↑a_1.1 : Int) = (0 : Int)) ∧
 True ∧ h.1 = h.1 ∧ h.2.1 = h.2.1 ∧ h.2.2 = h.2.2) ∧
 ∀ (a_1 : Nat × Int),
 (a.1 < List.length h.2.1 ∧ a_1.1 ≤ List.length (List.getD h.2.1 a.1 Cm.g0).1) ∧
 ((0 : Int) ≤ a_1.2 ∧ a_1.2 ≤ (1048576 : Int) * (↑a.1 : Int) + (↑a_1.1 : Int)) ∧
 Cm.users h f =
 a_1.2 + Cm.useM f (List.drop a_1.1 (List.getD h.2.1 a.1 Cm.g0).1) +
 Cm.useG f (List.drop (a.1 + (1 : Nat)) h.2.1) →
 ((0 : Int) ≤ (↑a.1 : Int) ∧ (↑a.1 : Int) < (↑(List.length h.2.1) : Int)) ∧
 ifb (decide ((↑a_1.1 : Int) < (↑(List.length (List.getD h.2.1 a.1 Cm.g0).1) : Int)))
 (((0 : Int) ≤ (↑a.1 : Int) ∧ (↑a.1 : Int) < (↑(List.length h.2.1) : Int)) ∧
 ((0 : Int) ≤ (↑a_1.1 : Int) ∧
 (↑a_1.1 : Int) < (↑(List.length (List.getD h.2.1 a.1 Cm.g0).1) : Int)) ∧
 ((List.getD (List.getD h.2.1 a.1 Cm.g0).1 a_1.1 Cm.e0).1 = true →
 (List.getD (List.getD h.2.1 a.1 Cm.g0).1 a_1.1 Cm.e0).1 = true) ∧
 ((List.getD (List.getD h.2.1 a.1 Cm.g0).1 a_1.1 Cm.e0).1 = true →
 (List.getD (List.getD h.2.1 a.1 Cm.g0).1 a_1.1 Cm.e0).1 = true) ∧
 ((List.getD (List.getD h.2.1 a.1 Cm.g0).1 a_1.1 Cm.e0).1 = true →
 (List.getD (List.getD h.2.1 a.1 Cm.g0).1 a_1.1 Cm.e0).1 =
 true) ∧
 ((List.getD (List.getD h.2.1 a.1 Cm.g0).1 a_1.1 Cm.e0).1 = true →
 (0 : Int) ≤ (↑a.1 : Int) ∧ (↑a.1 : Int) < (↑(List.length h.2.1) : Int)) ∧
 ((List.getD (List.getD h.2.1 a.1 Cm.g0).1 a_1.1 Cm.e0).1 =
 true →
 (List.getD (List.getD h.2.1 a.1 Cm.g0).1 a_1.1 Cm.e0).1 =
 true) ∧
 ((List.getD (List.getD h.2.1 a.1 Cm.g0).1 a_1.1 Cm.e0).1 =
 true →
 (List.getD (List.getD h.2.1 a.1 Cm.g0).1 a_1.1 Cm.e0).1 =
 true) ∧
 ((List.getD (List.getD h.2.1 a.1 Cm.g0).1 a_1.1 Cm.e0).1 =
 true →
 (List.getD (List.getD h.2.1 a.1 Cm.g0).1 a_1.1
 Cm.e0).1 =
 true) ∧
 ((List.getD (List.getD h.2.1 a.1 Cm.g0).1 a_1.1
 Cm.e0).1 =
 true →
 (List.getD (List.getD h.2.1 a.1 Cm.g0).1 a_1.1
 Cm.e0).1 =
 true) ∧
 ((List.getD (List.getD h.2.1 a.1 Cm.g0).1 a_1.1
 Cm.e0).1 =
 true →
 (0 : Int) ≤ (↑a_1.1 : Int) ∧
 (↑a_1.1 : Int) <
 (↑(List.length (List.getD h.2.1 a.1 Cm.g0).1) : Int)) ∧
 ((List.getD (List.getD h.2.1 a.1 Cm.g0).1 a_1.1
 Cm.e0).1 =
 true →
 (List.getD (List.getD h.2.1 a.1 Cm.g0).1 a_1.1
 Cm.e0).1 =
 true) ∧
 ((List.getD (List.getD h.2.1 a.1 Cm.g0).1 a_1.1
 Cm.e0).1 =
 true →
 (List.getD (List.getD h.2.1 a.1 Cm.g0).1 a_1.1
 Cm.e0).1 =
 true) ∧
 ((List.getD (List.getD h.2.1 a.1 Cm.g0).1 a_1.1
 Cm.e0).1 =
 true →
 (List.getD (List.getD h.2.1 a.1 Cm.g0).1 a_1.1
 Cm.e0).1 =
 true) ∧
 ((List.getD (List.getD h.2.1 a.1 Cm.g0).1 a_1.1
 Cm.e0).1 =
 true →
 (List.getD (List.getD h.2.1 a.1 Cm.g0).1 a_1.1
 Cm.e0).1 =
 true) ∧
 ((List.getD (List.getD h.2.1 a.1 Cm.g0).1 a_1.1
 Cm.e0).1 =
 true →
 (List.getD (List.getD h.2.1 a.1 Cm.g0).1 a_1.1
 Cm.e0).1 =
 true) ∧
 ifb
 ((List.getD (List.getD h.2.1 a.1 Cm.g0).1 a_1.1
 Cm.e0).1 &&
 (List.getD (List.getD h.2.1 a.1 Cm.g0).1 a_1.1
 Cm.e0).2.1 ==
 f)
 (∃ (a' : Nat × Int),
 (((a.1 < List.length h.2.1 ∧
 a'.1 ≤ List.length (List.getD h.2.1 a.1 Cm.g0).1) ∧
 ((0 : Int) ≤ a'.2 ∧
 a'.2 ≤ (1048576 : Int) * (↑a.1 : Int) + (↑a'.1 : Int)) ∧
 Cm.users h f =
 a'.2 +
 Cm.useM f
 (List.drop a'.1 (List.getD h.2.1 a.1 Cm.g0).1) +
 Cm.useG f (List.drop (a.1 + (1 : Nat)) h.2.1)) ∧
 List.length (List.getD h.2.1 a.1 Cm.g0).1 - a'.1 <
 List.length (List.getD h.2.1 a.1 Cm.g0).1 - a_1.1) ∧
 (f = f ∧
 ([] : Go.Am.Pth) = [] ∧
 a'.2 = IntKind.wrap IntKind.i64 (a_1.2 + (1 : Int)) ∧
 (↑a.1 : Int) = (↑a.1 : Int) ∧
 (↑a'.1 : Int) =
 IntKind.wrap IntKind.i64
 ((↑a_1.1 : Int) + (1 : Int))) ∧
 True ∧ h.1 = h.1 ∧ h.2.1 = h.2.1 ∧ h.2.2 = h.2.2)
 (∃ (a' : Nat × Int),
 (((a.1 < List.length h.2.1 ∧
 a'.1 ≤ List.length (List.getD h.2.1 a.1 Cm.g0).1) ∧
 ((0 : Int) ≤ a'.2 ∧
 a'.2 ≤ (1048576 : Int) * (↑a.1 : Int) + (↑a'.1 : Int)) ∧
 Cm.users h f =
 a'.2 +
 Cm.useM f
 (List.drop a'.1 (List.getD h.2.1 a.1 Cm.g0).1) +
 Cm.useG f (List.drop (a.1 + (1 : Nat)) h.2.1)) ∧
 List.length (List.getD h.2.1 a.1 Cm.g0).1 - a'.1 <
 List.length (List.getD h.2.1 a.1 Cm.g0).1 - a_1.1) ∧
 (f = f ∧
 ([] : Go.Am.Pth) = [] ∧
 a'.2 = a_1.2 ∧
 (↑a.1 : Int) = (↑a.1 : Int) ∧
 (↑a'.1 : Int) =
 IntKind.wrap IntKind.i64
 ((↑a_1.1 : Int) + (1 : Int))) ∧
 True ∧ h.1 = h.1 ∧ h.2.1 = h.2.1 ∧ h.2.2 = h.2.2))
 (∃ (a' : Nat × Int),
 ((a'.1 ≤ List.length h.2.1 ∧
 ((0 : Int) ≤ a'.2 ∧ a'.2 ≤ (1048576 : Int) * (↑a'.1 : Int)) ∧
 Cm.users h f = a'.2 + Cm.useG f (List.drop a'.1 h.2.1)) ∧
 List.length h.2.1 - a'.1 < List.length h.2.1 - a.1) ∧
 (f = f ∧
 ([] : Go.Am.Pth) = [] ∧
 a'.2 = a_1.2 ∧ (↑a'.1 : Int) = IntKind.wrap IntKind.i64 ((↑a.1 : Int) + (1 : Int))) ∧
 True ∧ h.1 = h.1 ∧ h.2.1 = h.2.1 ∧ h.2.2 = h.2.2))
 (a.2 = Cm.users h f ∧ True)) := by kernel_rfl
noncomputable def E_impl_zeros_1 : Env := En (Go.Am.look [] [])
theorem vc_impl_zeros_1 (w : Int) : (FGA E_impl_zeros_1 Try.f165 sNZ [⟨kI, w⟩] no) = (
 (w != (0 : Int)) = (w != (0 : Int)) ∧ True) := by kernel_rfl
noncomputable def E_slices_IndexFunc_int_int : Env := En (Go.Am.look [] [(165, [sNZ])])
theorem vc_slices_IndexFunc_int_int (a : Cm.Pg) : (FGA E_slices_IndexFunc_int_int Try.f179 (sIndex 165) [⟨kP, a⟩] (one (an_index a))) = (
 (∃ (a_1 : Nat),
 (a_1 ≤ List.length a ∧ Cm.idxNZ a (0 : Int) = Cm.idxNZ (List.drop a_1 a) (↑a_1 : Int)) ∧
 (a = a ∧ (True ∧ True) ∧ (↑(List.length a) : Int) = (↑(List.length a) : Int) ∧ (↑a_1 : Int) = (0 : Int)) ∧
 True ∧ True) ∧
 ∀ (a_1 : Nat),
 a_1 ≤ List.length a ∧ Cm.idxNZ a (0 : Int) = Cm.idxNZ (List.drop a_1 a) (↑a_1 : Int) →
 ifb (decide ((↑a_1 : Int) < (↑(List.length a) : Int)))
 (((0 : Int) ≤ (↑a_1 : Int) ∧ (↑a_1 : Int) < (↑(List.length a) : Int)) ∧
 True ∧
 ifb (List.getD a a_1 (0 : Int) != (0 : Int)) ((↑a_1 : Int) = Cm.idxNZ a (0 : Int) ∧ True)
 (∃ (a' : Nat),
 ((a' ≤ List.length a ∧ Cm.idxNZ a (0 : Int) = Cm.idxNZ (List.drop a' a) (↑a' : Int)) ∧
 List.length a - a' < List.length a - a_1) ∧
 (a = a ∧
 (True ∧ True) ∧
 (↑(List.length a) : Int) = (↑(List.length a) : Int) ∧
 (↑a' : Int) = IntKind.wrap IntKind.i64 ((↑a_1 : Int) + (1 : Int))) ∧
 True ∧ True))
 ((-1 : Int) = Cm.idxNZ a (0 : Int) ∧ True)) := by kernel_rfl
noncomputable def E_slices_ContainsFunc_int_int : Env := En (Go.Am.look [] [(179, [(sIndex 165)])])
theorem vc_slices_ContainsFunc_int_int (a : Cm.Pg) : (FGA E_slices_ContainsFunc_int_int Try.f164 (sContains 165) [⟨kP, a⟩] no) = (
 List.length a ≤ (1048576 : Nat) ∧ decide (Cm.idxNZ a (0 : Int) ≥ (0 : Int)) = !Cm.blank a ∧ True) := by kernel_rfl
noncomputable def E_impl_zeros : Env := En (Go.Am.look [] [(164, [(sContains 165)]), (165, [sNZ])])
theorem vc_impl_zeros (a : Cm.Pg) : (FGA E_impl_zeros Try.f146 sBlank [⟨kP, a⟩] no) = (
 List.length a ≤ (1048576 : Nat) ∧ (!!Cm.blank a) = Cm.blank a ∧ True) := by kernel_rfl
noncomputable def E_spec_l12Blank : Env := En (Go.Am.look [] [])
theorem vc_spec_l12Blank (a : Cm.Pg) : (FGA E_spec_l12Blank Try.f148 sBlank [⟨kP, a⟩] (one (an_blank a))) = (
 (∃ (a_1 : Nat),
 (a_1 ≤ List.length a ∧ Cm.blank a = Cm.blank (List.drop a_1 a)) ∧
 (a = a ∧ (↑a_1 : Int) = (0 : Int)) ∧ True ∧ True) ∧
 ∀ (a_1 : Nat),
 a_1 ≤ List.length a ∧ Cm.blank a = Cm.blank (List.drop a_1 a) →
 ifb (decide ((↑a_1 : Int) < (↑(List.length a) : Int)))
 (((0 : Int) ≤ (↑a_1 : Int) ∧ (↑a_1 : Int) < (↑(List.length a) : Int)) ∧
 ifb (List.getD a a_1 (0 : Int) != (0 : Int)) (false = Cm.blank a ∧ True)
 (∃ (a' : Nat),
 ((a' ≤ List.length a ∧ Cm.blank a = Cm.blank (List.drop a' a)) ∧
 List.length a - a' < List.length a - a_1) ∧
 (a = a ∧ (↑a' : Int) = IntKind.wrap IntKind.i64 ((↑a_1 : Int) + (1 : Int))) ∧ True ∧ True))
 (true = Cm.blank a ∧ True)) := by kernel_rfl
noncomputable def E_spec_l12MapOk : Env := En (Go.Am.look [] [(107, [sWithin]), (148, [sBlank]), (149, [sUsers])])
theorem vc_spec_l12MapOk (h : Cm.Ho) (m : Cm.E) (d : Cm.Pg) : (FGA E_spec_l12MapOk Try.f121 sMapOk [⟨kH, h⟩,  ⟨kE, m⟩,  ⟨kP, d⟩] no) = (
 ifb (!m.1) ((m.1 == false && (m.2.1 == (0 : Int) && m.2.2 == false)) = Cm.mapOk (Cm.users h) m d ∧ True)
 (True ∧
 (Cm.within m.2.1 (0 : Int) (7 : Int) = true → Cm.within m.2.1 (0 : Int) (7 : Int) = true) ∧
 (Cm.within m.2.1 (0 : Int) (7 : Int) = true → List.length d ≤ (1048576 : Nat)) ∧
 (Cm.within m.2.1 (0 : Int) (7 : Int) = true → Cm.within m.2.1 (0 : Int) (7 : Int) = true) ∧
 ((Cm.within m.2.1 (0 : Int) (7 : Int) && Cm.blank d) = true →
 (Cm.within m.2.1 (0 : Int) (7 : Int) && Cm.blank d) = true) ∧
 ((Cm.within m.2.1 (0 : Int) (7 : Int) && Cm.blank d) = true →
 (Cm.within m.2.1 (0 : Int) (7 : Int) && Cm.blank d) = true) ∧
 ((Cm.within m.2.1 (0 : Int) (7 : Int) && Cm.blank d) = true →
 (Cm.within m.2.1 (0 : Int) (7 : Int) && Cm.blank d) = true) ∧
 ((Cm.within m.2.1 (0 : Int) (7 : Int) && Cm.blank d && !!m.2.2) = true →
 (Cm.within m.2.1 (0 : Int) (7 : Int) && Cm.blank d && !!m.2.2) = true) ∧
 ((Cm.within m.2.1 (0 : Int) (7 : Int) && Cm.blank d && !!m.2.2) = true →
 (Cm.within m.2.1 (0 : Int) (7 : Int) && Cm.blank d && !!m.2.2) = true) ∧
 ((Cm.within m.2.1 (0 : Int) (7 : Int) && Cm.blank d && !!m.2.2) = true →
 (Cm.within m.2.1 (0 : Int) (7 : Int) && Cm.blank d && !!m.2.2) = true) ∧
 ((Cm.within m.2.1 (0 : Int) (7 : Int) && Cm.blank d && !!m.2.2) = true → Cm.bdH h) ∧
 ((Cm.within m.2.1 (0 : Int) (7 : Int) && Cm.blank d && !!m.2.2) = true →
 (Cm.within m.2.1 (0 : Int) (7 : Int) && Cm.blank d && !!m.2.2) = true) ∧
 ((Cm.within m.2.1 (0 : Int) (7 : Int) && Cm.blank d) = true →
 (Cm.within m.2.1 (0 : Int) (7 : Int) && Cm.blank d) = true) ∧
 ((Cm.within m.2.1 (0 : Int) (7 : Int) && Cm.blank d) = true →
 (!m.2.2) = false →
 (Cm.within m.2.1 (0 : Int) (7 : Int) && Cm.blank d && !!m.2.2) = true) ∧
 ((Cm.within m.2.1 (0 : Int) (7 : Int) && Cm.blank d) = true →
 (Cm.within m.2.1 (0 : Int) (7 : Int) && Cm.blank d) = true) ∧
 (Cm.within m.2.1 (0 : Int) (7 : Int) && Cm.blank d &&
 (!m.2.2 || Cm.users h m.2.1 == (1 : Int))) =
 Cm.mapOk (Cm.users h) m d ∧
 True)) := by kernel_rfl
noncomputable def E_spec_l12ShadeOk : Env := En (Go.Am.look [] [(107, [sWithin])])
theorem vc_spec_l12ShadeOk (g : Cm.Gt) (s : Cm.Sh) : (FGA E_spec_l12ShadeOk Try.f122 sShOk [⟨kG, g⟩,  ⟨kS, s⟩] no) = (
 ifb (!s.1) ((s.1 == false && (s.2.1 == (0 : Int) && (s.2.2.1 == (0 : Int) && s.2.2.2 == false))) = Cm.shOk g.1 s ∧ True)
 (True ∧
 ifb (!Cm.within s.2.1 (2 : Int) (5 : Int)) (false = Cm.shOk g.1 s ∧ True)
 (((0 : Int) ≤ s.2.1 ∧ s.2.1 < (↑(List.length g.1) : Int)) ∧
 ((List.getD g.1 (Int.toNat s.2.1) Cm.e0).1 = true →
 (List.getD g.1 (Int.toNat s.2.1) Cm.e0).1 = true) ∧
 ((List.getD g.1 (Int.toNat s.2.1) Cm.e0).1 = true →
 (List.getD g.1 (Int.toNat s.2.1) Cm.e0).1 = true) ∧
 ((List.getD g.1 (Int.toNat s.2.1) Cm.e0).1 = true →
 (List.getD g.1 (Int.toNat s.2.1) Cm.e0).1 = true) ∧
 ((List.getD g.1 (Int.toNat s.2.1) Cm.e0).1 = true →
 (List.getD g.1 (Int.toNat s.2.1) Cm.e0).1 = true) ∧
 ((List.getD g.1 (Int.toNat s.2.1) Cm.e0).1 = true →
 (List.getD g.1 (Int.toNat s.2.1) Cm.e0).1 = true) ∧
 (((List.getD g.1 (Int.toNat s.2.1) Cm.e0).1 &&
 (List.getD g.1 (Int.toNat s.2.1) Cm.e0).2.1 == s.2.2.1) =
 true →
 ((List.getD g.1 (Int.toNat s.2.1) Cm.e0).1 &&
 (List.getD g.1 (Int.toNat s.2.1) Cm.e0).2.1 == s.2.2.1) =
 true) ∧
 (((List.getD g.1 (Int.toNat s.2.1) Cm.e0).1 &&
 (List.getD g.1 (Int.toNat s.2.1) Cm.e0).2.1 == s.2.2.1) =
 true →
 ((List.getD g.1 (Int.toNat s.2.1) Cm.e0).1 &&
 (List.getD g.1 (Int.toNat s.2.1) Cm.e0).2.1 == s.2.2.1) =
 true) ∧
 (((List.getD g.1 (Int.toNat s.2.1) Cm.e0).1 &&
 (List.getD g.1 (Int.toNat s.2.1) Cm.e0).2.1 == s.2.2.1) =
 true →
 ((List.getD g.1 (Int.toNat s.2.1) Cm.e0).1 &&
 (List.getD g.1 (Int.toNat s.2.1) Cm.e0).2.1 == s.2.2.1) =
 true) ∧
 (((List.getD g.1 (Int.toNat s.2.1) Cm.e0).1 &&
 (List.getD g.1 (Int.toNat s.2.1) Cm.e0).2.1 == s.2.2.1 &&
 !!s.2.2.2) =
 true →
 ((List.getD g.1 (Int.toNat s.2.1) Cm.e0).1 &&
 (List.getD g.1 (Int.toNat s.2.1) Cm.e0).2.1 == s.2.2.1 &&
 !!s.2.2.2) =
 true) ∧
 (((List.getD g.1 (Int.toNat s.2.1) Cm.e0).1 &&
 (List.getD g.1 (Int.toNat s.2.1) Cm.e0).2.1 == s.2.2.1) =
 true →
 ((List.getD g.1 (Int.toNat s.2.1) Cm.e0).1 &&
 (List.getD g.1 (Int.toNat s.2.1) Cm.e0).2.1 == s.2.2.1) =
 true) ∧
 (((List.getD g.1 (Int.toNat s.2.1) Cm.e0).1 &&
 (List.getD g.1 (Int.toNat s.2.1) Cm.e0).2.1 == s.2.2.1) =
 true →
 (!s.2.2.2) = false →
 ((List.getD g.1 (Int.toNat s.2.1) Cm.e0).1 &&
 (List.getD g.1 (Int.toNat s.2.1) Cm.e0).2.1 == s.2.2.1 &&
 !!s.2.2.2) =
 true) ∧
 (((List.getD g.1 (Int.toNat s.2.1) Cm.e0).1 &&
 (List.getD g.1 (Int.toNat s.2.1) Cm.e0).2.1 == s.2.2.1) =
 true →
 ((List.getD g.1 (Int.toNat s.2.1) Cm.e0).1 &&
 (List.getD g.1 (Int.toNat s.2.1) Cm.e0).2.1 == s.2.2.1) =
 true) ∧
 ((List.getD g.1 (Int.toNat s.2.1) Cm.e0).1 &&
 (List.getD g.1 (Int.toNat s.2.1) Cm.e0).2.1 == s.2.2.1 &&
 (!s.2.2.2 || (List.getD g.1 (Int.toNat s.2.1) Cm.e0).2.2)) =
 Cm.shOk g.1 s ∧
 True))) := by kernel_rfl
noncomputable def E_impl_Host_guestOk : Env := En (Go.Am.look [] [(81, [sOkG]), (95, [sUsers]), (98, [sWithin]), (146, [sBlank])])
theorem vc_impl_Host_guestOk (h : Cm.Ho) (g : Cm.Gt) : (FGA E_impl_Host_guestOk Try.f118 sGOk [⟨kH, h⟩,  ⟨kG, g⟩] (an_gOk h g)) = (
 ((!(↑(List.length g.1) : Int) != (6 : Int)) = true → (!(↑(List.length g.1) : Int) != (6 : Int)) = true) ∧
 ((!(↑(List.length g.1) : Int) != (6 : Int)) = true → (!(↑(List.length g.1) : Int) != (6 : Int)) = true) ∧
 ((!(↑(List.length g.1) : Int) != (6 : Int)) = true → Cm.bd g.2.1) ∧
 ((!(↑(List.length g.1) : Int) != (6 : Int)) = true → (!(↑(List.length g.1) : Int) != (6 : Int)) = true) ∧
 (((↑(List.length g.1) : Int) != (6 : Int)) = false → (!(↑(List.length g.1) : Int) != (6 : Int)) = true) ∧
 ((!((↑(List.length g.1) : Int) != (6 : Int) || !Cm.okG g.2.1)) = true →
 (!((↑(List.length g.1) : Int) != (6 : Int) || !Cm.okG g.2.1)) = true) ∧
 ((!((↑(List.length g.1) : Int) != (6 : Int) || !Cm.okG g.2.1)) = true →
 (!((↑(List.length g.1) : Int) != (6 : Int) || !Cm.okG g.2.1)) = true) ∧
 ((!((↑(List.length g.1) : Int) != (6 : Int) || !Cm.okG g.2.1)) = true →
 (!((↑(List.length g.1) : Int) != (6 : Int) || !Cm.okG g.2.1)) = true) ∧
 (((↑(List.length g.1) : Int) != (6 : Int) || !Cm.okG g.2.1) = false →
 (!((↑(List.length g.1) : Int) != (6 : Int) || !Cm.okG g.2.1)) = true) ∧
 ifb
 ((↑(List.length g.1) : Int) != (6 : Int) || !Cm.okG g.2.1 ||
 (↑(List.length g.2.2) : Int) != (6 : Int))
 (false = Cm.gOk (Cm.users h) g ∧ True)
 ((∃ (a : Nat),
 ((a ≤ List.length g.1 ∧ Cm.szOk g = true) ∧
 Cm.mapsOk (Cm.users h) g.1 g.2.1 =
 Cm.mapsOk (Cm.users h) (List.drop a g.1) (List.drop a g.2.1)) ∧
 (([] : Go.Am.Pth) = [] ∧
 ([] : Go.Am.Pth) = [] ∧
 g.1 = g.1 ∧
 (↑(List.length g.1) : Int) = (↑(List.length g.1) : Int) ∧ (↑a : Int) = (0 : Int)) ∧
 True ∧
 (h.1 = h.1 ∧ h.2.1 = h.2.1 ∧ h.2.2 = h.2.2) ∧ g.1 = g.1 ∧ g.2.1 = g.2.1 ∧ g.2.2 = g.2.2) ∧
 ∀ (a : Nat),
 (a ≤ List.length g.1 ∧ Cm.szOk g = true) ∧
 Cm.mapsOk (Cm.users h) g.1 g.2.1 =
 Cm.mapsOk (Cm.users h) (List.drop a g.1) (List.drop a g.2.1) →
 ifb (decide ((↑a : Int) < (↑(List.length g.1) : Int)))
 (((0 : Int) ≤ (↑a : Int) ∧ (↑a : Int) < (↑(List.length g.1) : Int)) ∧
 ifb (!(List.getD g.1 a Cm.e0).1)
 (ifb
 (!((List.getD g.1 a Cm.e0).1 == false &&
 ((List.getD g.1 a Cm.e0).2.1 == (0 : Int) &&
 (List.getD g.1 a Cm.e0).2.2 == false)))
 (false = Cm.gOk (Cm.users h) g ∧ True)
 (∃ (a' : Nat),
 (((a' ≤ List.length g.1 ∧ Cm.szOk g = true) ∧
 Cm.mapsOk (Cm.users h) g.1 g.2.1 =
 Cm.mapsOk (Cm.users h) (List.drop a' g.1) (List.drop a' g.2.1)) ∧
 List.length g.1 - a' < List.length g.1 - a) ∧
 (([] : Go.Am.Pth) = [] ∧
 ([] : Go.Am.Pth) = [] ∧
 g.1 = g.1 ∧
 (↑(List.length g.1) : Int) = (↑(List.length g.1) : Int) ∧
 (↑a' : Int) = IntKind.wrap IntKind.i64 ((↑a : Int) + (1 : Int))) ∧
 True ∧
 (h.1 = h.1 ∧ h.2.1 = h.2.1 ∧ h.2.2 = h.2.2) ∧
 g.1 = g.1 ∧ g.2.1 = g.2.1 ∧ g.2.2 = g.2.2))
 (True ∧
 ((!!Cm.within (List.getD g.1 a Cm.e0).2.1 (0 : Int) (7 : Int)) =
 true →
 (!!Cm.within (List.getD g.1 a Cm.e0).2.1 (0 : Int)
 (7 : Int)) =
 true) ∧
 ((!!Cm.within (List.getD g.1 a Cm.e0).2.1 (0 : Int) (7 : Int)) =
 true →
 (!!Cm.within (List.getD g.1 a Cm.e0).2.1 (0 : Int)
 (7 : Int)) =
 true) ∧
 ((!!Cm.within (List.getD g.1 a Cm.e0).2.1 (0 : Int)
 (7 : Int)) =
 true →
 (!!Cm.within (List.getD g.1 a Cm.e0).2.1 (0 : Int)
 (7 : Int)) =
 true) ∧
 ((!!Cm.within (List.getD g.1 a Cm.e0).2.1 (0 : Int)
 (7 : Int)) =
 true →
 (0 : Int) ≤ (↑a : Int) ∧ (↑a : Int) < (↑(List.length g.2.1) : Int)) ∧
 ((!!Cm.within (List.getD g.1 a Cm.e0).2.1 (0 : Int)
 (7 : Int)) =
 true →
 (!!Cm.within (List.getD g.1 a Cm.e0).2.1 (0 : Int)
 (7 : Int)) =
 true) ∧
 ((!!Cm.within (List.getD g.1 a Cm.e0).2.1 (0 : Int)
 (7 : Int)) =
 true →
 (!!Cm.within (List.getD g.1 a Cm.e0).2.1 (0 : Int)
 (7 : Int)) =
 true) ∧
 ((!!Cm.within (List.getD g.1 a Cm.e0).2.1 (0 : Int)
 (7 : Int)) =
 true →
 List.length (List.getD g.2.1 a []) ≤ (1048576 : Nat)) ∧
 ((!!Cm.within (List.getD g.1 a Cm.e0).2.1 (0 : Int)
 (7 : Int)) =
 true →
 (!!Cm.within (List.getD g.1 a Cm.e0).2.1
 (0 : Int) (7 : Int)) =
 true) ∧
 ((!Cm.within (List.getD g.1 a Cm.e0).2.1 (0 : Int)
 (7 : Int)) =
 false →
 (!!Cm.within (List.getD g.1 a Cm.e0).2.1
 (0 : Int) (7 : Int)) =
 true) ∧
 ((!(!Cm.within (List.getD g.1 a Cm.e0).2.1
 (0 : Int) (7 : Int) ||
 !Cm.blank (List.getD g.2.1 a []))) =
 true →
 (!(!Cm.within (List.getD g.1 a Cm.e0).2.1
 (0 : Int) (7 : Int) ||
 !Cm.blank (List.getD g.2.1 a []))) =
 true) ∧
 ((!(!Cm.within (List.getD g.1 a Cm.e0).2.1
 (0 : Int) (7 : Int) ||
 !Cm.blank (List.getD g.2.1 a []))) =
 true →
 (!(!Cm.within (List.getD g.1 a Cm.e0).2.1
 (0 : Int) (7 : Int) ||
 !Cm.blank (List.getD g.2.1 a []))) =
 true) ∧
 ((!(!Cm.within (List.getD g.1 a Cm.e0).2.1
 (0 : Int) (7 : Int) ||
 !Cm.blank (List.getD g.2.1 a [])) &&
 (List.getD g.1 a Cm.e0).2.2) =
 true →
 (!(!Cm.within
 (List.getD g.1 a Cm.e0).2.1
 (0 : Int) (7 : Int) ||
 !Cm.blank (List.getD g.2.1 a [])) &&
 (List.getD g.1 a Cm.e0).2.2) =
 true) ∧
 ((!(!Cm.within (List.getD g.1 a Cm.e0).2.1
 (0 : Int) (7 : Int) ||
 !Cm.blank (List.getD g.2.1 a [])) &&
 (List.getD g.1 a Cm.e0).2.2) =
 true →
 (!(!Cm.within
 (List.getD g.1 a
 Cm.e0).2.1
 (0 : Int) (7 : Int) ||
 !Cm.blank (List.getD g.2.1 a [])) &&
 (List.getD g.1 a Cm.e0).2.2) =
 true) ∧
 ((!(!Cm.within
 (List.getD g.1 a
 Cm.e0).2.1
 (0 : Int) (7 : Int) ||
 !Cm.blank (List.getD g.2.1 a [])) &&
 (List.getD g.1 a Cm.e0).2.2) =
 true →
 (!(!Cm.within
 (List.getD g.1 a
 Cm.e0).2.1
 (0 : Int) (7 : Int) ||
 !Cm.blank (List.getD g.2.1 a [])) &&
 (List.getD g.1 a Cm.e0).2.2) =
 true) ∧
 ((!(!Cm.within
 (List.getD g.1 a
 Cm.e0).2.1
 (0 : Int) (7 : Int) ||
 !Cm.blank (List.getD g.2.1 a [])) &&
 (List.getD g.1 a Cm.e0).2.2) =
 true →
 Cm.bdH h) ∧
 ((!(!Cm.within
 (List.getD g.1 a
 Cm.e0).2.1
 (0 : Int) (7 : Int) ||
 !Cm.blank (List.getD g.2.1 a [])) &&
 (List.getD g.1 a
 Cm.e0).2.2) =
 true →
 (!(!Cm.within
 (List.getD g.1 a
 Cm.e0).2.1
 (0 : Int) (7 : Int) ||
 !Cm.blank (List.getD g.2.1 a [])) &&
 (List.getD g.1 a
 Cm.e0).2.2) =
 true) ∧
 ((!(!Cm.within
 (List.getD g.1 a
 Cm.e0).2.1
 (0 : Int) (7 : Int) ||
 !Cm.blank (List.getD g.2.1 a []))) =
 true →
 (!(!Cm.within
 (List.getD g.1 a
 Cm.e0).2.1
 (0 : Int) (7 : Int) ||
 !Cm.blank (List.getD g.2.1 a []))) =
 true) ∧
 ((!(!Cm.within
 (List.getD g.1 a
 Cm.e0).2.1
 (0 : Int) (7 : Int) ||
 !Cm.blank (List.getD g.2.1 a []))) =
 true →
 (List.getD g.1 a
 Cm.e0).2.2 =
 true →
 (!(!Cm.within
 (List.getD g.1 a
 Cm.e0).2.1
 (0 : Int) (7 : Int) ||
 !Cm.blank (List.getD g.2.1 a [])) &&
 (List.getD g.1 a
 Cm.e0).2.2) =
 true) ∧
 ((!Cm.within
 (List.getD g.1 a
 Cm.e0).2.1
 (0 : Int) (7 : Int) ||
 !Cm.blank (List.getD g.2.1 a [])) =
 false →
 (!(!Cm.within
 (List.getD g.1 a
 Cm.e0).2.1
 (0 : Int) (7 : Int) ||
 !Cm.blank (List.getD g.2.1 a []))) =
 true) ∧
 ifb
 (!Cm.within
 (List.getD g.1 a
 Cm.e0).2.1
 (0 : Int) (7 : Int) ||
 !Cm.blank (List.getD g.2.1 a []) ||
 (List.getD g.1 a
 Cm.e0).2.2 &&
 decide
 (Cm.users h
 (List.getD g.1 a
 Cm.e0).2.1 >
 (1 : Int)))
 (false = Cm.gOk (Cm.users h) g ∧ True)
 (∃ (a' : Nat),
 (((a' ≤ List.length g.1 ∧
 Cm.szOk g = true) ∧
 Cm.mapsOk (Cm.users h) g.1 g.2.1 =
 Cm.mapsOk (Cm.users h)
 (List.drop a' g.1)
 (List.drop a' g.2.1)) ∧
 List.length g.1 - a' <
 List.length g.1 - a) ∧
 (([] : Go.Am.Pth) = [] ∧
 ([] : Go.Am.Pth) = [] ∧
 g.1 = g.1 ∧
 (↑(List.length g.1) : Int) =
 (↑(List.length g.1) : Int) ∧
 (↑a' : Int) =
 IntKind.wrap IntKind.i64
 ((↑a : Int) + (1 : Int))) ∧
 True ∧
 (h.1 = h.1 ∧
 h.2.1 = h.2.1 ∧ h.2.2 = h.2.2) ∧
 g.1 = g.1 ∧
 g.2.1 = g.2.1 ∧ g.2.2 = g.2.2)))
 ((∃ (a : Nat),
 ((a ≤ List.length g.2.2 ∧ Cm.szOk g = true ∧ Cm.mapsOk (Cm.users h) g.1 g.2.1 = true) ∧
 Cm.shsOk g.1 g.2.2 = Cm.shsOk g.1 (List.drop a g.2.2)) ∧
 (([] : Go.Am.Pth) = [] ∧
 g.2.2 = g.2.2 ∧
 (↑(List.length g.2.2) : Int) = (↑(List.length g.2.2) : Int) ∧
 (↑a : Int) = (0 : Int)) ∧
 True ∧ g.1 = g.1 ∧ g.2.1 = g.2.1 ∧ g.2.2 = g.2.2) ∧
 ∀ (a : Nat),
 (a ≤ List.length g.2.2 ∧ Cm.szOk g = true ∧ Cm.mapsOk (Cm.users h) g.1 g.2.1 = true) ∧
 Cm.shsOk g.1 g.2.2 = Cm.shsOk g.1 (List.drop a g.2.2) →
 ifb (decide ((↑a : Int) < (↑(List.length g.2.2) : Int)))
 (((0 : Int) ≤ (↑a : Int) ∧ (↑a : Int) < (↑(List.length g.2.2) : Int)) ∧
 ifb (!(List.getD g.2.2 a Cm.s0).1)
 (ifb
 (!((List.getD g.2.2 a Cm.s0).1 == false &&
 ((List.getD g.2.2 a Cm.s0).2.1 ==
 (0 : Int) &&
 ((List.getD g.2.2 a Cm.s0).2.2.1 ==
 (0 : Int) &&
 (List.getD g.2.2 a Cm.s0).2.2.2 ==
 false))))
 (false = Cm.gOk (Cm.users h) g ∧ True)
 (∃ (a' : Nat),
 (((a' ≤ List.length g.2.2 ∧
 Cm.szOk g = true ∧ Cm.mapsOk (Cm.users h) g.1 g.2.1 = true) ∧
 Cm.shsOk g.1 g.2.2 = Cm.shsOk g.1 (List.drop a' g.2.2)) ∧
 List.length g.2.2 - a' < List.length g.2.2 - a) ∧
 (([] : Go.Am.Pth) = [] ∧
 g.2.2 = g.2.2 ∧
 (↑(List.length g.2.2) : Int) = (↑(List.length g.2.2) : Int) ∧
 (↑a' : Int) = IntKind.wrap IntKind.i64 ((↑a : Int) + (1 : Int))) ∧
 True ∧ g.1 = g.1 ∧ g.2.1 = g.2.1 ∧ g.2.2 = g.2.2))
 (True ∧
 ifb
 (!Cm.within (List.getD g.2.2 a Cm.s0).2.1
 (2 : Int) (5 : Int))
 (false = Cm.gOk (Cm.users h) g ∧ True)
 (((0 : Int) ≤ (List.getD g.2.2 a Cm.s0).2.1 ∧
 (List.getD g.2.2 a Cm.s0).2.1 <
 (↑(List.length g.1) : Int)) ∧
 ((!!(List.getD g.1
 (Int.toNat
 (List.getD g.2.2 a
 Cm.s0).2.1)
 Cm.e0).1) =
 true →
 (!!(List.getD g.1
 (Int.toNat
 (List.getD g.2.2 a
 Cm.s0).2.1)
 Cm.e0).1) =
 true) ∧
 ((!!(List.getD g.1
 (Int.toNat
 (List.getD g.2.2 a
 Cm.s0).2.1)
 Cm.e0).1) =
 true →
 (!!(List.getD g.1
 (Int.toNat
 (List.getD g.2.2 a
 Cm.s0).2.1)
 Cm.e0).1) =
 true) ∧
 ((!!(List.getD g.1
 (Int.toNat
 (List.getD g.2.2 a
 Cm.s0).2.1)
 Cm.e0).1) =
 true →
 (!!(List.getD g.1
 (Int.toNat
 (List.getD g.2.2 a
 Cm.s0).2.1)
 Cm.e0).1) =
 true) ∧
 ((!!(List.getD g.1
 (Int.toNat
 (List.getD g.2.2 a
 Cm.s0).2.1)
 Cm.e0).1) =
 true →
 (!!(List.getD g.1
 (Int.toNat
 (List.getD g.2.2 a
 Cm.s0).2.1)
 Cm.e0).1) =
 true) ∧
 ((!(List.getD g.1
 (Int.toNat
 (List.getD g.2.2 a
 Cm.s0).2.1)
 Cm.e0).1) =
 false →
 (!!(List.getD g.1
 (Int.toNat
 (List.getD g.2.2 a
 Cm.s0).2.1)
 Cm.e0).1) =
 true) ∧
 ((!(!(List.getD g.1
 (Int.toNat
 (List.getD g.2.2 a
 Cm.s0).2.1)
 Cm.e0).1 ||
 (List.getD g.1
 (Int.toNat
 (List.getD g.2.2 a
 Cm.s0).2.1)
 Cm.e0).2.1 !=
 (List.getD g.2.2 a
 Cm.s0).2.2.1)) =
 true →
 (!(!(List.getD g.1
 (Int.toNat
 (List.getD g.2.2 a
 Cm.s0).2.1)
 Cm.e0).1 ||
 (List.getD g.1
 (Int.toNat
 (List.getD g.2.2 a
 Cm.s0).2.1)
 Cm.e0).2.1 !=
 (List.getD g.2.2 a
 Cm.s0).2.2.1)) =
 true) ∧
 ((!(!(List.getD g.1
 (Int.toNat
 (List.getD g.2.2 a
 Cm.s0).2.1)
 Cm.e0).1 ||
 (List.getD g.1
 (Int.toNat
 (List.getD g.2.2 a
 Cm.s0).2.1)
 Cm.e0).2.1 !=
 (List.getD g.2.2 a
 Cm.s0).2.2.1)) =
 true →
 (!(!(List.getD g.1
 (Int.toNat
 (List.getD g.2.2 a
 Cm.s0).2.1)
 Cm.e0).1 ||
 (List.getD g.1
 (Int.toNat
 (List.getD g.2.2 a
 Cm.s0).2.1)
 Cm.e0).2.1 !=
 (List.getD g.2.2 a
 Cm.s0).2.2.1)) =
 true) ∧
 ((!(!(List.getD g.1
 (Int.toNat
 (List.getD g.2.2 a
 Cm.s0).2.1)
 Cm.e0).1 ||
 (List.getD g.1
 (Int.toNat
 (List.getD g.2.2 a
 Cm.s0).2.1)
 Cm.e0).2.1 !=
 (List.getD g.2.2 a
 Cm.s0).2.2.1) &&
 (List.getD g.2.2 a
 Cm.s0).2.2.2) =
 true →
 (!(!(List.getD g.1
 (Int.toNat
 (List.getD g.2.2 a
 Cm.s0).2.1)
 Cm.e0).1 ||
 (List.getD g.1
 (Int.toNat
 (List.getD g.2.2 a
 Cm.s0).2.1)
 Cm.e0).2.1 !=
 (List.getD g.2.2 a
 Cm.s0).2.2.1) &&
 (List.getD g.2.2 a
 Cm.s0).2.2.2) =
 true) ∧
 ((!(!(List.getD g.1
 (Int.toNat
 (List.getD g.2.2 a
 Cm.s0).2.1)
 Cm.e0).1 ||
 (List.getD g.1
 (Int.toNat
 (List.getD g.2.2 a
 Cm.s0).2.1)
 Cm.e0).2.1 !=
 (List.getD g.2.2 a
 Cm.s0).2.2.1) &&
 (List.getD g.2.2 a
 Cm.s0).2.2.2) =
 true →
 (!(!(List.getD g.1
 (Int.toNat
 (List.getD g.2.2 a
 Cm.s0).2.1)
 Cm.e0).1 ||
 (List.getD g.1
 (Int.toNat
 (List.getD g.2.2 a
 Cm.s0).2.1)
 Cm.e0).2.1 !=
 (List.getD g.2.2 a
 Cm.s0).2.2.1) &&
 (List.getD g.2.2 a
 Cm.s0).2.2.2) =
 true) ∧
 ((!(!(List.getD g.1
 (Int.toNat
 (List.getD g.2.2 a
 Cm.s0).2.1)
 Cm.e0).1 ||
 (List.getD g.1
 (Int.toNat
 (List.getD g.2.2 a
 Cm.s0).2.1)
 Cm.e0).2.1 !=
 (List.getD g.2.2 a
 Cm.s0).2.2.1)) =
 true →
 (!(!(List.getD g.1
 (Int.toNat
 (List.getD g.2.2 a
 Cm.s0).2.1)
 Cm.e0).1 ||
 (List.getD g.1
 (Int.toNat
 (List.getD g.2.2 a
 Cm.s0).2.1)
 Cm.e0).2.1 !=
 (List.getD g.2.2 a
 Cm.s0).2.2.1)) =
 true) ∧
 ((!(!(List.getD g.1
 (Int.toNat
 (List.getD g.2.2 a
 Cm.s0).2.1)
 Cm.e0).1 ||
 (List.getD g.1
 (Int.toNat
 (List.getD g.2.2 a
 Cm.s0).2.1)
 Cm.e0).2.1 !=
 (List.getD g.2.2 a
 Cm.s0).2.2.1)) =
 true →
 (List.getD g.2.2 a
 Cm.s0).2.2.2 =
 true →
 (!(!(List.getD g.1
 (Int.toNat
 (List.getD g.2.2 a
 Cm.s0).2.1)
 Cm.e0).1 ||
 (List.getD g.1
 (Int.toNat
 (List.getD g.2.2 a
 Cm.s0).2.1)
 Cm.e0).2.1 !=
 (List.getD g.2.2 a
 Cm.s0).2.2.1) &&
 (List.getD g.2.2 a
 Cm.s0).2.2.2) =
 true) ∧
 ((!(List.getD g.1
 (Int.toNat
 (List.getD g.2.2 a
 Cm.s0).2.1)
 Cm.e0).1 ||
 (List.getD g.1
 (Int.toNat
 (List.getD g.2.2 a
 Cm.s0).2.1)
 Cm.e0).2.1 !=
 (List.getD g.2.2 a
 Cm.s0).2.2.1) =
 false →
 (!(!(List.getD g.1
 (Int.toNat
 (List.getD g.2.2 a
 Cm.s0).2.1)
 Cm.e0).1 ||
 (List.getD g.1
 (Int.toNat
 (List.getD g.2.2 a
 Cm.s0).2.1)
 Cm.e0).2.1 !=
 (List.getD g.2.2 a
 Cm.s0).2.2.1)) =
 true) ∧
 ifb
 (!(List.getD g.1
 (Int.toNat
 (List.getD g.2.2 a
 Cm.s0).2.1)
 Cm.e0).1 ||
 (List.getD g.1
 (Int.toNat
 (List.getD g.2.2 a
 Cm.s0).2.1)
 Cm.e0).2.1 !=
 (List.getD g.2.2 a
 Cm.s0).2.2.1 ||
 (List.getD g.2.2 a
 Cm.s0).2.2.2 &&
 !(List.getD g.1
 (Int.toNat
 (List.getD g.2.2 a
 Cm.s0).2.1)
 Cm.e0).2.2)
 (false = Cm.gOk (Cm.users h) g ∧ True)
 (∃ (a' : Nat),
 (((a' ≤ List.length g.2.2 ∧
 Cm.szOk g = true ∧
 Cm.mapsOk (Cm.users h) g.1 g.2.1 =
 true) ∧
 Cm.shsOk g.1 g.2.2 =
 Cm.shsOk g.1 (List.drop a' g.2.2)) ∧
 List.length g.2.2 - a' <
 List.length g.2.2 - a) ∧
 (([] : Go.Am.Pth) = [] ∧
 g.2.2 = g.2.2 ∧
 (↑(List.length g.2.2) : Int) =
 (↑(List.length g.2.2) : Int) ∧
 (↑a' : Int) =
 IntKind.wrap IntKind.i64
 ((↑a : Int) + (1 : Int))) ∧
 True ∧
 g.1 = g.1 ∧
 g.2.1 = g.2.1 ∧ g.2.2 = g.2.2))))
 (true = Cm.gOk (Cm.users h) g ∧ True)))) := by kernel_rfl
noncomputable def E_impl_HostOk : Env := En (Go.Am.look [] [(98, [sWithin]), (117, [sOkM]), (118, [sGOk])])
theorem vc_impl_HostOk (h : Cm.Ho) : (FGA E_impl_HostOk Try.f63 sHOk [⟨kH, h⟩] (one (an_hOkI h))) = (
 ((!(↑(List.length h.1) : Int) != (8 : Int)) = true → (!(↑(List.length h.1) : Int) != (8 : Int)) = true) ∧
 ((!(↑(List.length h.1) : Int) != (8 : Int)) = true → (!(↑(List.length h.1) : Int) != (8 : Int)) = true) ∧
 ((!(↑(List.length h.1) : Int) != (8 : Int)) = true → Cm.bd h.1) ∧
 ((!(↑(List.length h.1) : Int) != (8 : Int)) = true → (!(↑(List.length h.1) : Int) != (8 : Int)) = true) ∧
 (((↑(List.length h.1) : Int) != (8 : Int)) = false → (!(↑(List.length h.1) : Int) != (8 : Int)) = true) ∧
 ((!((↑(List.length h.1) : Int) != (8 : Int) || !Cm.okM h.1)) = true →
 (!((↑(List.length h.1) : Int) != (8 : Int) || !Cm.okM h.1)) = true) ∧
 ((!((↑(List.length h.1) : Int) != (8 : Int) || !Cm.okM h.1)) = true →
 (!((↑(List.length h.1) : Int) != (8 : Int) || !Cm.okM h.1)) = true) ∧
 ((!((↑(List.length h.1) : Int) != (8 : Int) || !Cm.okM h.1)) = true →
 (!((↑(List.length h.1) : Int) != (8 : Int) || !Cm.okM h.1)) = true) ∧
 ((!((↑(List.length h.1) : Int) != (8 : Int) || !Cm.okM h.1)) = true → True) ∧
 ((!((↑(List.length h.1) : Int) != (8 : Int) || !Cm.okM h.1)) = true →
 (!((↑(List.length h.1) : Int) != (8 : Int) || !Cm.okM h.1)) = true) ∧
 (((↑(List.length h.1) : Int) != (8 : Int) || !Cm.okM h.1) = false →
 (!((↑(List.length h.1) : Int) != (8 : Int) || !Cm.okM h.1)) = true) ∧
 ((!((↑(List.length h.1) : Int) != (8 : Int) || !Cm.okM h.1 ||
 !Cm.within (↑(List.length h.2.1) : Int) (1 : Int) (2 : Int))) =
 true →
 (!((↑(List.length h.1) : Int) != (8 : Int) || !Cm.okM h.1 ||
 !Cm.within (↑(List.length h.2.1) : Int) (1 : Int) (2 : Int))) =
 true) ∧
 ((!((↑(List.length h.1) : Int) != (8 : Int) || !Cm.okM h.1 ||
 !Cm.within (↑(List.length h.2.1) : Int) (1 : Int) (2 : Int))) =
 true →
 (!((↑(List.length h.1) : Int) != (8 : Int) || !Cm.okM h.1 ||
 !Cm.within (↑(List.length h.2.1) : Int) (1 : Int) (2 : Int))) =
 true) ∧
 ((!((↑(List.length h.1) : Int) != (8 : Int) || !Cm.okM h.1 ||
 !Cm.within (↑(List.length h.2.1) : Int) (1 : Int) (2 : Int))) =
 true →
 True) ∧
 ((!((↑(List.length h.1) : Int) != (8 : Int) || !Cm.okM h.1 ||
 !Cm.within (↑(List.length h.2.1) : Int) (1 : Int) (2 : Int))) =
 true →
 (!((↑(List.length h.1) : Int) != (8 : Int) || !Cm.okM h.1 ||
 !Cm.within (↑(List.length h.2.1) : Int) (1 : Int) (2 : Int))) =
 true) ∧
 (((↑(List.length h.1) : Int) != (8 : Int) || !Cm.okM h.1 ||
 !Cm.within (↑(List.length h.2.1) : Int) (1 : Int) (2 : Int)) =
 false →
 (!((↑(List.length h.1) : Int) != (8 : Int) || !Cm.okM h.1 ||
 !Cm.within (↑(List.length h.2.1) : Int) (1 : Int) (2 : Int))) =
 true) ∧
 ifb
 ((↑(List.length h.1) : Int) != (8 : Int) || !Cm.okM h.1 ||
 !Cm.within (↑(List.length h.2.1) : Int) (1 : Int) (2 : Int) ||
 !Cm.within h.2.2 (0 : Int) (7 : Int))
 (false = Cm.hOk h ∧ True)
 ((∃ (a : Nat),
 (a ≤ List.length h.2.1 ∧
 Cm.gsOk (Cm.users h) h.2.1 = Cm.gsOk (Cm.users h) (List.drop a h.2.1)) ∧
 (([] : Go.Am.Pth) = [] ∧
 h.2.1 = h.2.1 ∧
 (↑(List.length h.2.1) : Int) = (↑(List.length h.2.1) : Int) ∧
 (↑a : Int) = (0 : Int)) ∧
 True ∧ h.1 = h.1 ∧ h.2.1 = h.2.1 ∧ h.2.2 = h.2.2) ∧
 ∀ (a : Nat),
 a ≤ List.length h.2.1 ∧
 Cm.gsOk (Cm.users h) h.2.1 = Cm.gsOk (Cm.users h) (List.drop a h.2.1) →
 ifb (decide ((↑a : Int) < (↑(List.length h.2.1) : Int)))
 (((0 : Int) ≤ (↑a : Int) ∧ (↑a : Int) < (↑(List.length h.2.1) : Int)) ∧
 (Cm.bdH h ∧ Cm.bdG (List.getD h.2.1 a Cm.g0)) ∧
 ifb (!Cm.gOk (Cm.users h) (List.getD h.2.1 a Cm.g0))
 (false = Cm.hOk h ∧ True)
 (∃ (a' : Nat),
 ((a' ≤ List.length h.2.1 ∧
 Cm.gsOk (Cm.users h) h.2.1 =
 Cm.gsOk (Cm.users h) (List.drop a' h.2.1)) ∧
 List.length h.2.1 - a' < List.length h.2.1 - a) ∧
 (([] : Go.Am.Pth) = [] ∧
 h.2.1 = h.2.1 ∧
 (↑(List.length h.2.1) : Int) = (↑(List.length h.2.1) : Int) ∧
 (↑a' : Int) =
 IntKind.wrap IntKind.i64 ((↑a : Int) + (1 : Int))) ∧
 True ∧ h.1 = h.1 ∧ h.2.1 = h.2.1 ∧ h.2.2 = h.2.2))
 (true = Cm.hOk h ∧ True))) := by kernel_rfl
noncomputable def E_spec_HostOk : Env := En (Go.Am.look [] [(107, [sWithin]), (119, [sOkM]), (120, [sOkG]), (121, [sMapOk]), (122, [sShOk])])
theorem vc_spec_HostOk (h : Cm.Ho) : (FGA E_spec_HostOk Try.f64 sHOk [⟨kH, h⟩] (an_hOkS h)) = (
 Cm.bd h.1 ∧
 ((!!Cm.okM h.1) = true → (!!Cm.okM h.1) = true) ∧
 ((!!Cm.okM h.1) = true → (!!Cm.okM h.1) = true) ∧
 ((!!Cm.okM h.1) = true → (!!Cm.okM h.1) = true) ∧
 ((!Cm.okM h.1) = false → (!!Cm.okM h.1) = true) ∧
 ((!(!Cm.okM h.1 || (↑(List.length h.1) : Int) != (8 : Int))) = true →
 (!(!Cm.okM h.1 || (↑(List.length h.1) : Int) != (8 : Int))) = true) ∧
 ((!(!Cm.okM h.1 || (↑(List.length h.1) : Int) != (8 : Int))) = true →
 (!(!Cm.okM h.1 || (↑(List.length h.1) : Int) != (8 : Int))) = true) ∧
 ((!(!Cm.okM h.1 || (↑(List.length h.1) : Int) != (8 : Int))) = true →
 (!(!Cm.okM h.1 || (↑(List.length h.1) : Int) != (8 : Int))) = true) ∧
 ((!(!Cm.okM h.1 || (↑(List.length h.1) : Int) != (8 : Int))) = true → True) ∧
 ((!(!Cm.okM h.1 || (↑(List.length h.1) : Int) != (8 : Int))) = true →
 (!(!Cm.okM h.1 || (↑(List.length h.1) : Int) != (8 : Int))) = true) ∧
 ((!Cm.okM h.1 || (↑(List.length h.1) : Int) != (8 : Int)) = false →
 (!(!Cm.okM h.1 || (↑(List.length h.1) : Int) != (8 : Int))) = true) ∧
 ((!(!Cm.okM h.1 || (↑(List.length h.1) : Int) != (8 : Int) ||
 !Cm.within (↑(List.length h.2.1) : Int) (1 : Int) (2 : Int))) =
 true →
 (!(!Cm.okM h.1 || (↑(List.length h.1) : Int) != (8 : Int) ||
 !Cm.within (↑(List.length h.2.1) : Int) (1 : Int) (2 : Int))) =
 true) ∧
 ((!(!Cm.okM h.1 || (↑(List.length h.1) : Int) != (8 : Int) ||
 !Cm.within (↑(List.length h.2.1) : Int) (1 : Int) (2 : Int))) =
 true →
 (!(!Cm.okM h.1 || (↑(List.length h.1) : Int) != (8 : Int) ||
 !Cm.within (↑(List.length h.2.1) : Int) (1 : Int) (2 : Int))) =
 true) ∧
 ((!(!Cm.okM h.1 || (↑(List.length h.1) : Int) != (8 : Int) ||
 !Cm.within (↑(List.length h.2.1) : Int) (1 : Int) (2 : Int))) =
 true →
 True) ∧
 ((!(!Cm.okM h.1 || (↑(List.length h.1) : Int) != (8 : Int) ||
 !Cm.within (↑(List.length h.2.1) : Int) (1 : Int) (2 : Int))) =
 true →
 (!(!Cm.okM h.1 || (↑(List.length h.1) : Int) != (8 : Int) ||
 !Cm.within (↑(List.length h.2.1) : Int) (1 : Int) (2 : Int))) =
 true) ∧
 ((!Cm.okM h.1 || (↑(List.length h.1) : Int) != (8 : Int) ||
 !Cm.within (↑(List.length h.2.1) : Int) (1 : Int) (2 : Int)) =
 false →
 (!(!Cm.okM h.1 || (↑(List.length h.1) : Int) != (8 : Int) ||
 !Cm.within (↑(List.length h.2.1) : Int) (1 : Int) (2 : Int))) =
 true) ∧
 ifb
 (!Cm.okM h.1 || (↑(List.length h.1) : Int) != (8 : Int) ||
 !Cm.within (↑(List.length h.2.1) : Int) (1 : Int) (2 : Int) ||
 !Cm.within h.2.2 (0 : Int) (7 : Int))
 (false = Cm.hOk h ∧ True)
 ((∃ (a : Nat),
 (a ≤ List.length h.2.1 ∧ Cm.szsOk h.2.1 = Cm.szsOk (List.drop a h.2.1)) ∧
 (([] : Go.Am.Pth) = [] ∧ (↑a : Int) = (0 : Int)) ∧
 True ∧ h.1 = h.1 ∧ h.2.1 = h.2.1 ∧ h.2.2 = h.2.2) ∧
 ∀ (a : Nat),
 a ≤ List.length h.2.1 ∧ Cm.szsOk h.2.1 = Cm.szsOk (List.drop a h.2.1) →
 ifb (decide ((↑a : Int) < (↑(List.length h.2.1) : Int)))
 (((0 : Int) ≤ (↑a : Int) ∧ (↑a : Int) < (↑(List.length h.2.1) : Int)) ∧
 ((!(↑(List.length (List.getD h.2.1 a Cm.g0).1) : Int) != (6 : Int)) =
 true →
 (!(↑(List.length (List.getD h.2.1 a Cm.g0).1) : Int) !=
 (6 : Int)) =
 true) ∧
 ((!(↑(List.length (List.getD h.2.1 a Cm.g0).1) : Int) !=
 (6 : Int)) =
 true →
 (!(↑(List.length (List.getD h.2.1 a Cm.g0).1) : Int) !=
 (6 : Int)) =
 true) ∧
 ((!(↑(List.length (List.getD h.2.1 a Cm.g0).1) : Int) !=
 (6 : Int)) =
 true →
 (!(↑(List.length (List.getD h.2.1 a Cm.g0).1) : Int) !=
 (6 : Int)) =
 true) ∧
 (((↑(List.length (List.getD h.2.1 a Cm.g0).1) : Int) !=
 (6 : Int)) =
 false →
 (!(↑(List.length (List.getD h.2.1 a Cm.g0).1) : Int) !=
 (6 : Int)) =
 true) ∧
 ((!((↑(List.length (List.getD h.2.1 a Cm.g0).1) : Int) !=
 (6 : Int) ||
 (↑(List.length (List.getD h.2.1 a Cm.g0).2.2) :
 Int) !=
 (6 : Int))) =
 true →
 (!((↑(List.length (List.getD h.2.1 a Cm.g0).1) : Int) !=
 (6 : Int) ||
 (↑(List.length (List.getD h.2.1 a Cm.g0).2.2) :
 Int) !=
 (6 : Int))) =
 true) ∧
 ((!((↑(List.length (List.getD h.2.1 a Cm.g0).1) : Int) !=
 (6 : Int) ||
 (↑(List.length (List.getD h.2.1 a Cm.g0).2.2) :
 Int) !=
 (6 : Int))) =
 true →
 (!((↑(List.length (List.getD h.2.1 a Cm.g0).1) :
 Int) !=
 (6 : Int) ||
 (↑(List.length (List.getD h.2.1 a Cm.g0).2.2) :
 Int) !=
 (6 : Int))) =
 true) ∧
 ((!((↑(List.length (List.getD h.2.1 a Cm.g0).1) : Int) !=
 (6 : Int) ||
 (↑(List.length (List.getD h.2.1 a Cm.g0).2.2) :
 Int) !=
 (6 : Int))) =
 true →
 Cm.bd (List.getD h.2.1 a Cm.g0).2.1) ∧
 ((!((↑(List.length (List.getD h.2.1 a Cm.g0).1) :
 Int) !=
 (6 : Int) ||
 (↑(List.length
 (List.getD h.2.1 a Cm.g0).2.2) :
 Int) !=
 (6 : Int))) =
 true →
 (!((↑(List.length (List.getD h.2.1 a Cm.g0).1) :
 Int) !=
 (6 : Int) ||
 (↑(List.length
 (List.getD h.2.1 a Cm.g0).2.2) :
 Int) !=
 (6 : Int))) =
 true) ∧
 (((↑(List.length (List.getD h.2.1 a Cm.g0).1) :
 Int) !=
 (6 : Int) ||
 (↑(List.length
 (List.getD h.2.1 a Cm.g0).2.2) :
 Int) !=
 (6 : Int)) =
 false →
 (!((↑(List.length (List.getD h.2.1 a Cm.g0).1) :
 Int) !=
 (6 : Int) ||
 (↑(List.length
 (List.getD h.2.1 a Cm.g0).2.2) :
 Int) !=
 (6 : Int))) =
 true) ∧
 ifb
 ((↑(List.length (List.getD h.2.1 a Cm.g0).1) :
 Int) !=
 (6 : Int) ||
 (↑(List.length
 (List.getD h.2.1 a Cm.g0).2.2) :
 Int) !=
 (6 : Int) ||
 !Cm.okG (List.getD h.2.1 a Cm.g0).2.1)
 (false = Cm.hOk h ∧ True)
 (∃ (a' : Nat),
 ((a' ≤ List.length h.2.1 ∧
 Cm.szsOk h.2.1 =
 Cm.szsOk (List.drop a' h.2.1)) ∧
 List.length h.2.1 - a' < List.length h.2.1 - a) ∧
 (([] : Go.Am.Pth) = [] ∧
 (↑a' : Int) =
 IntKind.wrap IntKind.i64
 ((↑a : Int) + (1 : Int))) ∧
 True ∧ h.1 = h.1 ∧ h.2.1 = h.2.1 ∧ h.2.2 = h.2.2))
 ((∃ (a : Nat),
 ((a ≤ List.length h.2.1 ∧ Cm.szsOk h.2.1 = true) ∧
 Cm.gsOk (Cm.users h) h.2.1 =
 Cm.gsOk (Cm.users h) (List.drop a h.2.1)) ∧
 (([] : Go.Am.Pth) = [] ∧ (↑a : Int) = (0 : Int)) ∧
 True ∧ h.1 = h.1 ∧ h.2.1 = h.2.1 ∧ h.2.2 = h.2.2) ∧
 ∀ (a : Nat),
 (a ≤ List.length h.2.1 ∧ Cm.szsOk h.2.1 = true) ∧
 Cm.gsOk (Cm.users h) h.2.1 =
 Cm.gsOk (Cm.users h) (List.drop a h.2.1) →
 ifb (decide ((↑a : Int) < (↑(List.length h.2.1) : Int)))
 (((0 : Int) ≤ (↑a : Int) ∧
 (↑a : Int) < (↑(List.length h.2.1) : Int)) ∧
 (∃ (a_1 : Nat),
 ((a_1 ≤ (6 : Nat) ∧
 a < List.length h.2.1 ∧ Cm.szsOk h.2.1 = true) ∧
 Cm.gsOk (Cm.users h) h.2.1 =
 (Cm.mapsOk (Cm.users h)
 (List.drop a_1 (List.getD h.2.1 a Cm.g0).1)
 (List.drop a_1 (List.getD h.2.1 a Cm.g0).2.1) &&
 Cm.shsOk (List.getD h.2.1 a Cm.g0).1
 (List.drop a_1 (List.getD h.2.1 a Cm.g0).2.2) &&
 Cm.gsOk (Cm.users h)
 (List.drop (a + (1 : Nat)) h.2.1))) ∧
 (([] : Go.Am.Pth) = [] ∧
 (↑a : Int) = (↑a : Int) ∧
 ([] : Go.Am.Pth) = [] ∧ (↑a_1 : Int) = (0 : Int)) ∧
 True ∧
 (h.1 = h.1 ∧ h.2.1 = h.2.1 ∧ h.2.2 = h.2.2) ∧
 (List.getD h.2.1 a Cm.g0).1 =
 (List.getD h.2.1 a Cm.g0).1 ∧
 (List.getD h.2.1 a Cm.g0).2.1 =
 (List.getD h.2.1 a Cm.g0).2.1 ∧
 (List.getD h.2.1 a Cm.g0).2.2 =
 (List.getD h.2.1 a Cm.g0).2.2) ∧
 ∀ (a_1 : Nat),
 (a_1 ≤ (6 : Nat) ∧
 a < List.length h.2.1 ∧ Cm.szsOk h.2.1 = true) ∧
 Cm.gsOk (Cm.users h) h.2.1 =
 (Cm.mapsOk (Cm.users h)
 (List.drop a_1 (List.getD h.2.1 a Cm.g0).1)
 (List.drop a_1 (List.getD h.2.1 a Cm.g0).2.1) &&
 Cm.shsOk (List.getD h.2.1 a Cm.g0).1
 (List.drop a_1 (List.getD h.2.1 a Cm.g0).2.2) &&
 Cm.gsOk (Cm.users h)
 (List.drop (a + (1 : Nat)) h.2.1)) →
 ifb (decide ((↑a_1 : Int) < (6 : Int)))
 (((0 : Int) ≤ (↑a_1 : Int) ∧
 (↑a_1 : Int) <
 (↑(List.length (List.getD h.2.1 a Cm.g0).1) : Int)) ∧
 ((0 : Int) ≤ (↑a_1 : Int) ∧
 (↑a_1 : Int) <
 (↑(List.length (List.getD h.2.1 a Cm.g0).2.1) :
 Int)) ∧
 (Cm.bdH h ∧
 List.length
 (List.getD (List.getD h.2.1 a Cm.g0).2.1 a_1
 []) ≤
 (1048576 : Nat) ∧
 ((List.getD (List.getD h.2.1 a Cm.g0).1 a_1
 Cm.e0).1 =
 true →
 (1 : Int) ≤
 Cm.users h
 (List.getD (List.getD h.2.1 a Cm.g0).1 a_1
 Cm.e0).2.1)) ∧
 ((!!Cm.mapOk (Cm.users h)
 (List.getD (List.getD h.2.1 a Cm.g0).1 a_1
 Cm.e0)
 (List.getD (List.getD h.2.1 a Cm.g0).2.1
 a_1 [])) =
 true →
 (!!Cm.mapOk (Cm.users h)
 (List.getD (List.getD h.2.1 a Cm.g0).1 a_1
 Cm.e0)
 (List.getD (List.getD h.2.1 a Cm.g0).2.1
 a_1 [])) =
 true) ∧
 ((!!Cm.mapOk (Cm.users h)
 (List.getD (List.getD h.2.1 a Cm.g0).1
 a_1 Cm.e0)
 (List.getD (List.getD h.2.1 a Cm.g0).2.1
 a_1 [])) =
 true →
 (!!Cm.mapOk (Cm.users h)
 (List.getD (List.getD h.2.1 a Cm.g0).1
 a_1 Cm.e0)
 (List.getD (List.getD h.2.1 a Cm.g0).2.1
 a_1 [])) =
 true) ∧
 ((!!Cm.mapOk (Cm.users h)
 (List.getD (List.getD h.2.1 a Cm.g0).1
 a_1 Cm.e0)
 (List.getD
 (List.getD h.2.1 a Cm.g0).2.1 a_1
 [])) =
 true →
 (!!Cm.mapOk (Cm.users h)
 (List.getD (List.getD h.2.1 a Cm.g0).1
 a_1 Cm.e0)
 (List.getD
 (List.getD h.2.1 a Cm.g0).2.1 a_1
 [])) =
 true) ∧
 ((!!Cm.mapOk (Cm.users h)
 (List.getD
 (List.getD h.2.1 a Cm.g0).1 a_1
 Cm.e0)
 (List.getD
 (List.getD h.2.1 a Cm.g0).2.1 a_1
 [])) =
 true →
 (0 : Int) ≤ (↑a_1 : Int) ∧
 (↑a_1 : Int) <
 (↑(List.length
 (List.getD h.2.1 a Cm.g0).2.2) :
 Int)) ∧
 ((!!Cm.mapOk (Cm.users h)
 (List.getD
 (List.getD h.2.1 a Cm.g0).1 a_1
 Cm.e0)
 (List.getD
 (List.getD h.2.1 a Cm.g0).2.1
 a_1 [])) =
 true →
 (!!Cm.mapOk (Cm.users h)
 (List.getD
 (List.getD h.2.1 a Cm.g0).1 a_1
 Cm.e0)
 (List.getD
 (List.getD h.2.1 a Cm.g0).2.1
 a_1 [])) =
 true) ∧
 ((!!Cm.mapOk (Cm.users h)
 (List.getD
 (List.getD h.2.1 a Cm.g0).1
 a_1 Cm.e0)
 (List.getD
 (List.getD h.2.1 a Cm.g0).2.1
 a_1 [])) =
 true →
 (!!Cm.mapOk (Cm.users h)
 (List.getD
 (List.getD h.2.1 a Cm.g0).1
 a_1 Cm.e0)
 (List.getD
 (List.getD h.2.1 a Cm.g0).2.1
 a_1 [])) =
 true) ∧
 ((!!Cm.mapOk (Cm.users h)
 (List.getD
 (List.getD h.2.1 a Cm.g0).1
 a_1
 Cm.e0)
 (List.getD
 (List.getD h.2.1 a
 Cm.g0).2.1
 a_1 [])) =
 true →
 (!!Cm.mapOk (Cm.users h)
 (List.getD
 (List.getD h.2.1 a Cm.g0).1
 a_1
 Cm.e0)
 (List.getD
 (List.getD h.2.1 a
 Cm.g0).2.1
 a_1 [])) =
 true) ∧
 ((!!Cm.mapOk (Cm.users h)
 (List.getD
 (List.getD h.2.1 a
 Cm.g0).1
 a_1
 Cm.e0)
 (List.getD
 (List.getD h.2.1 a
 Cm.g0).2.1
 a_1 [])) =
 true →
 List.length
 (List.getD h.2.1 a Cm.g0).1 =
 (6 : Nat)) ∧
 ((!!Cm.mapOk (Cm.users h)
 (List.getD
 (List.getD h.2.1 a
 Cm.g0).1
 a_1
 Cm.e0)
 (List.getD
 (List.getD h.2.1 a
 Cm.g0).2.1
 a_1 [])) =
 true →
 (!!Cm.mapOk (Cm.users h)
 (List.getD
 (List.getD h.2.1 a
 Cm.g0).1
 a_1
 Cm.e0)
 (List.getD
 (List.getD h.2.1 a
 Cm.g0).2.1
 a_1 [])) =
 true) ∧
 ((!Cm.mapOk (Cm.users h)
 (List.getD
 (List.getD h.2.1 a
 Cm.g0).1
 a_1
 Cm.e0)
 (List.getD
 (List.getD h.2.1 a
 Cm.g0).2.1
 a_1 [])) =
 false →
 (!!Cm.mapOk (Cm.users h)
 (List.getD
 (List.getD h.2.1 a
 Cm.g0).1
 a_1
 Cm.e0)
 (List.getD
 (List.getD h.2.1 a
 Cm.g0).2.1
 a_1 [])) =
 true) ∧
 ifb
 (!Cm.mapOk (Cm.users h)
 (List.getD
 (List.getD h.2.1 a
 Cm.g0).1
 a_1
 Cm.e0)
 (List.getD
 (List.getD h.2.1 a
 Cm.g0).2.1
 a_1 []) ||
 !Cm.shOk
 (List.getD h.2.1 a
 Cm.g0).1
 (List.getD
 (List.getD h.2.1 a
 Cm.g0).2.2
 a_1
 Cm.s0))
 (false = Cm.hOk h ∧ True)
 (∃ (a' : Nat),
 (((a' ≤ (6 : Nat) ∧
 a <
 List.length
 h.2.1 ∧
 Cm.szsOk h.2.1 =
 true) ∧
 Cm.gsOk (Cm.users h)
 h.2.1 =
 (Cm.mapsOk
 (Cm.users h)
 (List.drop a'
 (List.getD
 h.2.1 a
 Cm.g0).1)
 (List.drop a'
 (List.getD
 h.2.1 a
 Cm.g0).2.1) &&
 Cm.shsOk
 (List.getD h.2.1
 a Cm.g0).1
 (List.drop a'
 (List.getD
 h.2.1 a
 Cm.g0).2.2) &&
 Cm.gsOk (Cm.users h)
 (List.drop
 (a + (1 : Nat))
 h.2.1))) ∧
 (6 : Nat) - a' <
 (6 : Nat) - a_1) ∧
 (([] : Go.Am.Pth) = [] ∧
 (↑a : Int) =
 (↑a : Int) ∧
 ([] : Go.Am.Pth) = [] ∧
 (↑a' : Int) =
 IntKind.wrap
 IntKind.i64
 ((↑a_1 : Int) +
 (1 : Int))) ∧
 True ∧
 (h.1 = h.1 ∧
 h.2.1 = h.2.1 ∧
 h.2.2 = h.2.2) ∧
 (List.getD h.2.1 a
 Cm.g0).1 =
 (List.getD h.2.1 a
 Cm.g0).1 ∧
 (List.getD h.2.1 a
 Cm.g0).2.1 =
 (List.getD h.2.1
 a
 Cm.g0).2.1 ∧
 (List.getD h.2.1 a
 Cm.g0).2.2 =
 (List.getD h.2.1
 a
 Cm.g0).2.2))
 (∃ (a' : Nat),
 (((a' ≤ List.length h.2.1 ∧ Cm.szsOk h.2.1 = true) ∧
 Cm.gsOk (Cm.users h) h.2.1 =
 Cm.gsOk (Cm.users h) (List.drop a' h.2.1)) ∧
 List.length h.2.1 - a' < List.length h.2.1 - a) ∧
 (([] : Go.Am.Pth) = [] ∧
 (↑a' : Int) =
 IntKind.wrap IntKind.i64
 ((↑a : Int) + (1 : Int))) ∧
 True ∧ h.1 = h.1 ∧ h.2.1 = h.2.1 ∧ h.2.2 = h.2.2))
 (true = Cm.hOk h ∧ True)))) := by kernel_rfl
noncomputable def E_spec_l12Page : Env := En (Go.Am.look [] [])
theorem vc_spec_l12Page (h : Cm.Ho) (g p : Int) : (FGA E_spec_l12Page Try.f137 sPageH [⟨kH, h⟩,  ⟨kI, g⟩,  ⟨kI, p⟩] no) = (
 ((0 : Int) ≤ g ∧ g < (↑(List.length h.2.1) : Int)) ∧
 ((0 : Int) ≤ p ∧ p < (↑(List.length (List.getD h.2.1 (Int.toNat g) Cm.g0).1) : Int)) ∧
 ifb (List.getD (List.getD h.2.1 (Int.toNat g) Cm.g0).1 (Int.toNat p) Cm.e0).1
 (((0 : Int) ≤
 (List.getD (List.getD h.2.1 (Int.toNat g) Cm.g0).1 (Int.toNat p) Cm.e0).2.1 ∧
 (List.getD (List.getD h.2.1 (Int.toNat g) Cm.g0).1 (Int.toNat p) Cm.e0).2.1 <
 (↑(List.length h.1) : Int)) ∧
 ((0 : Nat) +
 List.length
 (List.getD h.1
 (Int.toNat
 (List.getD (List.getD h.2.1 (Int.toNat g) Cm.g0).1 (Int.toNat p)
 Cm.e0).2.1)
 [])) *
 nat_lit 8 ≤
 (140737488355328 : Nat) ∧
 List.getD h.1
 (Int.toNat
 (List.getD (List.getD h.2.1 (Int.toNat g) Cm.g0).1 (Int.toNat p)
 Cm.e0).2.1)
 [] =
 Cm.pageG h.1 (List.getD h.2.1 (Int.toNat g) Cm.g0) (Int.toNat p) ∧
 True)
 (((0 : Int) ≤ g ∧ g < (↑(List.length h.2.1) : Int)) ∧
 ((0 : Int) ≤ p ∧ p < (↑(List.length (List.getD h.2.1 (Int.toNat g) Cm.g0).2.1) : Int)) ∧
 ((0 : Nat) + List.length (List.getD (List.getD h.2.1 (Int.toNat g) Cm.g0).2.1 (Int.toNat p) [])) *
 nat_lit 8 ≤
 (140737488355328 : Nat) ∧
 List.getD (List.getD h.2.1 (Int.toNat g) Cm.g0).2.1 (Int.toNat p) [] =
 Cm.pageG h.1 (List.getD h.2.1 (Int.toNat g) Cm.g0) (Int.toNat p) ∧
 True)) := by kernel_rfl
noncomputable def E_spec_l12See : Env := En (Go.Am.look [] [(137, [sPageH])])
theorem vc_spec_l12See (h : Cm.Ho) (g : Int) : (FGA E_spec_l12See Try.f108 sSeeH [⟨kH, h⟩,  ⟨kI, g⟩] (one (an_seeS h g))) = (
 (∃ (a : Nat),
 a ≤ (6 : Nat) ∧
 (g = g ∧ ([] : Go.Am.Pth) = [] ∧ ([] : Go.Am.Pth) = [] ∧ (↑a : Int) = (0 : Int)) ∧
 List.take a (Cm.see h g) = [] ∧ h.1 = h.1 ∧ h.2.1 = h.2.1 ∧ h.2.2 = h.2.2) ∧
 ∀ (a : Nat),
 a ≤ (6 : Nat) →
 ifb (decide ((↑a : Int) < (6 : Int)))
 (((Cm.bdH h ∧ Cm.hOk h = true) ∧
 ((0 : Int) ≤ g ∧ g < (↑(List.length h.2.1) : Int)) ∧ (0 : Int) ≤ (↑a : Int) ∧ (↑a : Int) ≤ (5 : Int)) ∧
 (List.length (List.take a (Cm.see h g)) + (1 : Nat)) * nat_lit 24 ≤ (140737488355328 : Nat) ∧
 ∃ (a' : Nat),
 (a' ≤ (6 : Nat) ∧ (6 : Nat) - a' < (6 : Nat) - a) ∧
 (g = g ∧ ([] : Go.Am.Pth) = [] ∧ ([] : Go.Am.Pth) = [] ∧ (↑a' : Int) = IntKind.wrap IntKind.i64 ((↑a : Int) + (1 : Int))) ∧
 List.take a' (Cm.see h g) =
 List.append (List.take a (Cm.see h g)) [Cm.pageG h.1 (List.getD h.2.1 (Int.toNat g) Cm.g0) a] ∧
 h.1 = h.1 ∧ h.2.1 = h.2.1 ∧ h.2.2 = h.2.2)
 (List.take a (Cm.see h g) = Cm.see h g ∧ True)) := by kernel_rfl
noncomputable def E_impl_Host_see : Env := En (Go.Am.look [] [])
theorem vc_impl_Host_see (h : Cm.Ho) (g : Int) : (FGA E_impl_Host_see Try.f110 sSeeH [⟨kH, h⟩,  ⟨kI, g⟩] (one (an_seeI h g))) = (
 ((0 : Int) ≤ g ∧ g < (↑(List.length h.2.1) : Int)) ∧
 (∃ (a : Nat),
 a ≤ (6 : Nat) ∧
 (([] : Go.Am.Pth) = [] ∧
 ([] : Go.Am.Pth) = [] ∧
 ([] : Go.Am.Pth) = [] ∧
 (List.getD h.2.1 (Int.toNat g) Cm.g0).1 = (List.getD h.2.1 (Int.toNat g) Cm.g0).1 ∧
 (↑(List.length (List.getD h.2.1 (Int.toNat g) Cm.g0).1) : Int) =
 (↑(List.length (List.getD h.2.1 (Int.toNat g) Cm.g0).1) : Int) ∧
 (↑a : Int) = (0 : Int)) ∧
 List.take a (Cm.see h g) = [] ∧
 (h.1 = h.1 ∧ h.2.1 = h.2.1 ∧ h.2.2 = h.2.2) ∧
 (List.getD h.2.1 (Int.toNat g) Cm.g0).1 = (List.getD h.2.1 (Int.toNat g) Cm.g0).1 ∧
 (List.getD h.2.1 (Int.toNat g) Cm.g0).2.1 = (List.getD h.2.1 (Int.toNat g) Cm.g0).2.1 ∧
 (List.getD h.2.1 (Int.toNat g) Cm.g0).2.2 = (List.getD h.2.1 (Int.toNat g) Cm.g0).2.2) ∧
 ∀ (a : Nat),
 a ≤ (6 : Nat) →
 ifb (decide ((↑a : Int) < (↑(List.length (List.getD h.2.1 (Int.toNat g) Cm.g0).1) : Int)))
 (((0 : Int) ≤ (↑a : Int) ∧ (↑a : Int) < (↑(List.length (List.getD h.2.1 (Int.toNat g) Cm.g0).1) : Int)) ∧
 ((0 : Int) ≤ (↑a : Int) ∧ (↑a : Int) < (↑(List.length (List.getD h.2.1 (Int.toNat g) Cm.g0).2.1) : Int)) ∧
 ifb (List.getD (List.getD h.2.1 (Int.toNat g) Cm.g0).1 a Cm.e0).1
 (((0 : Int) ≤ (List.getD (List.getD h.2.1 (Int.toNat g) Cm.g0).1 a Cm.e0).2.1 ∧
 (List.getD (List.getD h.2.1 (Int.toNat g) Cm.g0).1 a Cm.e0).2.1 <
 (↑(List.length h.1) : Int)) ∧
 ((0 : Nat) +
 List.length
 (List.getD h.1
 (Int.toNat
 (List.getD (List.getD h.2.1 (Int.toNat g) Cm.g0).1 a Cm.e0).2.1)
 [])) *
 nat_lit 8 ≤
 (140737488355328 : Nat) ∧
 (List.length (List.take a (Cm.see h g)) + (1 : Nat)) * nat_lit 24 ≤ (140737488355328 : Nat) ∧
 ∃ (a' : Nat),
 (a' ≤ (6 : Nat) ∧ (6 : Nat) - a' < (6 : Nat) - a) ∧
 (([] : Go.Am.Pth) = [] ∧
 ([] : Go.Am.Pth) = [] ∧
 ([] : Go.Am.Pth) = [] ∧
 (List.getD h.2.1 (Int.toNat g) Cm.g0).1 = (List.getD h.2.1 (Int.toNat g) Cm.g0).1 ∧
 (↑(List.length (List.getD h.2.1 (Int.toNat g) Cm.g0).1) : Int) =
 (↑(List.length (List.getD h.2.1 (Int.toNat g) Cm.g0).1) : Int) ∧
 (↑a' : Int) = IntKind.wrap IntKind.i64 ((↑a : Int) + (1 : Int))) ∧
 List.take a' (Cm.see h g) =
 List.append (List.take a (Cm.see h g))
 [List.getD h.1
 (Int.toNat
 (List.getD (List.getD h.2.1 (Int.toNat g) Cm.g0).1 a
 Cm.e0).2.1)
 []] ∧
 (h.1 = h.1 ∧ h.2.1 = h.2.1 ∧ h.2.2 = h.2.2) ∧
 (List.getD h.2.1 (Int.toNat g) Cm.g0).1 = (List.getD h.2.1 (Int.toNat g) Cm.g0).1 ∧
 (List.getD h.2.1 (Int.toNat g) Cm.g0).2.1 =
 (List.getD h.2.1 (Int.toNat g) Cm.g0).2.1 ∧
 (List.getD h.2.1 (Int.toNat g) Cm.g0).2.2 =
 (List.getD h.2.1 (Int.toNat g) Cm.g0).2.2)
 (((0 : Nat) + List.length (List.getD (List.getD h.2.1 (Int.toNat g) Cm.g0).2.1 a [])) * nat_lit 8 ≤
 (140737488355328 : Nat) ∧
 (List.length (List.take a (Cm.see h g)) + (1 : Nat)) * nat_lit 24 ≤ (140737488355328 : Nat) ∧
 ∃ (a' : Nat),
 (a' ≤ (6 : Nat) ∧ (6 : Nat) - a' < (6 : Nat) - a) ∧
 (([] : Go.Am.Pth) = [] ∧
 ([] : Go.Am.Pth) = [] ∧
 ([] : Go.Am.Pth) = [] ∧
 (List.getD h.2.1 (Int.toNat g) Cm.g0).1 = (List.getD h.2.1 (Int.toNat g) Cm.g0).1 ∧
 (↑(List.length (List.getD h.2.1 (Int.toNat g) Cm.g0).1) : Int) =
 (↑(List.length (List.getD h.2.1 (Int.toNat g) Cm.g0).1) : Int) ∧
 (↑a' : Int) = IntKind.wrap IntKind.i64 ((↑a : Int) + (1 : Int))) ∧
 List.take a' (Cm.see h g) =
 List.append (List.take a (Cm.see h g))
 [List.getD (List.getD h.2.1 (Int.toNat g) Cm.g0).2.1 a []] ∧
 (h.1 = h.1 ∧ h.2.1 = h.2.1 ∧ h.2.2 = h.2.2) ∧
 (List.getD h.2.1 (Int.toNat g) Cm.g0).1 = (List.getD h.2.1 (Int.toNat g) Cm.g0).1 ∧
 (List.getD h.2.1 (Int.toNat g) Cm.g0).2.1 = (List.getD h.2.1 (Int.toNat g) Cm.g0).2.1 ∧
 (List.getD h.2.1 (Int.toNat g) Cm.g0).2.2 =
 (List.getD h.2.1 (Int.toNat g) Cm.g0).2.2))
 (List.take a (Cm.see h g) = Cm.see h g ∧ True)) := by kernel_rfl
noncomputable def E_spec_HostSee : Env := En (Go.Am.look [] [(64, [sHOk]), (107, [sWithin]), (108, [sSeeH])])
theorem vc_spec_HostSee (h : Cm.Ho) (g : Int) : (FGA E_spec_HostSee Try.f55 sHSee [⟨kH, h⟩,  ⟨kI, g⟩] no) = (
 Cm.bdH h ∧
 ((!!Cm.hOk h) = true → (!!Cm.hOk h) = true) ∧
 ((!!Cm.hOk h) = true → (!!Cm.hOk h) = true) ∧
 ((!!Cm.hOk h) = true → (!!Cm.hOk h) = true) ∧
 ((!!Cm.hOk h) = true → (!!Cm.hOk h) = true) ∧
 ((!!Cm.hOk h) = true → (!!Cm.hOk h) = true) ∧
 ((!!Cm.hOk h) = true → True) ∧
 ((!!Cm.hOk h) = true → (!!Cm.hOk h) = true) ∧
 ((!Cm.hOk h) = false → (!!Cm.hOk h) = true) ∧
 ifb
 (!Cm.hOk h ||
 !Cm.within g (0 : Int) (IntKind.wrap IntKind.i64 ((↑(List.length h.2.1) : Int) - (1 : Int))))
 ([] = Cm.hSee h g ∧ True)
 (((Cm.bdH h ∧ Cm.hOk h = true) ∧ (0 : Int) ≤ g ∧ g < (↑(List.length h.2.1) : Int)) ∧
 Cm.see h g = Cm.hSee h g ∧ True)) := by kernel_rfl
noncomputable def E_impl_HostSee : Env := En (Go.Am.look [] [(63, [sHOk]), (98, [sWithin]), (110, [sSeeH])])
theorem vc_impl_HostSee (h : Cm.Ho) (g : Int) : (FGA E_impl_HostSee Try.f57 sHSee [⟨kH, h⟩,  ⟨kI, g⟩] no) = (
 Cm.bdH h ∧
 ((!!Cm.hOk h) = true → (!!Cm.hOk h) = true) ∧
 ((!!Cm.hOk h) = true → (!!Cm.hOk h) = true) ∧
 ((!!Cm.hOk h) = true → (!!Cm.hOk h) = true) ∧
 ((!!Cm.hOk h) = true → (!!Cm.hOk h) = true) ∧
 ((!!Cm.hOk h) = true → (!!Cm.hOk h) = true) ∧
 ((!!Cm.hOk h) = true → True) ∧
 ((!!Cm.hOk h) = true → (!!Cm.hOk h) = true) ∧
 ((!Cm.hOk h) = false → (!!Cm.hOk h) = true) ∧
 ifb
 (!Cm.hOk h ||
 !Cm.within g (0 : Int) (IntKind.wrap IntKind.i64 ((↑(List.length h.2.1) : Int) - (1 : Int))))
 ([] = Cm.hSee h g ∧ True)
 (((Cm.bdH h ∧ Cm.hOk h = true) ∧ (0 : Int) ≤ g ∧ g < (↑(List.length h.2.1) : Int)) ∧
 Cm.see h g = Cm.hSee h g ∧ True)) := by kernel_rfl
noncomputable def E_impl_there : Env := En (Go.Am.look [] [(63, [sHOk]), (98, [sWithin])])
theorem vc_impl_there (h : Cm.Ho) (g p : Int) : (FGA E_impl_there Try.f89 sIsH [⟨kH, h⟩,  ⟨kI, g⟩,  ⟨kI, p⟩] no) = (
 Cm.bdH h ∧
 (Cm.hOk h = true → Cm.hOk h = true) ∧
 (Cm.hOk h = true → Cm.hOk h = true) ∧
 (Cm.hOk h = true → Cm.hOk h = true) ∧
 (Cm.hOk h = true → Cm.hOk h = true) ∧
 (Cm.hOk h = true → Cm.hOk h = true) ∧
 (Cm.hOk h = true → True) ∧
 (Cm.hOk h = true → Cm.hOk h = true) ∧
 ((Cm.hOk h &&
 Cm.within g (0 : Int) (IntKind.wrap IntKind.i64 ((↑(List.length h.2.1) : Int) - (1 : Int)))) =
 true →
 (Cm.hOk h &&
 Cm.within g (0 : Int) (IntKind.wrap IntKind.i64 ((↑(List.length h.2.1) : Int) - (1 : Int)))) =
 true) ∧
 ((Cm.hOk h &&
 Cm.within g (0 : Int) (IntKind.wrap IntKind.i64 ((↑(List.length h.2.1) : Int) - (1 : Int)))) =
 true →
 True) ∧
 ((Cm.hOk h &&
 Cm.within g (0 : Int)
 (IntKind.wrap IntKind.i64 ((↑(List.length h.2.1) : Int) - (1 : Int)))) =
 true →
 (Cm.hOk h &&
 Cm.within g (0 : Int)
 (IntKind.wrap IntKind.i64 ((↑(List.length h.2.1) : Int) - (1 : Int)))) =
 true) ∧
 (Cm.hOk h &&
 Cm.within g (0 : Int)
 (IntKind.wrap IntKind.i64 ((↑(List.length h.2.1) : Int) - (1 : Int))) &&
 Cm.within p (0 : Int) (5 : Int)) =
 Cm.isH h g p ∧
 True) := by kernel_rfl
noncomputable def E_spec_l13Is : Env := En (Go.Am.look [] [(64, [sHOk]), (107, [sWithin])])
theorem vc_spec_l13Is (h : Cm.Ho) (g p : Int) : (FGA E_spec_l13Is Try.f113 sIsH [⟨kH, h⟩,  ⟨kI, g⟩,  ⟨kI, p⟩] no) = (
 Cm.bdH h ∧
 (Cm.hOk h = true → Cm.hOk h = true) ∧
 (Cm.hOk h = true → Cm.hOk h = true) ∧
 (Cm.hOk h = true → Cm.hOk h = true) ∧
 (Cm.hOk h = true → Cm.hOk h = true) ∧
 (Cm.hOk h = true → Cm.hOk h = true) ∧
 (Cm.hOk h = true → True) ∧
 (Cm.hOk h = true → Cm.hOk h = true) ∧
 ((Cm.hOk h &&
 Cm.within g (0 : Int) (IntKind.wrap IntKind.i64 ((↑(List.length h.2.1) : Int) - (1 : Int)))) =
 true →
 (Cm.hOk h &&
 Cm.within g (0 : Int) (IntKind.wrap IntKind.i64 ((↑(List.length h.2.1) : Int) - (1 : Int)))) =
 true) ∧
 ((Cm.hOk h &&
 Cm.within g (0 : Int) (IntKind.wrap IntKind.i64 ((↑(List.length h.2.1) : Int) - (1 : Int)))) =
 true →
 True) ∧
 ((Cm.hOk h &&
 Cm.within g (0 : Int)
 (IntKind.wrap IntKind.i64 ((↑(List.length h.2.1) : Int) - (1 : Int)))) =
 true →
 (Cm.hOk h &&
 Cm.within g (0 : Int)
 (IntKind.wrap IntKind.i64 ((↑(List.length h.2.1) : Int) - (1 : Int)))) =
 true) ∧
 (Cm.hOk h &&
 Cm.within g (0 : Int)
 (IntKind.wrap IntKind.i64 ((↑(List.length h.2.1) : Int) - (1 : Int))) &&
 Cm.within p (0 : Int) (5 : Int)) =
 Cm.isH h g p ∧
 True) := by kernel_rfl
noncomputable def E_spec_l12Copy : Env := En (Go.Am.look [] [(72, [sToM])])
theorem vc_spec_l12Copy (h : Cm.Ho) : (FGA E_spec_l12Copy Try.f88 sToH [⟨kH, h⟩] (one (an_copyHS h))) = (
 Cm.bd h.1 ∧
 ifb (decide ((0 : Int) < (↑(List.length h.2.1) : Int)))
 (((0 : Int) ≤ (0 : Int) ∧ (0 : Int) < (↑(List.length h.2.1) : Int)) ∧
 ((0 : Nat) + List.length (List.getD h.2.1 (0 : Nat) Cm.g0).1) * nat_lit 24 ≤ (140737488355328 : Nat) ∧
 Cm.bd (List.getD h.2.1 (0 : Nat) Cm.g0).2.1 ∧
 ((0 : Nat) + List.length (List.getD h.2.1 (0 : Nat) Cm.g0).2.2) * nat_lit 32 ≤
 (140737488355328 : Nat) ∧
 ((0 : Nat) + (1 : Nat)) * nat_lit 72 ≤ (140737488355328 : Nat) ∧
 ∃ (a' : Nat),
 (a' ≤ List.length h.2.1 ∧ List.length h.2.1 - a' < List.length h.2.1 + (1 : Nat)) ∧
 (([] : Go.Am.Pth) = [] ∧ ([] : Go.Am.Pth) = [] ∧ ([] : Go.Am.Pth) = [] ∧ (↑a' : Int) = IntKind.wrap IntKind.i64 ((0 : Int) + (1 : Int))) ∧
 (h.1 = h.1 ∧ List.take a' h.2.1 = [List.getD h.2.1 (0 : Nat) Cm.g0]) ∧
 (h.1 = h.1 ∧ h.2.1 = h.2.1 ∧ h.2.2 = h.2.2) ∧
 (([] : Go.Am.Pth) = [] ∧ ([] : Go.Am.Pth) = [] ∧ h.2.2 = h.2.2) ∧ Cm.h0.1 = [] ∧ Cm.h0.2.1 = [] ∧ Cm.h0.2.2 = (0 : Int))
 ((h.1, [], h.2.2) = h ∧ True) ∧
 ∀ (a : Nat),
 a ≤ List.length h.2.1 →
 ifb (decide ((↑a : Int) < (↑(List.length h.2.1) : Int)))
 (((0 : Int) ≤ (↑a : Int) ∧ (↑a : Int) < (↑(List.length h.2.1) : Int)) ∧
 ((0 : Nat) + List.length (List.getD h.2.1 a Cm.g0).1) * nat_lit 24 ≤ (140737488355328 : Nat) ∧
 Cm.bd (List.getD h.2.1 a Cm.g0).2.1 ∧
 ((0 : Nat) + List.length (List.getD h.2.1 a Cm.g0).2.2) * nat_lit 32 ≤ (140737488355328 : Nat) ∧
 (List.length (List.take a h.2.1) + (1 : Nat)) * nat_lit 72 ≤ (140737488355328 : Nat) ∧
 ∃ (a' : Nat),
 (a' ≤ List.length h.2.1 ∧ List.length h.2.1 - a' < List.length h.2.1 - a) ∧
 (([] : Go.Am.Pth) = [] ∧
 ([] : Go.Am.Pth) = [] ∧ ([] : Go.Am.Pth) = [] ∧ (↑a' : Int) = IntKind.wrap IntKind.i64 ((↑a : Int) + (1 : Int))) ∧
 (h.1 = h.1 ∧
 List.take a' h.2.1 = List.append (List.take a h.2.1) [List.getD h.2.1 a Cm.g0]) ∧
 (h.1 = h.1 ∧ h.2.1 = h.2.1 ∧ h.2.2 = h.2.2) ∧
 (([] : Go.Am.Pth) = [] ∧ ([] : Go.Am.Pth) = [] ∧ h.2.2 = h.2.2) ∧
 Cm.h0.1 = Cm.h0.1 ∧ Cm.h0.2.1 = Cm.h0.2.1 ∧ Cm.h0.2.2 = Cm.h0.2.2)
 ((h.1, List.take a h.2.1, h.2.2) = h ∧ True)) := by kernel_rfl
noncomputable def E_impl_cloneHost : Env := En (Go.Am.look [] [(78, [sToM])])
theorem vc_impl_cloneHost (h : Cm.Ho) : (FGA E_impl_cloneHost Try.f90 sToH [⟨kH, h⟩] (one (an_copyHI h))) = (
 Cm.bd h.1 ∧
 (∃ (a : Nat),
 a ≤ List.length h.2.1 ∧
 (h.2.1 = h.2.1 ∧
 (↑(List.length h.2.1) : Int) = (↑(List.length h.2.1) : Int) ∧ (↑a : Int) = (0 : Int) ∧ ([] : Go.Am.Pth) = [] ∧ ([] : Go.Am.Pth) = []) ∧
 (h.1 = h.1 ∧ List.take a h.2.1 = []) ∧
 (([] : Go.Am.Pth) = [] ∧ ([] : Go.Am.Pth) = [] ∧ h.2.2 = h.2.2) ∧ Cm.h0.1 = [] ∧ Cm.h0.2.1 = [] ∧ Cm.h0.2.2 = (0 : Int)) ∧
 ∀ (a : Nat),
 a ≤ List.length h.2.1 →
 ifb (decide ((↑a : Int) < (↑(List.length h.2.1) : Int)))
 (((0 : Int) ≤ (↑a : Int) ∧ (↑a : Int) < (↑(List.length h.2.1) : Int)) ∧
 ((0 : Nat) + List.length (List.getD h.2.1 a Cm.g0).1) * nat_lit 24 ≤ (140737488355328 : Nat) ∧
 Cm.bd (List.getD h.2.1 a Cm.g0).2.1 ∧
 ((0 : Nat) + List.length (List.getD h.2.1 a Cm.g0).2.2) * nat_lit 32 ≤ (140737488355328 : Nat) ∧
 (List.length (List.take a h.2.1) + (1 : Nat)) * nat_lit 72 ≤ (140737488355328 : Nat) ∧
 ∃ (a' : Nat),
 (a' ≤ List.length h.2.1 ∧ List.length h.2.1 - a' < List.length h.2.1 - a) ∧
 (h.2.1 = h.2.1 ∧
 (↑(List.length h.2.1) : Int) = (↑(List.length h.2.1) : Int) ∧
 (↑a' : Int) = IntKind.wrap IntKind.i64 ((↑a : Int) + (1 : Int)) ∧ ([] : Go.Am.Pth) = [] ∧ ([] : Go.Am.Pth) = []) ∧
 (h.1 = h.1 ∧
 List.take a' h.2.1 = List.append (List.take a h.2.1) [List.getD h.2.1 a Cm.g0]) ∧
 (([] : Go.Am.Pth) = [] ∧ ([] : Go.Am.Pth) = [] ∧ h.2.2 = h.2.2) ∧
 Cm.h0.1 = Cm.h0.1 ∧ Cm.h0.2.1 = Cm.h0.2.1 ∧ Cm.h0.2.2 = Cm.h0.2.2)
 ((h.1, List.take a h.2.1, h.2.2) = h ∧ True)) := by kernel_rfl
noncomputable def E_spec_l14Forget : Env := En (Go.Am.look [] [])
theorem vc_spec_l14Forget (h : Cm.Ho) (g : Int) : (FGA E_spec_l14Forget Try.f114 sForgetT [⟨kH, h⟩,  ⟨kI, g⟩] no) = (
 ((6 : Int) = (6 : Int) ∧ (0 : Int) ≤ (6 : Int) ∧ (6 : Int) * (↑(nat_lit 32) : Int) ≤ (140737488355328 : Int)) ∧
 ((0 : Int) ≤ g ∧ g < (↑(List.length h.2.1) : Int)) ∧
 (h.1,
 Cm.modAt h.2.1 (Int.toNat g) Cm.g0
 fun (x : List (Bool × Int × Bool) × List (List Int) × List (Bool × Int × Int × Bool)) =>
 (x.1, x.2.1, List.replicate (6 : Nat) Cm.s0),
 h.2.2) =
 Cm.forget h g ∧
 True) := by kernel_rfl
noncomputable def E_spec_HostForget : Env := En (Go.Am.look [] [(88, [sToH]), (113, [sIsH]), (114, [sForgetT])])
theorem vc_spec_HostForget (h : Cm.Ho) (g : Int) : (FGA E_spec_HostForget Try.f60 sHForget [⟨kH, h⟩,  ⟨kI, g⟩] no) = (
 Cm.bdH h ∧
 ifb (!Cm.isH h g (0 : Int)) (([], [], (0 : Int)) = Cm.hForget h g ∧ True)
 (Cm.bdH h ∧ ((0 : Int) ≤ g ∧ g < (↑(List.length h.2.1) : Int)) ∧ Cm.forget h g = Cm.hForget h g ∧ True)) := by kernel_rfl
noncomputable def E_impl_HostForget : Env := En (Go.Am.look [] [(89, [sIsH]), (90, [sToH])])
theorem vc_impl_HostForget (h : Cm.Ho) (g : Int) : (FGA E_impl_HostForget Try.f41 sHForget [⟨kH, h⟩,  ⟨kI, g⟩] no) = (
 Cm.bdH h ∧
 ifb (!Cm.isH h g (0 : Int)) (([], [], (0 : Int)) = Cm.hForget h g ∧ True)
 (Cm.bdH h ∧
 ((6 : Int) = (6 : Int) ∧ (0 : Int) ≤ (6 : Int) ∧ (6 : Int) * (↑(nat_lit 32) : Int) ≤ (140737488355328 : Int)) ∧
 ((0 : Int) ≤ g ∧ g < (↑(List.length h.2.1) : Int)) ∧
 (h.1,
 Cm.modAt h.2.1 (Int.toNat g) Cm.g0
 fun (x : List (Bool × Int × Bool) × List (List Int) × List (Bool × Int × Int × Bool)) =>
 (x.1, x.2.1, List.replicate (6 : Nat) Cm.s0),
 h.2.2) =
 Cm.hForget h g ∧
 True)) := by kernel_rfl
noncomputable def E_laws_FnExactHostSee : Env := En (Go.Am.look [] [(28, [sEqM]), (29, [sMarkM]), (30, [sHeldM]), (54, [sSzH]), (55, [sHSee]), (56, [sToH]), (57, [sHSee]), (58, [sEqH]), (59, [sMarkH])])
theorem vc_laws_FnExactHostSee (h : Cm.Ho) (g : Int) : (FGA E_laws_FnExactHostSee Try.f12 sLawHI [⟨kH, h⟩,  ⟨kI, g⟩] no) = (
 (Cm.wfH h ∧ (0 : Int) ≤ (1048576 : Int) ∧ (1048576 : Int) ≤ (1048576 : Int)) ∧
 ifb (decide (Cm.szT (Cm.totH h) (1048576 : Int) < (0 : Int))) (true = true ∧ True)
 (Cm.bdH h ∧
 Cm.bdH h ∧
 Cm.bdH h ∧
 Cm.bdH h ∧
 Cm.bd (Cm.hSee h g) ∧
 ifb (!Cm.eqM (Cm.hSee h g) (Cm.hSee h g)) (false = true ∧ True)
 (Cm.bdH h ∧
 Cm.bdH h ∧
 ifb (!Cm.eqH h h) (false = true ∧ True)
 (((Cm.bdH h ∧ Cm.totH h ≤ (1048576 : Int)) ∧
 (0 : Int) ≤ (1 : Int) ∧ (1 : Int) ≤ (1048576 : Int)) ∧
 ((!decide ((1 : Int) + Cm.cntH h < (0 : Int))) = true →
 (!decide ((1 : Int) + Cm.cntH h < (0 : Int))) = true) ∧
 ((!decide ((1 : Int) + Cm.cntH h < (0 : Int))) = true →
 (!decide ((1 : Int) + Cm.cntH h < (0 : Int))) = true) ∧
 ((!decide ((1 : Int) + Cm.cntH h < (0 : Int))) = true → Cm.bd (Cm.hSee h g)) ∧
 ((!decide ((1 : Int) + Cm.cntH h < (0 : Int))) = true →
 (!decide ((1 : Int) + Cm.cntH h < (0 : Int))) = true) ∧
 (decide ((1 : Int) + Cm.cntH h < (0 : Int)) = false →
 (!decide ((1 : Int) + Cm.cntH h < (0 : Int))) = true) ∧
 ifb
 (decide ((1 : Int) + Cm.cntH h < (0 : Int)) || !Cm.eqM (Cm.hSee h g) (Cm.hSee h g))
 (false = true ∧ True)
 ((Cm.bd (Cm.hSee h g) ∧ (0 : Int) ≤ (1 : Int) ∧ (1 : Int) ≤ (1099511627776 : Int)) ∧
 (Cm.bd (Cm.markM (Cm.hSee h g) (1 : Int)) ∧
 (0 : Int) ≤ (1 : Int) ∧ (1 : Int) ≤ (1099511627776 : Int)) ∧
 ifb (decide (Cm.heldM (Cm.markM (Cm.hSee h g) (1 : Int)) (1 : Int) < (0 : Int)))
 (false = true ∧ True)
 (ifb
 (Cm.heldM (Cm.markM (Cm.hSee h g) (1 : Int)) (1 : Int) !=
 (1 : Int) + Cm.cnt (Cm.hSee h g))
 (false = true ∧ True)
 (Cm.bdH h ∧
 Cm.bdH h ∧
 Cm.bd (Cm.hSee h g) ∧
 ifb (!Cm.eqM (Cm.hSee h g) (Cm.hSee h g)) (false = true ∧ True)
 ((Cm.bd (Cm.markM (Cm.hSee h g) (1 : Int)) ∧
 (0 : Int) ≤ (1 : Int) ∧ (1 : Int) ≤ (1099511627776 : Int)) ∧
 ifb
 (decide
 (Cm.heldM (Cm.markM (Cm.hSee h g) (1 : Int)) (1 : Int) <
 (0 : Int)))
 (false = true ∧ True)
 (ifb
 (Cm.heldM (Cm.markM (Cm.hSee h g) (1 : Int)) (1 : Int) !=
 (1 : Int) + Cm.cnt (Cm.hSee h g))
 (false = true ∧ True) (true = true ∧ True)))))))))) := by kernel_rfl
noncomputable def E_laws_FnExactHostForget : Env := En (Go.Am.look [] [(41, [sHForget]), (54, [sSzH]), (56, [sToH]), (58, [sEqH]), (59, [sMarkH]), (60, [sHForget]), (61, [sHeldH])])
theorem vc_laws_FnExactHostForget (h : Cm.Ho) (g : Int) : (FGA E_laws_FnExactHostForget Try.f13 sLawHI [⟨kH, h⟩,  ⟨kI, g⟩] no) = (
 (Cm.wfH h ∧ (0 : Int) ≤ (1048576 : Int) ∧ (1048576 : Int) ≤ (1048576 : Int)) ∧
 ifb (decide (Cm.szT (Cm.totH h) (1048576 : Int) < (0 : Int))) (true = true ∧ True)
 (Cm.bdH h ∧
 Cm.bdH h ∧
 Cm.bdH h ∧
 Cm.bdH h ∧
 Cm.bdH (Cm.hForget h g) ∧
 ifb (!Cm.eqH (Cm.hForget h g) (Cm.hForget h g)) (false = true ∧ True)
 (Cm.bdH h ∧
 Cm.bdH h ∧
 ifb (!Cm.eqH h h) (false = true ∧ True)
 (((Cm.bdH h ∧ Cm.totH h ≤ (1048576 : Int)) ∧
 (0 : Int) ≤ (1 : Int) ∧ (1 : Int) ≤ (1048576 : Int)) ∧
 ((!decide ((1 : Int) + Cm.cntH h < (0 : Int))) = true →
 (!decide ((1 : Int) + Cm.cntH h < (0 : Int))) = true) ∧
 ((!decide ((1 : Int) + Cm.cntH h < (0 : Int))) = true →
 (!decide ((1 : Int) + Cm.cntH h < (0 : Int))) = true) ∧
 ((!decide ((1 : Int) + Cm.cntH h < (0 : Int))) = true → Cm.bdH (Cm.hForget h g)) ∧
 ((!decide ((1 : Int) + Cm.cntH h < (0 : Int))) = true →
 (!decide ((1 : Int) + Cm.cntH h < (0 : Int))) = true) ∧
 (decide ((1 : Int) + Cm.cntH h < (0 : Int)) = false →
 (!decide ((1 : Int) + Cm.cntH h < (0 : Int))) = true) ∧
 ifb
 (decide ((1 : Int) + Cm.cntH h < (0 : Int)) ||
 !Cm.eqH (Cm.hForget h g) (Cm.hForget h g))
 (false = true ∧ True)
 (((Cm.bdH (Cm.hForget h g) ∧ Cm.totH (Cm.hForget h g) ≤ (1048576 : Int)) ∧
 (0 : Int) ≤ (1 : Int) ∧ (1 : Int) ≤ (1048576 : Int)) ∧
 (((Cm.bdH
 ((Cm.mkH (Cm.hForget h g) (1 : Int)).1,
 (Cm.mkH (Cm.hForget h g) (1 : Int)).2.1, (Cm.hForget h g).2.2) ∧
 Cm.totH
 ((Cm.mkH (Cm.hForget h g) (1 : Int)).1,
 (Cm.mkH (Cm.hForget h g) (1 : Int)).2.1, (Cm.hForget h g).2.2) ≤
 (1048576 : Int)) ∧
 ((Cm.mkH (Cm.hForget h g) (1 : Int)).1,
 (Cm.mkH (Cm.hForget h g) (1 : Int)).2.1, (Cm.hForget h g).2.2) =
 Cm.mkH
 ((Cm.mkH (Cm.hForget h g) (1 : Int)).1,
 (Cm.mkH (Cm.hForget h g) (1 : Int)).2.1, (Cm.hForget h g).2.2)
 (1 : Int)) ∧
 (0 : Int) ≤ (1 : Int) ∧ (1 : Int) ≤ (1048576 : Int)) ∧
 ifb
 (decide
 ((1 : Int) +
 Cm.cntH
 ((Cm.mkH (Cm.hForget h g) (1 : Int)).1,
 (Cm.mkH (Cm.hForget h g) (1 : Int)).2.1, (Cm.hForget h g).2.2) <
 (0 : Int)))
 (false = true ∧ True)
 (ifb
 ((1 : Int) +
 Cm.cntH
 ((Cm.mkH (Cm.hForget h g) (1 : Int)).1,
 (Cm.mkH (Cm.hForget h g) (1 : Int)).2.1, (Cm.hForget h g).2.2) !=
 (1 : Int) + Cm.cntH (Cm.hForget h g))
 (false = true ∧ True)
 (Cm.bdH h ∧
 Cm.bdH h ∧
 Cm.bdH (Cm.hForget h g) ∧
 ifb (!Cm.eqH (Cm.hForget h g) (Cm.hForget h g)) (false = true ∧ True)
 ((((Cm.bdH
 ((Cm.mkH (Cm.hForget h g) (1 : Int)).1,
 (Cm.mkH (Cm.hForget h g) (1 : Int)).2.1,
 (Cm.hForget h g).2.2) ∧
 Cm.totH
 ((Cm.mkH (Cm.hForget h g) (1 : Int)).1,
 (Cm.mkH (Cm.hForget h g) (1 : Int)).2.1,
 (Cm.hForget h g).2.2) ≤
 (1048576 : Int)) ∧
 ((Cm.mkH (Cm.hForget h g) (1 : Int)).1,
 (Cm.mkH (Cm.hForget h g) (1 : Int)).2.1,
 (Cm.hForget h g).2.2) =
 Cm.mkH
 ((Cm.mkH (Cm.hForget h g) (1 : Int)).1,
 (Cm.mkH (Cm.hForget h g) (1 : Int)).2.1,
 (Cm.hForget h g).2.2)
 (1 : Int)) ∧
 (0 : Int) ≤ (1 : Int) ∧ (1 : Int) ≤ (1048576 : Int)) ∧
 ifb
 (decide
 ((1 : Int) +
 Cm.cntH
 ((Cm.mkH (Cm.hForget h g) (1 : Int)).1,
 (Cm.mkH (Cm.hForget h g) (1 : Int)).2.1,
 (Cm.hForget h g).2.2) <
 (0 : Int)))
 (false = true ∧ True)
 (ifb
 ((1 : Int) +
 Cm.cntH
 ((Cm.mkH (Cm.hForget h g) (1 : Int)).1,
 (Cm.mkH (Cm.hForget h g) (1 : Int)).2.1,
 (Cm.hForget h g).2.2) !=
 (1 : Int) + Cm.cntH (Cm.hForget h g))
 (false = true ∧ True) (true = true ∧ True)))))))))) := by kernel_rfl
end Go.Proofs.Ytcfmelkegjpciaa.T

