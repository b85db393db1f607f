/-
  For each function: what the machine asks of it, written out; no condition.
-/
import Derived.Test.YtcfmelkegjpciaaTab
import Derived.Test.YtcfmelkegjpciaaMo
open Go Go.Am Go.Proofs
namespace Go.Proofs.Ytcfmelkegjpciaa.T
set_option maxHeartbeats 0
set_option maxRecDepth 100000
abbrev En (sig : FuncId → List FSpec) : Env := ⟨Go.Am.look .other tabL, Go.Am.look 0 bytesL, sig⟩
def no : Nat → Ann := fun _ => .none
def one (a : Ann) : Nat → Ann := fun _ => a
def L0 : List (Nat × List FSpec) := []
def L1 : List (Nat × List FSpec) := (98, [sWithin]) :: (107, [sWithin]) :: (15, [(sSz kA)]) :: (26, [sToAct]) :: (68, [sEqA]) :: L0
def L2 : List (Nat × List FSpec) := (104, [sOwn]) :: (67, [sOfGuest]) :: (17, [(sTo kA fun l => l.length ≤ 16777216)]) :: (19, [(sEqL kA Cm.eqA)]) :: L1
def L3 : List (Nat × List FSpec) := (66, [sNext]) :: (18, [sTidy]) :: L2
def L4 : List (Nat × List FSpec) := (16, [sTidy]) :: L3
def E0 : Env := En (Go.Am.look [] L0)
def E1 : Env := En (Go.Am.look [] L1)
def E2 : Env := En (Go.Am.look [] L2)
def E3 : Env := En (Go.Am.look [] L3)
def E4 : Env := En (Go.Am.look [] L4)
def anNext (l : List Cm.A) (i0 g : Int) : Ann := .mk Nat (fun i => ⟨[(0, .vsl kA l), (2, .int .i64 g), (7, .int .i64 (i : Int))], [], []⟩) (fun i => l.length - i)
  (fun i => i ≤ l.length ∧ Cm.next g (l.drop i0.toNat) = Cm.next g (l.drop i)) fun _ _ => .none
def anTidyS (l : List Cm.A) : Ann := .mk Nat (fun i => ⟨[(0, .vsl kA l), (3, .int .i64 (i : Int))], [], []⟩) (fun i => l.length - i)
  (fun i => i ≤ l.length ∧ Cm.tidy l = Cm.tidy (l.drop i)) fun _ _ => .none
def anTo (l : List Cm.A) : Ann := .mk Nat (fun i => ⟨[(0, .vsl kA l), (3, .rf 1000 0 0 []), (4, .int .i64 (i : Int))], [(1000, ⟨0, 0, some ⟨kA, Cm.fill kA.d l i, true⟩, none⟩)], []⟩) (fun i => l.length - i)
  (fun i => i ≤ l.length) fun _ _ => .none
def anEq (l m : List Cm.A) : Ann := .mk Nat (fun i => ⟨[(0, .vsl kA l), (1, .vsl kA m), (5, .int .i64 (i : Int))], [], []⟩) (fun i => l.length - i)
  (fun i => i ≤ l.length ∧ Cm.eqL Cm.eqA l m = Cm.eqL Cm.eqA (l.drop i) (m.drop i)) fun _ _ => .none
def anTidyI2 (l : List Cm.A) (k : Nat) : Ann := .mk Nat (fun j => ⟨[(0, .vsl kA l), (7, .vsl kA l), (8, .int .i64 l.length), (9, .int .i64 (k : Int)), (4, .pb 1004 0 []), (25, .vsl kA (l.drop (k + 1))), (26, .int .i64 (l.drop (k + 1)).length), (27, .int .i64 (j : Int))], [], [(1004, ⟨0, some (opnV kA (l.getD k kA.d)), false⟩)]⟩) (fun j => l.length - j)
  (fun j => j ≤ (l.drop (k + 1)).length ∧ Cm.next (l.getD k kA.d).2.1 (l.drop (k + 1)) = Cm.next (l.getD k kA.d).2.1 ((l.drop (k + 1)).drop j)) fun _ _ => .none
def anTidyI (l : List Cm.A) : Ann := .mk Nat (fun i => ⟨[(0, .vsl kA l), (7, .vsl kA l), (8, .int .i64 l.length), (9, .int .i64 (i : Int))], [], []⟩) (fun i => l.length - i)
  (fun i => i ≤ l.length ∧ Cm.tidy l = Cm.tidy (l.drop i)) fun k _ => anTidyI2 l k
def sLaw : FSpec := sp1 [ps kAs] kAs (fun l => l.length ≤ 9223372036854775807) fun _ => ⟨[], .vw .bool, [⟨.bool, true⟩]⟩
theorem vc98 (n lo hi : Int) : (FGA E0 Try.f98 sWithin [⟨kI, n⟩, ⟨kI, lo⟩, ⟨kI, hi⟩] no) = (
 (decide (n ≥ lo) = true → decide (n ≥ lo) = true) ∧
 (decide (n ≥ lo) = true → decide (n ≥ lo) = true) ∧
 (decide (n ≥ lo) = true → decide (n ≥ lo) = true) ∧ (decide (n ≥ lo) && decide (n ≤ hi)) = Cm.within n lo hi ∧ True) := by kernel_rfl
theorem vc107 (n lo hi : Int) : (FGA E0 Try.f107 sWithin [⟨kI, n⟩, ⟨kI, lo⟩, ⟨kI, hi⟩] no) = (
 (decide (n ≥ lo) = true → decide (n ≥ lo) = true) ∧
 (decide (n ≥ lo) = true → decide (n ≥ lo) = true) ∧
 (decide (n ≥ lo) = true → decide (n ≥ lo) = true) ∧ (decide (n ≥ lo) && decide (n ≤ hi)) = Cm.within n lo hi ∧ True) := by kernel_rfl
theorem vc15 (l : List Cm.A) (n : Int) : (FGA E0 Try.f15 (sSz kA) [⟨kAs, l⟩, ⟨kI, n⟩] no) = (
 (decide (IntKind.wrap IntKind.i64 (n - (↑(List.length l) : Int)) < (0 : Int)) = true → (-1 : Int) = Cm.szL l n ∧ True) ∧
 (decide (IntKind.wrap IntKind.i64 (n - (↑(List.length l) : Int)) < (0 : Int)) = false →
 IntKind.wrap IntKind.i64 (n - (↑(List.length l) : Int)) = Cm.szL l n ∧ True)) := by kernel_rfl
theorem vc26 (a : Cm.A) : (FGA E0 Try.f26 sToAct [⟨kA, a⟩] no) = (
 (a.1, a.2.1, a.2.2.1, a.2.2.2.1, a.2.2.2.2) = a ∧ True) := by kernel_rfl
theorem vc104 (a : Cm.A) : (FGA E1 Try.f104 sOwn [⟨kA, a⟩] no) = (
 True ∧ Cm.within a.1 (1 : Int) (5 : Int) = Cm.own a ∧ True) := by kernel_rfl
theorem vc67 (a : Cm.A) (g : Int) : (FGA E1 Try.f67 sOfGuest [⟨kA, a⟩, ⟨kI, g⟩] no) = (
 True ∧
 (Cm.within a.1 (1 : Int) (5 : Int) = true → Cm.within a.1 (1 : Int) (5 : Int) = true) ∧
 (Cm.within a.1 (1 : Int) (5 : Int) = true → Cm.within a.1 (1 : Int) (5 : Int) = true) ∧
 (Cm.within a.1 (1 : Int) (5 : Int) = true → Cm.within a.1 (1 : Int) (5 : Int) = true) ∧
 (Cm.within a.1 (1 : Int) (5 : Int) = true → Cm.within a.1 (1 : Int) (5 : Int) = true) ∧
 (Cm.within a.1 (1 : Int) (5 : Int) && a.2.1 == g) = Cm.ofGuest a g ∧ True) := by kernel_rfl
theorem vc68 (a b : Cm.A) : (FGA E0 Try.f68 sEqA [⟨kA, a⟩, ⟨kA, b⟩] no) = (
 ((a.1 != b.1) = true → false = Cm.eqA a b ∧ True) ∧
 ((a.1 != b.1) = false →
 ((a.2.1 != b.2.1) = true → false = Cm.eqA a b ∧ True) ∧
 ((a.2.1 != b.2.1) = false →
 ((a.2.2.1 != b.2.2.1) = true → false = Cm.eqA a b ∧ True) ∧
 ((a.2.2.1 != b.2.2.1) = false →
 ((a.2.2.2.1 != b.2.2.2.1) = true → false = Cm.eqA a b ∧ True) ∧
 ((a.2.2.2.1 != b.2.2.2.1) = false →
 ((a.2.2.2.2 != b.2.2.2.2) = true → false = Cm.eqA a b ∧ True) ∧
 ((a.2.2.2.2 != b.2.2.2.2) = false → true = Cm.eqA a b ∧ True)))))) := by kernel_rfl
theorem vc66 (l : List Cm.A) (i g : Int) : (FGA E2 Try.f66 sNext [⟨kAs, l⟩, ⟨kI, i⟩, ⟨kI, g⟩] (one (anNext l i g))) = (
 (∃ a,
 (a ≤ List.length l ∧ Cm.next g (List.drop (Int.toNat i) l) = Cm.next g (List.drop a l)) ∧
 (l = l ∧ g = g ∧ (↑a : Int) = i) ∧ True ∧ True) ∧
 ∀ (a : Nat),
 a ≤ List.length l ∧ Cm.next g (List.drop (Int.toNat i) l) = Cm.next g (List.drop a l) →
 (decide ((↑a : Int) < (↑(List.length l) : Int)) = true →
 ((0 : Int) ≤ (↑a : Int) ∧ (↑a : Int) < (↑(List.length l) : Int)) ∧
 (((List.getD l (Int.toNat (↑a : Int)) ((0 : Int), (0 : Int), (0 : Int), (0 : Int), (0 : Int))).2.1 == g) =
 true →
 ((List.getD l (Int.toNat (↑a : Int)) ((0 : Int), (0 : Int), (0 : Int), (0 : Int), (0 : Int))).2.1 ==
 g) =
 true) ∧
 (((List.getD l (Int.toNat (↑a : Int)) ((0 : Int), (0 : Int), (0 : Int), (0 : Int), (0 : Int))).2.1 == g) =
 true →
 ((List.getD l (Int.toNat (↑a : Int)) ((0 : Int), (0 : Int), (0 : Int), (0 : Int), (0 : Int))).2.1 ==
 g) =
 true) ∧
 (((List.getD l (Int.toNat (↑a : Int)) ((0 : Int), (0 : Int), (0 : Int), (0 : Int), (0 : Int))).2.1 ==
 g) =
 true →
 (0 : Int) ≤ (↑a : Int) ∧ (↑a : Int) < (↑(List.length l) : Int)) ∧
 (((List.getD l (Int.toNat (↑a : Int)) ((0 : Int), (0 : Int), (0 : Int), (0 : Int), (0 : Int))).2.1 ==
 g) =
 true →
 ((List.getD l (Int.toNat (↑a : Int))
 ((0 : Int), (0 : Int), (0 : Int), (0 : Int), (0 : Int))).2.1 ==
 g) =
 true) ∧
 (((List.getD l (Int.toNat (↑a : Int))
 ((0 : Int), (0 : Int), (0 : Int), (0 : Int), (0 : Int))).2.1 ==
 g) =
 true →
 ((List.getD l (Int.toNat (↑a : Int))
 ((0 : Int), (0 : Int), (0 : Int), (0 : Int), (0 : Int))).2.1 ==
 g) =
 true) ∧
 (((List.getD l (Int.toNat (↑a : Int))
 ((0 : Int), (0 : Int), (0 : Int), (0 : Int), (0 : Int))).2.1 ==
 g) =
 true →
 True) ∧
 (((List.getD l (Int.toNat (↑a : Int))
 ((0 : Int), (0 : Int), (0 : Int), (0 : Int), (0 : Int))).2.1 ==
 g) =
 true →
 ((List.getD l (Int.toNat (↑a : Int))
 ((0 : Int), (0 : Int), (0 : Int), (0 : Int), (0 : Int))).2.1 ==
 g) =
 true) ∧
 (((List.getD l (Int.toNat (↑a : Int))
 ((0 : Int), (0 : Int), (0 : Int), (0 : Int), (0 : Int))).2.1 ==
 g &&
 Cm.own
 ((List.getD l (Int.toNat (↑a : Int))
 ((0 : Int), (0 : Int), (0 : Int), (0 : Int), (0 : Int))).1,
 (List.getD l (Int.toNat (↑a : Int))
 ((0 : Int), (0 : Int), (0 : Int), (0 : Int), (0 : Int))).2.1,
 (List.getD l (Int.toNat (↑a : Int))
 ((0 : Int), (0 : Int), (0 : Int), (0 : Int), (0 : Int))).2.2.1,
 (List.getD l (Int.toNat (↑a : Int))
 ((0 : Int), (0 : Int), (0 : Int), (0 : Int), (0 : Int))).2.2.2.1,
 (List.getD l (Int.toNat (↑a : Int))
 ((0 : Int), (0 : Int), (0 : Int), (0 : Int), (0 : Int))).2.2.2.2)) =
 true →
 ((0 : Int) ≤ (↑a : Int) ∧ (↑a : Int) < (↑(List.length l) : Int)) ∧
 ((List.getD l (Int.toNat (↑a : Int))
 ((0 : Int), (0 : Int), (0 : Int), (0 : Int), (0 : Int))).1 ==
 (5 : Int)) =
 Cm.next g (List.drop (Int.toNat i) l) ∧
 True) ∧
 (((List.getD l (Int.toNat (↑a : Int))
 ((0 : Int), (0 : Int), (0 : Int), (0 : Int), (0 : Int))).2.1 ==
 g &&
 Cm.own
 ((List.getD l (Int.toNat (↑a : Int))
 ((0 : Int), (0 : Int), (0 : Int), (0 : Int), (0 : Int))).1,
 (List.getD l (Int.toNat (↑a : Int))
 ((0 : Int), (0 : Int), (0 : Int), (0 : Int), (0 : Int))).2.1,
 (List.getD l (Int.toNat (↑a : Int))
 ((0 : Int), (0 : Int), (0 : Int), (0 : Int), (0 : Int))).2.2.1,
 (List.getD l (Int.toNat (↑a : Int))
 ((0 : Int), (0 : Int), (0 : Int), (0 : Int), (0 : Int))).2.2.2.1,
 (List.getD l (Int.toNat (↑a : Int))
 ((0 : Int), (0 : Int), (0 : Int), (0 : Int), (0 : Int))).2.2.2.2)) =
 false →
 ∃ a',
 ((a' ≤ List.length l ∧
 Cm.next g (List.drop (Int.toNat i) l) = Cm.next g (List.drop a' l)) ∧
 List.length l - a' < List.length l - a) ∧
 (l = l ∧ g = g ∧ (↑a' : Int) = IntKind.wrap IntKind.i64 ((↑a : Int) + (1 : Int))) ∧
 True ∧ True)) ∧
 (decide ((↑a : Int) < (↑(List.length l) : Int)) = false → true = Cm.next g (List.drop (Int.toNat i) l) ∧ True)) := by kernel_rfl
theorem vc16 (l : List Cm.A) : (FGA E3 Try.f16 sTidy [⟨kAs, l⟩] (one (anTidyS l))) = (
 (∃ a, (a ≤ List.length l ∧ Cm.tidy l = Cm.tidy (List.drop a l)) ∧ (l = l ∧ (↑a : Int) = (0 : Int)) ∧ True ∧ True) ∧
 ∀ (a : Nat),
 a ≤ List.length l ∧ Cm.tidy l = Cm.tidy (List.drop a l) →
 (decide ((↑a : Int) < (↑(List.length l) : Int)) = true →
 ((0 : Int) ≤ (↑a : Int) ∧ (↑a : Int) < (↑(List.length l) : Int)) ∧
 (((List.getD l (Int.toNat (↑a : Int)) ((0 : Int), (0 : Int), (0 : Int), (0 : Int), (0 : Int))).1 ==
 (2 : Int)) =
 true →
 ((List.getD l (Int.toNat (↑a : Int)) ((0 : Int), (0 : Int), (0 : Int), (0 : Int), (0 : Int))).1 ==
 (2 : Int)) =
 true) ∧
 (((List.getD l (Int.toNat (↑a : Int)) ((0 : Int), (0 : Int), (0 : Int), (0 : Int), (0 : Int))).1 ==
 (2 : Int)) =
 true →
 ((List.getD l (Int.toNat (↑a : Int)) ((0 : Int), (0 : Int), (0 : Int), (0 : Int), (0 : Int))).1 ==
 (2 : Int)) =
 true) ∧
 (((List.getD l (Int.toNat (↑a : Int)) ((0 : Int), (0 : Int), (0 : Int), (0 : Int), (0 : Int))).1 ==
 (2 : Int)) =
 true →
 (0 : Int) ≤ (↑a : Int) ∧ (↑a : Int) < (↑(List.length l) : Int)) ∧
 (((List.getD l (Int.toNat (↑a : Int)) ((0 : Int), (0 : Int), (0 : Int), (0 : Int), (0 : Int))).1 ==
 (2 : Int)) =
 true →
 ((List.getD l (Int.toNat (↑a : Int)) ((0 : Int), (0 : Int), (0 : Int), (0 : Int), (0 : Int))).1 ==
 (2 : Int)) =
 true) ∧
 (((List.getD l (Int.toNat (↑a : Int)) ((0 : Int), (0 : Int), (0 : Int), (0 : Int), (0 : Int))).1 ==
 (2 : Int)) =
 true →
 ((List.getD l (Int.toNat (↑a : Int))
 ((0 : Int), (0 : Int), (0 : Int), (0 : Int), (0 : Int))).1 ==
 (2 : Int)) =
 true) ∧
 (((List.getD l (Int.toNat (↑a : Int))
 ((0 : Int), (0 : Int), (0 : Int), (0 : Int), (0 : Int))).1 ==
 (2 : Int)) =
 true →
 ((List.getD l (Int.toNat (↑a : Int))
 ((0 : Int), (0 : Int), (0 : Int), (0 : Int), (0 : Int))).1 ==
 (2 : Int)) =
 true) ∧
 (((List.getD l (Int.toNat (↑a : Int))
 ((0 : Int), (0 : Int), (0 : Int), (0 : Int), (0 : Int))).1 ==
 (2 : Int)) =
 true →
 ((List.getD l (Int.toNat (↑a : Int))
 ((0 : Int), (0 : Int), (0 : Int), (0 : Int), (0 : Int))).1 ==
 (2 : Int)) =
 true) ∧
 (((List.getD l (Int.toNat (↑a : Int))
 ((0 : Int), (0 : Int), (0 : Int), (0 : Int), (0 : Int))).1 ==
 (2 : Int) &&
 decide
 ((List.getD l (Int.toNat (↑a : Int))
 ((0 : Int), (0 : Int), (0 : Int), (0 : Int), (0 : Int))).2.2.1 <
 (2 : Int))) =
 true →
 ((List.getD l (Int.toNat (↑a : Int))
 ((0 : Int), (0 : Int), (0 : Int), (0 : Int), (0 : Int))).1 ==
 (2 : Int) &&
 decide
 ((List.getD l (Int.toNat (↑a : Int))
 ((0 : Int), (0 : Int), (0 : Int), (0 : Int), (0 : Int))).2.2.1 <
 (2 : Int))) =
 true) ∧
 (((List.getD l (Int.toNat (↑a : Int))
 ((0 : Int), (0 : Int), (0 : Int), (0 : Int), (0 : Int))).1 ==
 (2 : Int) &&
 decide
 ((List.getD l (Int.toNat (↑a : Int))
 ((0 : Int), (0 : Int), (0 : Int), (0 : Int), (0 : Int))).2.2.1 <
 (2 : Int))) =
 true →
 ((List.getD l (Int.toNat (↑a : Int))
 ((0 : Int), (0 : Int), (0 : Int), (0 : Int), (0 : Int))).1 ==
 (2 : Int) &&
 decide
 ((List.getD l (Int.toNat (↑a : Int))
 ((0 : Int), (0 : Int), (0 : Int), (0 : Int), (0 : Int))).2.2.1 <
 (2 : Int))) =
 true) ∧
 (((List.getD l (Int.toNat (↑a : Int))
 ((0 : Int), (0 : Int), (0 : Int), (0 : Int), (0 : Int))).1 ==
 (2 : Int) &&
 decide
 ((List.getD l (Int.toNat (↑a : Int))
 ((0 : Int), (0 : Int), (0 : Int), (0 : Int), (0 : Int))).2.2.1 <
 (2 : Int))) =
 true →
 ((List.getD l (Int.toNat (↑a : Int))
 ((0 : Int), (0 : Int), (0 : Int), (0 : Int), (0 : Int))).1 ==
 (2 : Int) &&
 decide
 ((List.getD l (Int.toNat (↑a : Int))
 ((0 : Int), (0 : Int), (0 : Int), (0 : Int), (0 : Int))).2.2.1 <
 (2 : Int))) =
 true) ∧
 (((List.getD l (Int.toNat (↑a : Int))
 ((0 : Int), (0 : Int), (0 : Int), (0 : Int), (0 : Int))).1 ==
 (2 : Int) &&
 decide
 ((List.getD l (Int.toNat (↑a : Int))
 ((0 : Int), (0 : Int), (0 : Int), (0 : Int), (0 : Int))).2.2.1 <
 (2 : Int))) =
 true →
 (0 : Int) ≤ (↑a : Int) ∧ (↑a : Int) < (↑(List.length l) : Int)) ∧
 (((List.getD l (Int.toNat (↑a : Int))
 ((0 : Int), (0 : Int), (0 : Int), (0 : Int), (0 : Int))).1 ==
 (2 : Int) &&
 decide
 ((List.getD l (Int.toNat (↑a : Int))
 ((0 : Int), (0 : Int), (0 : Int), (0 : Int), (0 : Int))).2.2.1 <
 (2 : Int))) =
 true →
 ((List.getD l (Int.toNat (↑a : Int))
 ((0 : Int), (0 : Int), (0 : Int), (0 : Int), (0 : Int))).1 ==
 (2 : Int) &&
 decide
 ((List.getD l (Int.toNat (↑a : Int))
 ((0 : Int), (0 : Int), (0 : Int), (0 : Int), (0 : Int))).2.2.1 <
 (2 : Int))) =
 true) ∧
 (((List.getD l (Int.toNat (↑a : Int))
 ((0 : Int), (0 : Int), (0 : Int), (0 : Int), (0 : Int))).1 ==
 (2 : Int) &&
 decide
 ((List.getD l (Int.toNat (↑a : Int))
 ((0 : Int), (0 : Int), (0 : Int), (0 : Int), (0 : Int))).2.2.1 <
 (2 : Int))) =
 true →
 ((List.getD l (Int.toNat (↑a : Int))
 ((0 : Int), (0 : Int), (0 : Int), (0 : Int), (0 : Int))).1 ==
 (2 : Int) &&
 decide
 ((List.getD l (Int.toNat (↑a : Int))
 ((0 : Int), (0 : Int), (0 : Int), (0 : Int), (0 : Int))).2.2.1 <
 (2 : Int))) =
 true) ∧
 (((List.getD l (Int.toNat (↑a : Int))
 ((0 : Int), (0 : Int), (0 : Int), (0 : Int), (0 : Int))).1 ==
 (2 : Int) &&
 decide
 ((List.getD l (Int.toNat (↑a : Int))
 ((0 : Int), (0 : Int), (0 : Int), (0 : Int),
 (0 : Int))).2.2.1 <
 (2 : Int))) =
 true →
 ((List.getD l (Int.toNat (↑a : Int))
 ((0 : Int), (0 : Int), (0 : Int), (0 : Int), (0 : Int))).1 ==
 (2 : Int) &&
 decide
 ((List.getD l (Int.toNat (↑a : Int))
 ((0 : Int), (0 : Int), (0 : Int), (0 : Int),
 (0 : Int))).2.2.1 <
 (2 : Int))) =
 true) ∧
 (((List.getD l (Int.toNat (↑a : Int))
 ((0 : Int), (0 : Int), (0 : Int), (0 : Int), (0 : Int))).1 ==
 (2 : Int) &&
 decide
 ((List.getD l (Int.toNat (↑a : Int))
 ((0 : Int), (0 : Int), (0 : Int), (0 : Int),
 (0 : Int))).2.2.1 <
 (2 : Int))) =
 true →
 ((List.getD l (Int.toNat (↑a : Int))
 ((0 : Int), (0 : Int), (0 : Int), (0 : Int), (0 : Int))).1 ==
 (2 : Int) &&
 decide
 ((List.getD l (Int.toNat (↑a : Int))
 ((0 : Int), (0 : Int), (0 : Int), (0 : Int),
 (0 : Int))).2.2.1 <
 (2 : Int))) =
 true) ∧
 (((List.getD l (Int.toNat (↑a : Int))
 ((0 : Int), (0 : Int), (0 : Int), (0 : Int), (0 : Int))).1 ==
 (2 : Int) &&
 decide
 ((List.getD l (Int.toNat (↑a : Int))
 ((0 : Int), (0 : Int), (0 : Int), (0 : Int),
 (0 : Int))).2.2.1 <
 (2 : Int))) =
 true →
 ((List.getD l (Int.toNat (↑a : Int))
 ((0 : Int), (0 : Int), (0 : Int), (0 : Int), (0 : Int))).1 ==
 (2 : Int) &&
 decide
 ((List.getD l (Int.toNat (↑a : Int))
 ((0 : Int), (0 : Int), (0 : Int), (0 : Int),
 (0 : Int))).2.2.1 <
 (2 : Int))) =
 true) ∧
 (((List.getD l (Int.toNat (↑a : Int))
 ((0 : Int), (0 : Int), (0 : Int), (0 : Int), (0 : Int))).1 ==
 (2 : Int) &&
 decide
 ((List.getD l (Int.toNat (↑a : Int))
 ((0 : Int), (0 : Int), (0 : Int), (0 : Int),
 (0 : Int))).2.2.1 <
 (2 : Int))) =
 true →
 ((0 : K.T kI) ≤ IntKind.wrap IntKind.i64 ((↑a : Int) + (1 : Int)) ∧
 IntKind.wrap IntKind.i64 ((↑a : Int) + (1 : Int)) ≤
 (↑(List.length l) : Int)) ∧
 List.length l ≤ (16777216 : Nat)) ∧
 (((List.getD l (Int.toNat (↑a : Int))
 ((0 : Int), (0 : Int), (0 : Int), (0 : Int),
 (0 : Int))).1 ==
 (2 : Int) &&
 decide
 ((List.getD l (Int.toNat (↑a : Int))
 ((0 : Int), (0 : Int), (0 : Int), (0 : Int),
 (0 : Int))).2.2.1 <
 (2 : Int))) =
 true →
 ((List.getD l (Int.toNat (↑a : Int))
 ((0 : Int), (0 : Int), (0 : Int), (0 : Int),
 (0 : Int))).1 ==
 (2 : Int) &&
 decide
 ((List.getD l (Int.toNat (↑a : Int))
 ((0 : Int), (0 : Int), (0 : Int), (0 : Int),
 (0 : Int))).2.2.1 <
 (2 : Int))) =
 true) ∧
 (((List.getD l (Int.toNat (↑a : Int))
 ((0 : Int), (0 : Int), (0 : Int), (0 : Int),
 (0 : Int))).1 ==
 (2 : Int) &&
 decide
 ((List.getD l (Int.toNat (↑a : Int))
 ((0 : Int), (0 : Int), (0 : Int), (0 : Int),
 (0 : Int))).2.2.1 <
 (2 : Int))) =
 true →
 ((List.getD l (Int.toNat (↑a : Int))
 ((0 : Int), (0 : Int), (0 : Int), (0 : Int),
 (0 : Int))).1 ==
 (2 : Int) &&
 decide
 ((List.getD l (Int.toNat (↑a : Int))
 ((0 : Int), (0 : Int), (0 : Int), (0 : Int),
 (0 : Int))).2.2.1 <
 (2 : Int))) =
 true) ∧
 (((List.getD l (Int.toNat (↑a : Int))
 ((0 : Int), (0 : Int), (0 : Int), (0 : Int),
 (0 : Int))).1 ==
 (2 : Int) &&
 decide
 ((List.getD l (Int.toNat (↑a : Int))
 ((0 : Int), (0 : Int), (0 : Int), (0 : Int),
 (0 : Int))).2.2.1 <
 (2 : Int)) &&
 !Cm.next
 (List.getD l (Int.toNat (↑a : Int))
 ((0 : Int), (0 : Int), (0 : Int), (0 : Int),
 (0 : Int))).2.1
 (List.drop
 (Int.toNat
 (IntKind.wrap IntKind.i64 ((↑a : Int) + (1 : Int))))
 l)) =
 true →
 false = Cm.tidy l ∧ True) ∧
 (((List.getD l (Int.toNat (↑a : Int))
 ((0 : Int), (0 : Int), (0 : Int), (0 : Int),
 (0 : Int))).1 ==
 (2 : Int) &&
 decide
 ((List.getD l (Int.toNat (↑a : Int))
 ((0 : Int), (0 : Int), (0 : Int), (0 : Int),
 (0 : Int))).2.2.1 <
 (2 : Int)) &&
 !Cm.next
 (List.getD l (Int.toNat (↑a : Int))
 ((0 : Int), (0 : Int), (0 : Int), (0 : Int),
 (0 : Int))).2.1
 (List.drop
 (Int.toNat
 (IntKind.wrap IntKind.i64 ((↑a : Int) + (1 : Int))))
 l)) =
 false →
 ∃ a',
 ((a' ≤ List.length l ∧ Cm.tidy l = Cm.tidy (List.drop a' l)) ∧
 List.length l - a' < List.length l - a) ∧
 (l = l ∧
 (↑a' : Int) =
 IntKind.wrap IntKind.i64 ((↑a : Int) + (1 : Int))) ∧
 True ∧ True)) ∧
 (decide ((↑a : Int) < (↑(List.length l) : Int)) = false → true = Cm.tidy l ∧ True)) := by kernel_rfl
theorem vc17 (l : List Cm.A) : (FGA E1 Try.f17 (sTo kA fun l => l.length ≤ 16777216) [⟨kAs, l⟩] (one (anTo l))) = (
 ((↑(List.length l) : Int) = (↑(List.length l) : Int) ∧
 (0 : Int) ≤ (↑(List.length l) : Int) ∧ (↑(List.length l) : Int) * (↑(nat_lit 40) : Int) ≤ (140737488355328 : Int)) ∧
 (∃ a,
 a ≤ List.length l ∧
 (l = l ∧ ([] : Go.Am.Pth) = [] ∧ (↑a : Int) = (0 : Int)) ∧
 Cm.fill ((0 : Int), (0 : Int), (0 : Int), (0 : Int), (0 : Int)) l a =
 List.replicate (Int.toNat (↑(List.length l) : Int))
 ((0 : Int), (0 : Int), (0 : Int), (0 : Int), (0 : Int)) ∧
 True) ∧
 ∀ (a : Nat),
 a ≤ List.length l →
 (decide ((↑a : Int) < (↑(List.length l) : Int)) = true →
 ((0 : Int) ≤ (↑a : Int) ∧ (↑a : Int) < (↑(List.length l) : Int)) ∧
 True ∧
 ((0 : Int) ≤ (↑a : Int) ∧
 (↑a : Int) <
 (↑(List.length (Cm.fill ((0 : Int), (0 : Int), (0 : Int), (0 : Int), (0 : Int)) l a)) : Int)) ∧
 ∃ a',
 (a' ≤ List.length l ∧ List.length l - a' < List.length l - a) ∧
 (l = l ∧ ([] : Go.Am.Pth) = [] ∧ (↑a' : Int) = IntKind.wrap IntKind.i64 ((↑a : Int) + (1 : Int))) ∧
 Cm.fill ((0 : Int), (0 : Int), (0 : Int), (0 : Int), (0 : Int)) l a' =
 List.set (Cm.fill ((0 : Int), (0 : Int), (0 : Int), (0 : Int), (0 : Int)) l a)
 (Int.toNat (↑a : Int))
 ((List.getD l (Int.toNat (↑a : Int))
 ((0 : Int), (0 : Int), (0 : Int), (0 : Int), (0 : Int))).1,
 (List.getD l (Int.toNat (↑a : Int))
 ((0 : Int), (0 : Int), (0 : Int), (0 : Int), (0 : Int))).2.1,
 (List.getD l (Int.toNat (↑a : Int))
 ((0 : Int), (0 : Int), (0 : Int), (0 : Int), (0 : Int))).2.2.1,
 (List.getD l (Int.toNat (↑a : Int))
 ((0 : Int), (0 : Int), (0 : Int), (0 : Int), (0 : Int))).2.2.2.1,
 (List.getD l (Int.toNat (↑a : Int))
 ((0 : Int), (0 : Int), (0 : Int), (0 : Int), (0 : Int))).2.2.2.2) ∧
 True) ∧
 (decide ((↑a : Int) < (↑(List.length l) : Int)) = false →
 Cm.fill ((0 : Int), (0 : Int), (0 : Int), (0 : Int), (0 : Int)) l a = l ∧ True)) := by kernel_rfl
theorem vc19 (l m : List Cm.A) : (FGA E1 Try.f19 (sEqL kA Cm.eqA) [⟨kAs, l⟩, ⟨kAs, m⟩] (one (anEq l m))) = (
 (((↑(List.length l) : Int) != (↑(List.length m) : Int)) = true → false = Cm.eqL Cm.eqA l m ∧ True) ∧
 (((↑(List.length l) : Int) != (↑(List.length m) : Int)) = false →
 (∃ a,
 (a ≤ List.length l ∧ Cm.eqL Cm.eqA l m = Cm.eqL Cm.eqA (List.drop a l) (List.drop a m)) ∧
 (l = l ∧ m = m ∧ (↑a : Int) = (0 : Int)) ∧ True ∧ True) ∧
 ∀ (a : Nat),
 a ≤ List.length l ∧ Cm.eqL Cm.eqA l m = Cm.eqL Cm.eqA (List.drop a l) (List.drop a m) →
 (decide ((↑a : Int) < (↑(List.length l) : Int)) = true →
 ((0 : Int) ≤ (↑a : Int) ∧ (↑a : Int) < (↑(List.length l) : Int)) ∧
 ((0 : Int) ≤ (↑a : Int) ∧ (↑a : Int) < (↑(List.length m) : Int)) ∧
 True ∧
 ((!Cm.eqA
 ((List.getD l (Int.toNat (↑a : Int))
 ((0 : Int), (0 : Int), (0 : Int), (0 : Int), (0 : Int))).1,
 (List.getD l (Int.toNat (↑a : Int))
 ((0 : Int), (0 : Int), (0 : Int), (0 : Int), (0 : Int))).2.1,
 (List.getD l (Int.toNat (↑a : Int))
 ((0 : Int), (0 : Int), (0 : Int), (0 : Int), (0 : Int))).2.2.1,
 (List.getD l (Int.toNat (↑a : Int))
 ((0 : Int), (0 : Int), (0 : Int), (0 : Int), (0 : Int))).2.2.2.1,
 (List.getD l (Int.toNat (↑a : Int))
 ((0 : Int), (0 : Int), (0 : Int), (0 : Int), (0 : Int))).2.2.2.2)
 ((List.getD m (Int.toNat (↑a : Int))
 ((0 : Int), (0 : Int), (0 : Int), (0 : Int), (0 : Int))).1,
 (List.getD m (Int.toNat (↑a : Int))
 ((0 : Int), (0 : Int), (0 : Int), (0 : Int), (0 : Int))).2.1,
 (List.getD m (Int.toNat (↑a : Int))
 ((0 : Int), (0 : Int), (0 : Int), (0 : Int), (0 : Int))).2.2.1,
 (List.getD m (Int.toNat (↑a : Int))
 ((0 : Int), (0 : Int), (0 : Int), (0 : Int), (0 : Int))).2.2.2.1,
 (List.getD m (Int.toNat (↑a : Int))
 ((0 : Int), (0 : Int), (0 : Int), (0 : Int), (0 : Int))).2.2.2.2)) =
 true →
 false = Cm.eqL Cm.eqA l m ∧ True) ∧
 ((!Cm.eqA
 ((List.getD l (Int.toNat (↑a : Int))
 ((0 : Int), (0 : Int), (0 : Int), (0 : Int), (0 : Int))).1,
 (List.getD l (Int.toNat (↑a : Int))
 ((0 : Int), (0 : Int), (0 : Int), (0 : Int), (0 : Int))).2.1,
 (List.getD l (Int.toNat (↑a : Int))
 ((0 : Int), (0 : Int), (0 : Int), (0 : Int), (0 : Int))).2.2.1,
 (List.getD l (Int.toNat (↑a : Int))
 ((0 : Int), (0 : Int), (0 : Int), (0 : Int), (0 : Int))).2.2.2.1,
 (List.getD l (Int.toNat (↑a : Int))
 ((0 : Int), (0 : Int), (0 : Int), (0 : Int), (0 : Int))).2.2.2.2)
 ((List.getD m (Int.toNat (↑a : Int))
 ((0 : Int), (0 : Int), (0 : Int), (0 : Int), (0 : Int))).1,
 (List.getD m (Int.toNat (↑a : Int))
 ((0 : Int), (0 : Int), (0 : Int), (0 : Int), (0 : Int))).2.1,
 (List.getD m (Int.toNat (↑a : Int))
 ((0 : Int), (0 : Int), (0 : Int), (0 : Int), (0 : Int))).2.2.1,
 (List.getD m (Int.toNat (↑a : Int))
 ((0 : Int), (0 : Int), (0 : Int), (0 : Int), (0 : Int))).2.2.2.1,
 (List.getD m (Int.toNat (↑a : Int))
 ((0 : Int), (0 : Int), (0 : Int), (0 : Int), (0 : Int))).2.2.2.2)) =
 false →
 ∃ a',
 ((a' ≤ List.length l ∧ Cm.eqL Cm.eqA l m = Cm.eqL Cm.eqA (List.drop a' l) (List.drop a' m)) ∧
 List.length l - a' < List.length l - a) ∧
 (l = l ∧ m = m ∧ (↑a' : Int) = IntKind.wrap IntKind.i64 ((↑a : Int) + (1 : Int))) ∧
 True ∧ True)) ∧
 (decide ((↑a : Int) < (↑(List.length l) : Int)) = false → true = Cm.eqL Cm.eqA l m ∧ True))) := by kernel_rfl
theorem vc18 (l : List Cm.A) : (FGA E2 Try.f18 sTidy [⟨kAs, l⟩] (one (anTidyI l))) = (
 (∃ a,
 (a ≤ List.length l ∧ Cm.tidy l = Cm.tidy (List.drop a l)) ∧
 (l = l ∧ l = l ∧ (↑(List.length l) : Int) = (↑(List.length l) : Int) ∧ (↑a : Int) = (0 : Int)) ∧ True ∧ True) ∧
 ∀ (a : Nat),
 a ≤ List.length l ∧ Cm.tidy l = Cm.tidy (List.drop a l) →
 (decide ((↑a : Int) < (↑(List.length l) : Int)) = true →
 ((0 : Int) ≤ (↑a : Int) ∧ (↑a : Int) < (↑(List.length l) : Int)) ∧
 ((!(List.getD l (Int.toNat (↑a : Int)) ((0 : Int), (0 : Int), (0 : Int), (0 : Int), (0 : Int))).1 !=
 (2 : Int)) =
 true →
 (!(List.getD l (Int.toNat (↑a : Int)) ((0 : Int), (0 : Int), (0 : Int), (0 : Int), (0 : Int))).1 !=
 (2 : Int)) =
 true) ∧
 ((!(List.getD l (Int.toNat (↑a : Int)) ((0 : Int), (0 : Int), (0 : Int), (0 : Int), (0 : Int))).1 !=
 (2 : Int)) =
 true →
 (!(List.getD l (Int.toNat (↑a : Int)) ((0 : Int), (0 : Int), (0 : Int), (0 : Int), (0 : Int))).1 !=
 (2 : Int)) =
 true) ∧
 (((List.getD l (Int.toNat (↑a : Int)) ((0 : Int), (0 : Int), (0 : Int), (0 : Int), (0 : Int))).1 !=
 (2 : Int)) =
 false →
 (!(List.getD l (Int.toNat (↑a : Int)) ((0 : Int), (0 : Int), (0 : Int), (0 : Int), (0 : Int))).1 !=
 (2 : Int)) =
 true) ∧
 (((List.getD l (Int.toNat (↑a : Int)) ((0 : Int), (0 : Int), (0 : Int), (0 : Int), (0 : Int))).1 !=
 (2 : Int) ||
 decide
 ((List.getD l (Int.toNat (↑a : Int))
 ((0 : Int), (0 : Int), (0 : Int), (0 : Int), (0 : Int))).2.2.1 ≥
 (2 : Int))) =
 true →
 ∃ a',
 ((a' ≤ List.length l ∧ Cm.tidy l = Cm.tidy (List.drop a' l)) ∧
 List.length l - a' < List.length l - a) ∧
 (l = l ∧
 l = l ∧
 (↑(List.length l) : Int) = (↑(List.length l) : Int) ∧
 (↑a' : Int) = IntKind.wrap IntKind.i64 ((↑a : Int) + (1 : Int))) ∧
 True ∧ True) ∧
 (((List.getD l (Int.toNat (↑a : Int)) ((0 : Int), (0 : Int), (0 : Int), (0 : Int), (0 : Int))).1 !=
 (2 : Int) ||
 decide
 ((List.getD l (Int.toNat (↑a : Int))
 ((0 : Int), (0 : Int), (0 : Int), (0 : Int), (0 : Int))).2.2.1 ≥
 (2 : Int))) =
 false →
 ((0 : Int) ≤ IntKind.wrap IntKind.i64 ((↑a : Int) + (1 : Int)) ∧
 IntKind.wrap IntKind.i64 ((↑a : Int) + (1 : Int)) ≤ (↑(List.length l) : Int) ∧
 (↑(List.length l) : Int) ≤ (↑(List.length l) : Int)) ∧
 (∃ a_1,
 (a_1 ≤ List.length (List.drop (a + (1 : Nat)) l) ∧
 Cm.next (List.getD l a ((0 : Int), (0 : Int), (0 : Int), (0 : Int), (0 : Int))).2.1
 (List.drop (a + (1 : Nat)) l) =
 Cm.next (List.getD l a ((0 : Int), (0 : Int), (0 : Int), (0 : Int), (0 : Int))).2.1
 (List.drop a_1 (List.drop (a + (1 : Nat)) l))) ∧
 (l = l ∧
 l = l ∧
 (↑(List.length l) : Int) = (↑(List.length l) : Int) ∧
 (↑a : Int) = (↑a : Int) ∧
 ([] : Go.Am.Pth) = [] ∧
 List.drop (a + (1 : Nat)) l =
 List.drop (Int.toNat (IntKind.wrap IntKind.i64 ((↑a : Int) + (1 : Int))))
 (List.take (Int.toNat (↑(List.length l) : Int)) l) ∧
 (↑(List.length (List.drop (a + (1 : Nat)) l)) : Int) =
 (↑(List.length
 (List.drop
 (Int.toNat (IntKind.wrap IntKind.i64 ((↑a : Int) + (1 : Int))))
 (List.take (Int.toNat (↑(List.length l) : Int)) l))) :
 Int) ∧
 (↑a_1 : Int) = (0 : Int)) ∧
 True ∧
 (List.getD l a ((0 : Int), (0 : Int), (0 : Int), (0 : Int), (0 : Int))).1 =
 (List.getD l (Int.toNat (↑a : Int))
 ((0 : Int), (0 : Int), (0 : Int), (0 : Int), (0 : Int))).1 ∧
 (List.getD l a ((0 : Int), (0 : Int), (0 : Int), (0 : Int), (0 : Int))).2.1 =
 (List.getD l (Int.toNat (↑a : Int))
 ((0 : Int), (0 : Int), (0 : Int), (0 : Int), (0 : Int))).2.1 ∧
 (List.getD l a ((0 : Int), (0 : Int), (0 : Int), (0 : Int), (0 : Int))).2.2.1 =
 (List.getD l (Int.toNat (↑a : Int))
 ((0 : Int), (0 : Int), (0 : Int), (0 : Int), (0 : Int))).2.2.1 ∧
 (List.getD l a
 ((0 : Int), (0 : Int), (0 : Int), (0 : Int), (0 : Int))).2.2.2.1 =
 (List.getD l (Int.toNat (↑a : Int))
 ((0 : Int), (0 : Int), (0 : Int), (0 : Int), (0 : Int))).2.2.2.1 ∧
 (List.getD l a
 ((0 : Int), (0 : Int), (0 : Int), (0 : Int), (0 : Int))).2.2.2.2 =
 (List.getD l (Int.toNat (↑a : Int))
 ((0 : Int), (0 : Int), (0 : Int), (0 : Int),
 (0 : Int))).2.2.2.2) ∧
 ∀ (a_1 : Nat),
 a_1 ≤ List.length (List.drop (a + (1 : Nat)) l) ∧
 Cm.next (List.getD l a ((0 : Int), (0 : Int), (0 : Int), (0 : Int), (0 : Int))).2.1
 (List.drop (a + (1 : Nat)) l) =
 Cm.next (List.getD l a ((0 : Int), (0 : Int), (0 : Int), (0 : Int), (0 : Int))).2.1
 (List.drop a_1 (List.drop (a + (1 : Nat)) l)) →
 (decide ((↑a_1 : Int) < (↑(List.length (List.drop (a + (1 : Nat)) l)) : Int)) = true →
 ((0 : Int) ≤ (↑a_1 : Int) ∧
 (↑a_1 : Int) < (↑(List.length (List.drop (a + (1 : Nat)) l)) : Int)) ∧
 True ∧
 ((!Cm.ofGuest
 ((List.getD (List.drop (a + (1 : Nat)) l) (Int.toNat (↑a_1 : Int))
 ((0 : Int), (0 : Int), (0 : Int), (0 : Int), (0 : Int))).1,
 (List.getD (List.drop (a + (1 : Nat)) l) (Int.toNat (↑a_1 : Int))
 ((0 : Int), (0 : Int), (0 : Int), (0 : Int), (0 : Int))).2.1,
 (List.getD (List.drop (a + (1 : Nat)) l) (Int.toNat (↑a_1 : Int))
 ((0 : Int), (0 : Int), (0 : Int), (0 : Int),
 (0 : Int))).2.2.1,
 (List.getD (List.drop (a + (1 : Nat)) l) (Int.toNat (↑a_1 : Int))
 ((0 : Int), (0 : Int), (0 : Int), (0 : Int),
 (0 : Int))).2.2.2.1,
 (List.getD (List.drop (a + (1 : Nat)) l) (Int.toNat (↑a_1 : Int))
 ((0 : Int), (0 : Int), (0 : Int), (0 : Int),
 (0 : Int))).2.2.2.2)
 (List.getD l a
 ((0 : Int), (0 : Int), (0 : Int), (0 : Int), (0 : Int))).2.1) =
 true →
 ∃ a',
 ((a' ≤ List.length (List.drop (a + (1 : Nat)) l) ∧
 Cm.next
 (List.getD l a
 ((0 : Int), (0 : Int), (0 : Int), (0 : Int), (0 : Int))).2.1
 (List.drop (a + (1 : Nat)) l) =
 Cm.next
 (List.getD l a
 ((0 : Int), (0 : Int), (0 : Int), (0 : Int), (0 : Int))).2.1
 (List.drop a' (List.drop (a + (1 : Nat)) l))) ∧
 List.length l - a' < List.length l - a_1) ∧
 (l = l ∧
 l = l ∧
 (↑(List.length l) : Int) = (↑(List.length l) : Int) ∧
 (↑a : Int) = (↑a : Int) ∧
 ([] : Go.Am.Pth) = [] ∧
 List.drop (a + (1 : Nat)) l = List.drop (a + (1 : Nat)) l ∧
 (↑(List.length (List.drop (a + (1 : Nat)) l)) : Int) =
 (↑(List.length (List.drop (a + (1 : Nat)) l)) : Int) ∧
 (↑a' : Int) =
 IntKind.wrap IntKind.i64 ((↑a_1 : Int) + (1 : Int))) ∧
 True ∧
 (List.getD l a
 ((0 : Int), (0 : Int), (0 : Int), (0 : Int), (0 : Int))).1 =
 (List.getD l a
 ((0 : Int), (0 : Int), (0 : Int), (0 : Int), (0 : Int))).1 ∧
 (List.getD l a
 ((0 : Int), (0 : Int), (0 : Int), (0 : Int),
 (0 : Int))).2.1 =
 (List.getD l a
 ((0 : Int), (0 : Int), (0 : Int), (0 : Int),
 (0 : Int))).2.1 ∧
 (List.getD l a
 ((0 : Int), (0 : Int), (0 : Int), (0 : Int),
 (0 : Int))).2.2.1 =
 (List.getD l a
 ((0 : Int), (0 : Int), (0 : Int), (0 : Int),
 (0 : Int))).2.2.1 ∧
 (List.getD l a
 ((0 : Int), (0 : Int), (0 : Int), (0 : Int),
 (0 : Int))).2.2.2.1 =
 (List.getD l a
 ((0 : Int), (0 : Int), (0 : Int), (0 : Int),
 (0 : Int))).2.2.2.1 ∧
 (List.getD l a
 ((0 : Int), (0 : Int), (0 : Int), (0 : Int),
 (0 : Int))).2.2.2.2 =
 (List.getD l a
 ((0 : Int), (0 : Int), (0 : Int), (0 : Int),
 (0 : Int))).2.2.2.2) ∧
 ((!Cm.ofGuest
 ((List.getD (List.drop (a + (1 : Nat)) l) (Int.toNat (↑a_1 : Int))
 ((0 : Int), (0 : Int), (0 : Int), (0 : Int), (0 : Int))).1,
 (List.getD (List.drop (a + (1 : Nat)) l) (Int.toNat (↑a_1 : Int))
 ((0 : Int), (0 : Int), (0 : Int), (0 : Int), (0 : Int))).2.1,
 (List.getD (List.drop (a + (1 : Nat)) l) (Int.toNat (↑a_1 : Int))
 ((0 : Int), (0 : Int), (0 : Int), (0 : Int),
 (0 : Int))).2.2.1,
 (List.getD (List.drop (a + (1 : Nat)) l) (Int.toNat (↑a_1 : Int))
 ((0 : Int), (0 : Int), (0 : Int), (0 : Int),
 (0 : Int))).2.2.2.1,
 (List.getD (List.drop (a + (1 : Nat)) l) (Int.toNat (↑a_1 : Int))
 ((0 : Int), (0 : Int), (0 : Int), (0 : Int),
 (0 : Int))).2.2.2.2)
 (List.getD l a
 ((0 : Int), (0 : Int), (0 : Int), (0 : Int), (0 : Int))).2.1) =
 false →
 (((List.getD (List.drop (a + (1 : Nat)) l) (Int.toNat (↑a_1 : Int))
 ((0 : Int), (0 : Int), (0 : Int), (0 : Int), (0 : Int))).1 !=
 (5 : Int)) =
 true →
 false = Cm.tidy l ∧ True) ∧
 (((List.getD (List.drop (a + (1 : Nat)) l) (Int.toNat (↑a_1 : Int))
 ((0 : Int), (0 : Int), (0 : Int), (0 : Int), (0 : Int))).1 !=
 (5 : Int)) =
 false →
 ∃ a',
 ((a' ≤ List.length l ∧ Cm.tidy l = Cm.tidy (List.drop a' l)) ∧
 List.length l - a' < List.length l - a) ∧
 (l = l ∧
 l = l ∧
 (↑(List.length l) : Int) = (↑(List.length l) : Int) ∧
 (↑a' : Int) =
 IntKind.wrap IntKind.i64 ((↑a : Int) + (1 : Int))) ∧
 True ∧ True))) ∧
 (decide ((↑a_1 : Int) < (↑(List.length (List.drop (a + (1 : Nat)) l)) : Int)) = false →
 ∃ a',
 ((a' ≤ List.length l ∧ Cm.tidy l = Cm.tidy (List.drop a' l)) ∧
 List.length l - a' < List.length l - a) ∧
 (l = l ∧
 l = l ∧
 (↑(List.length l) : Int) = (↑(List.length l) : Int) ∧
 (↑a' : Int) = IntKind.wrap IntKind.i64 ((↑a : Int) + (1 : Int))) ∧
 True ∧ True))) ∧
 (decide ((↑a : Int) < (↑(List.length l) : Int)) = false → true = Cm.tidy l ∧ True)) := by kernel_rfl
theorem vc3 (l : List Cm.A) : (FGA E4 Try.f3 sLaw [⟨kAs, l⟩] no) = (
 True ∧
 (decide (Cm.szL l (1048576 : Int) < (0 : Int)) = true → true = true ∧ True) ∧
 (decide (Cm.szL l (1048576 : Int) < (0 : Int)) = false →
 List.length l ≤ (16777216 : Nat) ∧
 List.length l ≤ (16777216 : Nat) ∧
 List.length l ≤ (16777216 : Nat) ∧
 List.length l ≤ (16777216 : Nat) ∧
 ((!Cm.tidy l == Cm.tidy l) = true → false = true ∧ True) ∧
 ((!Cm.tidy l == Cm.tidy l) = false →
 List.length l ≤ (16777216 : Nat) ∧
 List.length l ≤ (16777216 : Nat) ∧
 ((!Cm.eqL Cm.eqA l l) = true → false = true ∧ True) ∧
 ((!Cm.eqL Cm.eqA l l) = false → true = true ∧ True)))) := by kernel_rfl
end Go.Proofs.Ytcfmelkegjpciaa.T

