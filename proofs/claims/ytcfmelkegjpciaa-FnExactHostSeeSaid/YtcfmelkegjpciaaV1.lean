/-
  For each function: what the machine asks of it, written out; no condition.
-/
import Derived.Test.YtcfmelkegjpciaaTab
set_option linter.all false
open Go Go.Am Go.Proofs
namespace Go.Proofs.Ytcfmelkegjpciaa.T
set_option maxHeartbeats 0
set_option maxRecDepth 100000
def L0 : List (Nat × List FSpec) := []
def L1 : List (Nat × List FSpec) := (98, [sWithin]) :: (107, [sWithin]) :: (15, [(sSz kA)]) :: (26, [sToAct]) :: (68, [sEqA]) :: L0
def L2 : List (Nat × List FSpec) := (104, [sOwn]) :: (67, [sOfGuest]) :: (17, [(sTo kA fun l => l.length ≤ 16777216)]) :: (19, [(sEqL kA Cm.eqA)]) :: L1
def L3 : List (Nat × List FSpec) := (66, [sNext]) :: (18, [sTidy]) :: L2
def L4 : List (Nat × List FSpec) := (16, [sTidy]) :: L3
def E1 : Env := En (Go.Am.look [] L1)
def E2 : Env := En (Go.Am.look [] L2)
def E3 : Env := En (Go.Am.look [] L3)
def E4 : Env := En (Go.Am.look [] L4)
def anNext (l : List Cm.A) (i0 g : Int) : Ann := .mk Nat (fun i => ⟨[(0, .vsl kA l), (2, .int .i64 g), (7, .int .i64 (i : Int))], [], []⟩) (fun i => l.length - i)
  (fun i => i ≤ l.length ∧ Cm.next g (l.drop i0.toNat) = Cm.next g (l.drop i)) fun _ _ => .none
def anTidyS (l : List Cm.A) : Ann := .mk Nat (fun i => ⟨[(0, .vsl kA l), (3, .int .i64 (i : Int))], [], []⟩) (fun i => l.length - i)
  (fun i => i ≤ l.length ∧ Cm.tidy l = Cm.tidy (l.drop i)) fun _ _ => .none
def anTo (l : List Cm.A) : Ann := .mk Nat (fun i => ⟨[(0, .vsl kA l), (3, .rf 1000 0 0 []), (4, .int .i64 (i : Int))], [(1000, ⟨0, 0, some ⟨kA, Cm.fill kA.d l i, true⟩, none⟩)], []⟩) (fun i => l.length - i)
  (fun i => i ≤ l.length) fun _ _ => .none
def anEq (l m : List Cm.A) : Ann := .mk Nat (fun i => ⟨[(0, .vsl kA l), (1, .vsl kA m), (5, .int .i64 (i : Int))], [], []⟩) (fun i => l.length - i)
  (fun i => i ≤ l.length ∧ Cm.eqL Cm.eqA l m = Cm.eqL Cm.eqA (l.drop i) (m.drop i)) fun _ _ => .none
def anTidyI2 (l : List Cm.A) (k : Nat) : Ann := .mk Nat (fun j => ⟨[(0, .vsl kA l), (7, .vsl kA l), (8, .int .i64 l.length), (9, .int .i64 (k : Int)), (4, .pb 1004 0 []), (25, .vsl kA (l.drop (k + 1))), (26, .int .i64 (l.drop (k + 1)).length), (27, .int .i64 (j : Int))], [], [(1004, ⟨0, some (opnV kA (l.getD k kA.d)), false⟩)]⟩) (fun j => l.length - j)
  (fun j => j ≤ (l.drop (k + 1)).length ∧ Cm.next (l.getD k kA.d).2.1 (l.drop (k + 1)) = Cm.next (l.getD k kA.d).2.1 ((l.drop (k + 1)).drop j)) fun _ _ => .none
def anTidyI (l : List Cm.A) : Ann := .mk Nat (fun i => ⟨[(0, .vsl kA l), (7, .vsl kA l), (8, .int .i64 l.length), (9, .int .i64 (i : Int))], [], []⟩) (fun i => l.length - i)
  (fun i => i ≤ l.length ∧ Cm.tidy l = Cm.tidy (l.drop i)) fun k _ => anTidyI2 l k
def sLaw : FSpec := sp1 [ps kAs] kAs (fun l => l.length ≤ 9223372036854775807) fun _ => ⟨[], .vw .bool, [⟨.bool, true⟩]⟩
theorem vc98 (n lo hi : Int) : (FGA E0 Try.f98 sWithin [⟨kI, n⟩, ⟨kI, lo⟩, ⟨kI, hi⟩] no) = (
 (decide (n ≥ lo) = true → decide (n ≥ lo) = true) ∧
 (decide (n ≥ lo) = true → decide (n ≥ lo) = true) ∧
 (decide (n ≥ lo) = true → decide (n ≥ lo) = true) ∧ (decide (n ≥ lo) && decide (n ≤ hi)) = Cm.within n lo hi ∧ True) := by kernel_rfl
theorem vc107 (n lo hi : Int) : (FGA E0 Try.f107 sWithin [⟨kI, n⟩, ⟨kI, lo⟩, ⟨kI, hi⟩] no) = (
 (decide (n ≥ lo) = true → decide (n ≥ lo) = true) ∧
 (decide (n ≥ lo) = true → decide (n ≥ lo) = true) ∧
 (decide (n ≥ lo) = true → decide (n ≥ lo) = true) ∧ (decide (n ≥ lo) && decide (n ≤ hi)) = Cm.within n lo hi ∧ True) := by kernel_rfl
theorem vc15 (l : List Cm.A) (n : Int) : (FGA E0 Try.f15 (sSz kA) [⟨kAs, l⟩, ⟨kI, n⟩] no) = (
 ifb (decide (IntKind.wrap IntKind.i64 (n - (↑(List.length l) : Int)) < (0 : Int))) ((-1 : Int) = Cm.szL l n ∧ True)
 (IntKind.wrap IntKind.i64 (n - (↑(List.length l) : Int)) = Cm.szL l n ∧ True)) := by kernel_rfl
theorem vc26 (a : Cm.A) : (FGA E0 Try.f26 sToAct [⟨kA, a⟩] no) = (
 a = a ∧ True) := by kernel_rfl
theorem vc104 (a : Cm.A) : (FGA E1 Try.f104 sOwn [⟨kA, a⟩] no) = (
 True ∧ Cm.within a.1 (1 : Int) (5 : Int) = Cm.own a ∧ True) := by kernel_rfl
theorem vc67 (a : Cm.A) (g : Int) : (FGA E1 Try.f67 sOfGuest [⟨kA, a⟩, ⟨kI, g⟩] no) = (
 True ∧
 (Cm.within a.1 (1 : Int) (5 : Int) = true → Cm.within a.1 (1 : Int) (5 : Int) = true) ∧
 (Cm.within a.1 (1 : Int) (5 : Int) = true → Cm.within a.1 (1 : Int) (5 : Int) = true) ∧
 (Cm.within a.1 (1 : Int) (5 : Int) = true → Cm.within a.1 (1 : Int) (5 : Int) = true) ∧
 (Cm.within a.1 (1 : Int) (5 : Int) = true → Cm.within a.1 (1 : Int) (5 : Int) = true) ∧
 (Cm.within a.1 (1 : Int) (5 : Int) && a.2.1 == g) = Cm.ofGuest a g ∧ True) := by kernel_rfl
theorem vc68 (a b : Cm.A) : (FGA E0 Try.f68 sEqA [⟨kA, a⟩, ⟨kA, b⟩] no) = (
 ifb (a.1 != b.1) (false = Cm.eqA a b ∧ True)
 (ifb (a.2.1 != b.2.1) (false = Cm.eqA a b ∧ True)
 (ifb (a.2.2.1 != b.2.2.1) (false = Cm.eqA a b ∧ True)
 (ifb (a.2.2.2.1 != b.2.2.2.1) (false = Cm.eqA a b ∧ True)
 (ifb (a.2.2.2.2 != b.2.2.2.2) (false = Cm.eqA a b ∧ True) (true = Cm.eqA a b ∧ True)))))) := by kernel_rfl
theorem vc66 (l : List Cm.A) (i g : Int) : (FGA E2 Try.f66 sNext [⟨kAs, l⟩, ⟨kI, i⟩, ⟨kI, g⟩] (one (anNext l i g))) = (
 (∃ (a : Nat),
 (a ≤ List.length l ∧ Cm.next g (List.drop (Int.toNat i) l) = Cm.next g (List.drop a l)) ∧
 (l = l ∧ g = g ∧ (↑a : Int) = i) ∧ True ∧ True) ∧
 ∀ (a : Nat),
 a ≤ List.length l ∧ Cm.next g (List.drop (Int.toNat i) l) = Cm.next g (List.drop a l) →
 ifb (decide ((↑a : Int) < (↑(List.length l) : Int)))
 (((0 : Int) ≤ (↑a : Int) ∧ (↑a : Int) < (↑(List.length l) : Int)) ∧
 (((List.getD l a Cm.a0).2.1 == g) = true →
 ((List.getD l a Cm.a0).2.1 == g) = true) ∧
 (((List.getD l a Cm.a0).2.1 == g) = true →
 ((List.getD l a Cm.a0).2.1 == g) = true) ∧
 (((List.getD l a Cm.a0).2.1 == g) = true →
 (0 : Int) ≤ (↑a : Int) ∧ (↑a : Int) < (↑(List.length l) : Int)) ∧
 (((List.getD l a Cm.a0).2.1 == g) = true →
 ((List.getD l a Cm.a0).2.1 == g) = true) ∧
 (((List.getD l a Cm.a0).2.1 == g) = true →
 ((List.getD l a Cm.a0).2.1 == g) = true) ∧
 (((List.getD l a Cm.a0).2.1 == g) = true → True) ∧
 (((List.getD l a Cm.a0).2.1 == g) = true →
 ((List.getD l a Cm.a0).2.1 == g) = true) ∧
 ifb
 ((List.getD l a Cm.a0).2.1 == g &&
 Cm.own (List.getD l a Cm.a0))
 (((0 : Int) ≤ (↑a : Int) ∧ (↑a : Int) < (↑(List.length l) : Int)) ∧
 ((List.getD l a Cm.a0).1 == (5 : Int)) =
 Cm.next g (List.drop (Int.toNat i) l) ∧
 True)
 (∃ (a' : Nat),
 ((a' ≤ List.length l ∧ Cm.next g (List.drop (Int.toNat i) l) = Cm.next g (List.drop a' l)) ∧
 List.length l - a' < List.length l - a) ∧
 (l = l ∧ g = g ∧ (↑a' : Int) = IntKind.wrap IntKind.i64 ((↑a : Int) + (1 : Int))) ∧
 True ∧ True))
 (true = Cm.next g (List.drop (Int.toNat i) l) ∧ True)) := by kernel_rfl
theorem vc16 (l : List Cm.A) : (FGA E3 Try.f16 sTidy [⟨kAs, l⟩] (one (anTidyS l))) = (
 (∃ (a : Nat),
 (a ≤ List.length l ∧ Cm.tidy l = Cm.tidy (List.drop a l)) ∧ (l = l ∧ (↑a : Int) = (0 : Int)) ∧ True ∧ True) ∧
 ∀ (a : Nat),
 a ≤ List.length l ∧ Cm.tidy l = Cm.tidy (List.drop a l) →
 ifb (decide ((↑a : Int) < (↑(List.length l) : Int)))
 (((0 : Int) ≤ (↑a : Int) ∧ (↑a : Int) < (↑(List.length l) : Int)) ∧
 (((List.getD l a Cm.a0).1 == (2 : Int)) = true →
 ((List.getD l a Cm.a0).1 == (2 : Int)) = true) ∧
 (((List.getD l a Cm.a0).1 == (2 : Int)) = true →
 ((List.getD l a Cm.a0).1 == (2 : Int)) = true) ∧
 (((List.getD l a Cm.a0).1 == (2 : Int)) = true →
 (0 : Int) ≤ (↑a : Int) ∧ (↑a : Int) < (↑(List.length l) : Int)) ∧
 (((List.getD l a Cm.a0).1 == (2 : Int)) = true →
 ((List.getD l a Cm.a0).1 == (2 : Int)) = true) ∧
 (((List.getD l a Cm.a0).1 == (2 : Int)) = true →
 ((List.getD l a Cm.a0).1 == (2 : Int)) = true) ∧
 (((List.getD l a Cm.a0).1 == (2 : Int)) = true →
 ((List.getD l a Cm.a0).1 == (2 : Int)) =
 true) ∧
 (((List.getD l a Cm.a0).1 == (2 : Int)) = true →
 ((List.getD l a Cm.a0).1 == (2 : Int)) =
 true) ∧
 (((List.getD l a Cm.a0).1 == (2 : Int) &&
 decide
 ((List.getD l a Cm.a0).2.2.1 <
 (2 : Int))) =
 true →
 ((List.getD l a Cm.a0).1 == (2 : Int) &&
 decide
 ((List.getD l a Cm.a0).2.2.1 <
 (2 : Int))) =
 true) ∧
 (((List.getD l a Cm.a0).1 == (2 : Int) &&
 decide
 ((List.getD l a Cm.a0).2.2.1 <
 (2 : Int))) =
 true →
 ((List.getD l a Cm.a0).1 == (2 : Int) &&
 decide
 ((List.getD l a Cm.a0).2.2.1 <
 (2 : Int))) =
 true) ∧
 (((List.getD l a Cm.a0).1 == (2 : Int) &&
 decide
 ((List.getD l a Cm.a0).2.2.1 <
 (2 : Int))) =
 true →
 ((List.getD l a Cm.a0).1 ==
 (2 : Int) &&
 decide
 ((List.getD l a Cm.a0).2.2.1 <
 (2 : Int))) =
 true) ∧
 (((List.getD l a Cm.a0).1 ==
 (2 : Int) &&
 decide
 ((List.getD l a Cm.a0).2.2.1 <
 (2 : Int))) =
 true →
 (0 : Int) ≤ (↑a : Int) ∧ (↑a : Int) < (↑(List.length l) : Int)) ∧
 (((List.getD l a Cm.a0).1 ==
 (2 : Int) &&
 decide
 ((List.getD l a
 Cm.a0).2.2.1 <
 (2 : Int))) =
 true →
 ((List.getD l a Cm.a0).1 ==
 (2 : Int) &&
 decide
 ((List.getD l a
 Cm.a0).2.2.1 <
 (2 : Int))) =
 true) ∧
 (((List.getD l a Cm.a0).1 ==
 (2 : Int) &&
 decide
 ((List.getD l a
 Cm.a0).2.2.1 <
 (2 : Int))) =
 true →
 ((List.getD l a Cm.a0).1 ==
 (2 : Int) &&
 decide
 ((List.getD l a
 Cm.a0).2.2.1 <
 (2 : Int))) =
 true) ∧
 (((List.getD l a Cm.a0).1 ==
 (2 : Int) &&
 decide
 ((List.getD l a
 Cm.a0).2.2.1 <
 (2 : Int))) =
 true →
 ((List.getD l a Cm.a0).1 ==
 (2 : Int) &&
 decide
 ((List.getD l a
 Cm.a0).2.2.1 <
 (2 : Int))) =
 true) ∧
 (((List.getD l a Cm.a0).1 ==
 (2 : Int) &&
 decide
 ((List.getD l a
 Cm.a0).2.2.1 <
 (2 : Int))) =
 true →
 ((List.getD l a Cm.a0).1 ==
 (2 : Int) &&
 decide
 ((List.getD l a
 Cm.a0).2.2.1 <
 (2 : Int))) =
 true) ∧
 (((List.getD l a Cm.a0).1 ==
 (2 : Int) &&
 decide
 ((List.getD l a
 Cm.a0).2.2.1 <
 (2 : Int))) =
 true →
 ((List.getD l a
 Cm.a0).1 ==
 (2 : Int) &&
 decide
 ((List.getD l a
 Cm.a0).2.2.1 <
 (2 : Int))) =
 true) ∧
 (((List.getD l a Cm.a0).1 ==
 (2 : Int) &&
 decide
 ((List.getD l a
 Cm.a0).2.2.1 <
 (2 : Int))) =
 true →
 ((0 : Int) ≤ IntKind.wrap IntKind.i64 ((↑a : Int) + (1 : Int)) ∧
 IntKind.wrap IntKind.i64 ((↑a : Int) + (1 : Int)) ≤
 (↑(List.length l) : Int)) ∧
 List.length l ≤ (16777216 : Nat)) ∧
 (((List.getD l a
 Cm.a0).1 ==
 (2 : Int) &&
 decide
 ((List.getD l a
 Cm.a0).2.2.1 <
 (2 : Int))) =
 true →
 ((List.getD l a
 Cm.a0).1 ==
 (2 : Int) &&
 decide
 ((List.getD l a
 Cm.a0).2.2.1 <
 (2 : Int))) =
 true) ∧
 (((List.getD l a
 Cm.a0).1 ==
 (2 : Int) &&
 decide
 ((List.getD l a
 Cm.a0).2.2.1 <
 (2 : Int))) =
 true →
 ((List.getD l a
 Cm.a0).1 ==
 (2 : Int) &&
 decide
 ((List.getD l a
 Cm.a0).2.2.1 <
 (2 : Int))) =
 true) ∧
 ifb
 ((List.getD l a
 Cm.a0).1 ==
 (2 : Int) &&
 decide
 ((List.getD l a
 Cm.a0).2.2.1 <
 (2 : Int)) &&
 !Cm.next
 (List.getD l a
 Cm.a0).2.1
 (List.drop
 (Int.toNat
 (IntKind.wrap IntKind.i64 ((↑a : Int) + (1 : Int))))
 l))
 (false = Cm.tidy l ∧ True)
 (∃ (a' : Nat),
 ((a' ≤ List.length l ∧ Cm.tidy l = Cm.tidy (List.drop a' l)) ∧
 List.length l - a' < List.length l - a) ∧
 (l = l ∧
 (↑a' : Int) =
 IntKind.wrap IntKind.i64 ((↑a : Int) + (1 : Int))) ∧
 True ∧ True))
 (true = Cm.tidy l ∧ True)) := by kernel_rfl
theorem vc17 (l : List Cm.A) : (FGA E1 Try.f17 (sTo kA fun l => l.length ≤ 16777216) [⟨kAs, l⟩] (one (anTo l))) = (
 ((↑(List.length l) : Int) = (↑(List.length l) : Int) ∧
 (0 : Int) ≤ (↑(List.length l) : Int) ∧ (↑(List.length l) : Int) * (↑(nat_lit 40) : Int) ≤ (140737488355328 : Int)) ∧
 (∃ (a : Nat),
 a ≤ List.length l ∧
 (l = l ∧ ([] : Go.Am.Pth) = [] ∧ (↑a : Int) = (0 : Int)) ∧
 Cm.fill Cm.a0 l a =
 List.replicate (List.length l) Cm.a0 ∧
 True) ∧
 ∀ (a : Nat),
 a ≤ List.length l →
 ifb (decide ((↑a : Int) < (↑(List.length l) : Int)))
 (((0 : Int) ≤ (↑a : Int) ∧ (↑a : Int) < (↑(List.length l) : Int)) ∧
 True ∧
 ((0 : Int) ≤ (↑a : Int) ∧
 (↑a : Int) <
 (↑(List.length (Cm.fill Cm.a0 l a)) : Int)) ∧
 ∃ (a' : Nat),
 (a' ≤ List.length l ∧ List.length l - a' < List.length l - a) ∧
 (l = l ∧ ([] : Go.Am.Pth) = [] ∧ (↑a' : Int) = IntKind.wrap IntKind.i64 ((↑a : Int) + (1 : Int))) ∧
 Cm.fill Cm.a0 l a' =
 List.set (Cm.fill Cm.a0 l a) a
 (List.getD l a Cm.a0) ∧
 True)
 (Cm.fill Cm.a0 l a = l ∧ True)) := by kernel_rfl
theorem vc19 (l m : List Cm.A) : (FGA E1 Try.f19 (sEqL kA Cm.eqA) [⟨kAs, l⟩, ⟨kAs, m⟩] (one (anEq l m))) = (
 ifb ((↑(List.length l) : Int) != (↑(List.length m) : Int)) (false = Cm.eqL Cm.eqA l m ∧ True)
 ((∃ (a : Nat),
 (a ≤ List.length l ∧ Cm.eqL Cm.eqA l m = Cm.eqL Cm.eqA (List.drop a l) (List.drop a m)) ∧
 (l = l ∧ m = m ∧ (↑a : Int) = (0 : Int)) ∧ True ∧ True) ∧
 ∀ (a : Nat),
 a ≤ List.length l ∧ Cm.eqL Cm.eqA l m = Cm.eqL Cm.eqA (List.drop a l) (List.drop a m) →
 ifb (decide ((↑a : Int) < (↑(List.length l) : Int)))
 (((0 : Int) ≤ (↑a : Int) ∧ (↑a : Int) < (↑(List.length l) : Int)) ∧
 ((0 : Int) ≤ (↑a : Int) ∧ (↑a : Int) < (↑(List.length m) : Int)) ∧
 True ∧
 ifb
 (!Cm.eqA (List.getD l a Cm.a0)
 (List.getD m a Cm.a0))
 (false = Cm.eqL Cm.eqA l m ∧ True)
 (∃ (a' : Nat),
 ((a' ≤ List.length l ∧ Cm.eqL Cm.eqA l m = Cm.eqL Cm.eqA (List.drop a' l) (List.drop a' m)) ∧
 List.length l - a' < List.length l - a) ∧
 (l = l ∧ m = m ∧ (↑a' : Int) = IntKind.wrap IntKind.i64 ((↑a : Int) + (1 : Int))) ∧ True ∧ True))
 (true = Cm.eqL Cm.eqA l m ∧ True))) := by kernel_rfl
theorem vc18 (l : List Cm.A) : (FGA E2 Try.f18 sTidy [⟨kAs, l⟩] (one (anTidyI l))) = (
 (∃ (a : Nat),
 (a ≤ List.length l ∧ Cm.tidy l = Cm.tidy (List.drop a l)) ∧
 (l = l ∧ l = l ∧ (↑(List.length l) : Int) = (↑(List.length l) : Int) ∧ (↑a : Int) = (0 : Int)) ∧ True ∧ True) ∧
 ∀ (a : Nat),
 a ≤ List.length l ∧ Cm.tidy l = Cm.tidy (List.drop a l) →
 ifb (decide ((↑a : Int) < (↑(List.length l) : Int)))
 (((0 : Int) ≤ (↑a : Int) ∧ (↑a : Int) < (↑(List.length l) : Int)) ∧
 ((!(List.getD l a Cm.a0).1 != (2 : Int)) = true →
 (!(List.getD l a Cm.a0).1 != (2 : Int)) = true) ∧
 ((!(List.getD l a Cm.a0).1 != (2 : Int)) = true →
 (!(List.getD l a Cm.a0).1 != (2 : Int)) = true) ∧
 (((List.getD l a Cm.a0).1 != (2 : Int)) = false →
 (!(List.getD l a Cm.a0).1 != (2 : Int)) = true) ∧
 ifb
 ((List.getD l a Cm.a0).1 != (2 : Int) ||
 decide ((List.getD l a Cm.a0).2.2.1 ≥ (2 : Int)))
 (∃ (a' : Nat),
 ((a' ≤ List.length l ∧ Cm.tidy l = Cm.tidy (List.drop a' l)) ∧
 List.length l - a' < List.length l - a) ∧
 (l = l ∧
 l = l ∧
 (↑(List.length l) : Int) = (↑(List.length l) : Int) ∧
 (↑a' : Int) = IntKind.wrap IntKind.i64 ((↑a : Int) + (1 : Int))) ∧
 True ∧ True)
 (((0 : Int) ≤ IntKind.wrap IntKind.i64 ((↑a : Int) + (1 : Int)) ∧
 IntKind.wrap IntKind.i64 ((↑a : Int) + (1 : Int)) ≤ (↑(List.length l) : Int) ∧
 (↑(List.length l) : Int) ≤ (↑(List.length l) : Int)) ∧
 (∃ (a_1 : Nat),
 (a_1 ≤ List.length (List.drop (a + (1 : Nat)) l) ∧
 Cm.next (List.getD l a Cm.a0).2.1
 (List.drop (a + (1 : Nat)) l) =
 Cm.next (List.getD l a Cm.a0).2.1
 (List.drop a_1 (List.drop (a + (1 : Nat)) l))) ∧
 (l = l ∧
 l = l ∧
 (↑(List.length l) : Int) = (↑(List.length l) : Int) ∧
 (↑a : Int) = (↑a : Int) ∧
 ([] : Go.Am.Pth) = [] ∧
 List.drop (a + (1 : Nat)) l =
 List.drop (Int.toNat (IntKind.wrap IntKind.i64 ((↑a : Int) + (1 : Int))))
 (List.take (List.length l) l) ∧
 (↑(List.length (List.drop (a + (1 : Nat)) l)) : Int) =
 (↑(List.length
 (List.drop
 (Int.toNat (IntKind.wrap IntKind.i64 ((↑a : Int) + (1 : Int))))
 (List.take (List.length l) l))) :
 Int) ∧
 (↑a_1 : Int) = (0 : Int)) ∧
 True ∧
 (List.getD l a Cm.a0).1 =
 (List.getD l a Cm.a0).1 ∧
 (List.getD l a Cm.a0).2.1 =
 (List.getD l a Cm.a0).2.1 ∧
 (List.getD l a Cm.a0).2.2.1 =
 (List.getD l a Cm.a0).2.2.1 ∧
 (List.getD l a Cm.a0).2.2.2.1 =
 (List.getD l a
 Cm.a0).2.2.2.1 ∧
 (List.getD l a Cm.a0).2.2.2.2 =
 (List.getD l a
 Cm.a0).2.2.2.2) ∧
 ∀ (a_1 : Nat),
 a_1 ≤ List.length (List.drop (a + (1 : Nat)) l) ∧
 Cm.next (List.getD l a Cm.a0).2.1
 (List.drop (a + (1 : Nat)) l) =
 Cm.next (List.getD l a Cm.a0).2.1
 (List.drop a_1 (List.drop (a + (1 : Nat)) l)) →
 ifb (decide ((↑a_1 : Int) < (↑(List.length (List.drop (a + (1 : Nat)) l)) : Int)))
 (((0 : Int) ≤ (↑a_1 : Int) ∧
 (↑a_1 : Int) < (↑(List.length (List.drop (a + (1 : Nat)) l)) : Int)) ∧
 True ∧
 ifb
 (!Cm.ofGuest
 (List.getD (List.drop (a + (1 : Nat)) l) a_1
 Cm.a0)
 (List.getD l a Cm.a0).2.1)
 (∃ (a' : Nat),
 ((a' ≤ List.length (List.drop (a + (1 : Nat)) l) ∧
 Cm.next
 (List.getD l a
 Cm.a0).2.1
 (List.drop (a + (1 : Nat)) l) =
 Cm.next
 (List.getD l a
 Cm.a0).2.1
 (List.drop a' (List.drop (a + (1 : Nat)) l))) ∧
 List.length l - a' < List.length l - a_1) ∧
 (l = l ∧
 l = l ∧
 (↑(List.length l) : Int) = (↑(List.length l) : Int) ∧
 (↑a : Int) = (↑a : Int) ∧
 ([] : Go.Am.Pth) = [] ∧
 List.drop (a + (1 : Nat)) l = List.drop (a + (1 : Nat)) l ∧
 (↑(List.length (List.drop (a + (1 : Nat)) l)) : Int) =
 (↑(List.length (List.drop (a + (1 : Nat)) l)) : Int) ∧
 (↑a' : Int) =
 IntKind.wrap IntKind.i64 ((↑a_1 : Int) + (1 : Int))) ∧
 True ∧
 (List.getD l a Cm.a0).1 =
 (List.getD l a
 Cm.a0).1 ∧
 (List.getD l a
 Cm.a0).2.1 =
 (List.getD l a
 Cm.a0).2.1 ∧
 (List.getD l a
 Cm.a0).2.2.1 =
 (List.getD l a
 Cm.a0).2.2.1 ∧
 (List.getD l a
 Cm.a0).2.2.2.1 =
 (List.getD l a
 Cm.a0).2.2.2.1 ∧
 (List.getD l a
 Cm.a0).2.2.2.2 =
 (List.getD l a
 Cm.a0).2.2.2.2)
 (ifb
 ((List.getD (List.drop (a + (1 : Nat)) l) a_1
 Cm.a0).1 !=
 (5 : Int))
 (false = Cm.tidy l ∧ True)
 (∃ (a' : Nat),
 ((a' ≤ List.length l ∧ Cm.tidy l = Cm.tidy (List.drop a' l)) ∧
 List.length l - a' < List.length l - a) ∧
 (l = l ∧
 l = l ∧
 (↑(List.length l) : Int) = (↑(List.length l) : Int) ∧
 (↑a' : Int) = IntKind.wrap IntKind.i64 ((↑a : Int) + (1 : Int))) ∧
 True ∧ True)))
 (∃ (a' : Nat),
 ((a' ≤ List.length l ∧ Cm.tidy l = Cm.tidy (List.drop a' l)) ∧
 List.length l - a' < List.length l - a) ∧
 (l = l ∧
 l = l ∧
 (↑(List.length l) : Int) = (↑(List.length l) : Int) ∧
 (↑a' : Int) = IntKind.wrap IntKind.i64 ((↑a : Int) + (1 : Int))) ∧
 True ∧ True)))
 (true = Cm.tidy l ∧ True)) := by kernel_rfl
theorem vc3 (l : List Cm.A) : (FGA E4 Try.f3 sLaw [⟨kAs, l⟩] no) = (
 True ∧
 ifb (decide (Cm.szL l (1048576 : Int) < (0 : Int))) (true = true ∧ True)
 (List.length l ≤ (16777216 : Nat) ∧
 List.length l ≤ (16777216 : Nat) ∧
 List.length l ≤ (16777216 : Nat) ∧
 List.length l ≤ (16777216 : Nat) ∧
 ifb (!Cm.tidy l == Cm.tidy l) (false = true ∧ True)
 (List.length l ≤ (16777216 : Nat) ∧
 List.length l ≤ (16777216 : Nat) ∧ ifb (!Cm.eqL Cm.eqA l l) (false = true ∧ True) (true = true ∧ True)))) := by kernel_rfl
end Go.Proofs.Ytcfmelkegjpciaa.T

open Go Go.Am Go.Proofs
open Go.Cm (R rdOk)
namespace Go.Proofs.Ytcfmelkegjpciaa.T
set_option maxHeartbeats 0
set_option maxRecDepth 100000
def anTab (p : R → Int → Int) (r0 : R) (g : Int) : Ann := .mk (Nat × R × List Cm.A) (fun a => ⟨[(0, .pb 0 0 []), (1, .int .i64 g), (5, .rf 1000 0 0 []), (6, .int .i64 (a.1 : Int))], [(1000, ⟨0, 0, some ⟨kA, a.2.2, true⟩, none⟩)], [(0, ⟨0, some (opnV kR a.2.1), false⟩)]⟩) (fun a => 6 - a.1)
  (fun a => (a.1 ≤ 6 ∧ a.2.2.length ≤ 2 * a.1) ∧ rdOk a.2.1 (274877906944 + 2 * a.1) ∧ Cm.tabGo p g 6 0 (r0, []) = Cm.tabGo p g (6 - a.1) a.1 a.2) fun _ _ => .none
variable (p : R → Int → Int) (act : R → Int → R × Cm.A) (tb : R → Int → R × List Cm.A)
def Ep : Env := En (Go.Am.look [] [(105, [sPick p])])
def Ew : Env := En (Go.Am.look [] [(105, [sPick p]), (128, [sWord (Cm.wordM p)])])
theorem vc105 (F : R → Int → Int) (r : R) (n : Int) : (FGA E0 Try.f105 (sPick F) [⟨kR, r⟩, ⟨kI, n⟩] no) = (
 ((!decide (n < (1 : Int))) = true → (!decide (n < (1 : Int))) = true) ∧
 ((!decide (n < (1 : Int))) = true → (!decide (n < (1 : Int))) = true) ∧
 ((!decide (n < (1 : Int))) = true → (!decide (n < (1 : Int))) = true) ∧
 ((!decide (n < (1 : Int))) = true → (!decide (n < (1 : Int))) = true) ∧
 ((!decide (n < (1 : Int))) = true → (!decide (n < (1 : Int))) = true) ∧
 (decide (n < (1 : Int)) = false → (!decide (n < (1 : Int))) = true) ∧
 ifb (decide (n < (1 : Int)) || (↑(List.length r.1) : Int) == (0 : Int))
 ((0 : Int) = F r n ∧ (r.1, IntKind.wrap IntKind.i64 (r.2 + (1 : Int))) = (r.1, Cm.inc r.2) ∧ True)
 (ifb
 (decide
 (IntKind.wrap IntKind.i64 (IntKind.wrap IntKind.i64 (r.2 + (1 : Int)) - (1 : Int)) <
 (↑(List.length r.1) : Int)))
 (((0 : Int) ≤ IntKind.wrap IntKind.i64 (IntKind.wrap IntKind.i64 (r.2 + (1 : Int)) - (1 : Int)) ∧
 IntKind.wrap IntKind.i64 (IntKind.wrap IntKind.i64 (r.2 + (1 : Int)) - (1 : Int)) <
 (↑(List.length r.1) : Int)) ∧
 n ≠ (0 : Int) ∧
 Int.tmod
 (IntKind.wrap IntKind.i64
 (List.getD r.1
 (Int.toNat
 (IntKind.wrap IntKind.i64 (IntKind.wrap IntKind.i64 (r.2 + (1 : Int)) - (1 : Int))))
 (0 : Int)))
 n =
 F r n ∧
 (r.1, IntKind.wrap IntKind.i64 (r.2 + (1 : Int))) = (r.1, Cm.inc r.2) ∧ True)
 ((↑(List.length r.1) : Int) ≠ (0 : Int) ∧
 ((0 : Int) ≤
 Int.tmod (IntKind.wrap IntKind.i64 (IntKind.wrap IntKind.i64 (r.2 + (1 : Int)) - (1 : Int)))
 (↑(List.length r.1) : Int) ∧
 Int.tmod (IntKind.wrap IntKind.i64 (IntKind.wrap IntKind.i64 (r.2 + (1 : Int)) - (1 : Int)))
 (↑(List.length r.1) : Int) <
 (↑(List.length r.1) : Int)) ∧
 (↑(List.length r.1) : Int) ≠ (0 : Int) ∧
 ((0 : Int) ≤
 Int.tmod
 (IntKind.wrap IntKind.i64
 (IntKind.wrap IntKind.i64
 (IntKind.wrap IntKind.i64 (IntKind.wrap IntKind.i64 (r.2 + (1 : Int)) - (1 : Int)) *
 (7 : Int)) +
 (3 : Int)))
 (↑(List.length r.1) : Int) ∧
 Int.tmod
 (IntKind.wrap IntKind.i64
 (IntKind.wrap IntKind.i64
 (IntKind.wrap IntKind.i64 (IntKind.wrap IntKind.i64 (r.2 + (1 : Int)) - (1 : Int)) *
 (7 : Int)) +
 (3 : Int)))
 (↑(List.length r.1) : Int) <
 (↑(List.length r.1) : Int)) ∧
 (↑(List.length r.1) : Int) ≠ (0 : Int) ∧
 (64 : Int) ≠ (0 : Int) ∧
 n ≠ (0 : Int) ∧
 Int.tmod
 (xorI IntKind.i64
 (IntKind.wrap IntKind.i64
 (IntKind.wrap IntKind.i64
 (IntKind.wrap IntKind.i64
 (IntKind.wrap IntKind.i64
 (IntKind.wrap IntKind.i64
 (List.getD r.1
 (Int.toNat
 (Int.tmod
 (IntKind.wrap IntKind.i64
 (IntKind.wrap IntKind.i64 (r.2 + (1 : Int)) -
 (1 : Int)))
 (↑(List.length r.1) : Int)))
 (0 : Int)) *
 (131 : Int)) +
 IntKind.wrap IntKind.i64
 (IntKind.wrap IntKind.i64
 (List.getD r.1
 (Int.toNat
 (Int.tmod
 (IntKind.wrap IntKind.i64
 (IntKind.wrap IntKind.i64
 (IntKind.wrap IntKind.i64
 (IntKind.wrap IntKind.i64 (r.2 + (1 : Int)) -
 (1 : Int)) *
 (7 : Int)) +
 (3 : Int)))
 (↑(List.length r.1) : Int)))
 (0 : Int)) *
 (1117 : Int))) +
 IntKind.wrap IntKind.i64
 (IntKind.wrap IntKind.i64
 (IntKind.wrap IntKind.i64 (r.2 + (1 : Int)) - (1 : Int)) *
 (29 : Int))) +
 IntKind.wrap IntKind.i64
 (IntKind.wrap IntKind.i64
 (Int.tdiv
 (IntKind.wrap IntKind.i64
 (IntKind.wrap IntKind.i64 (r.2 + (1 : Int)) - (1 : Int)))
 (↑(List.length r.1) : Int)) *
 (53 : Int))))
 (IntKind.wrap IntKind.i64
 (Int.tdiv
 (IntKind.wrap IntKind.i64
 (IntKind.wrap IntKind.i64
 (IntKind.wrap IntKind.i64
 (IntKind.wrap IntKind.i64
 (IntKind.wrap IntKind.i64
 (List.getD r.1
 (Int.toNat
 (Int.tmod
 (IntKind.wrap IntKind.i64
 (IntKind.wrap IntKind.i64 (r.2 + (1 : Int)) -
 (1 : Int)))
 (↑(List.length r.1) : Int)))
 (0 : Int)) *
 (131 : Int)) +
 IntKind.wrap IntKind.i64
 (IntKind.wrap IntKind.i64
 (List.getD r.1
 (Int.toNat
 (Int.tmod
 (IntKind.wrap IntKind.i64
 (IntKind.wrap IntKind.i64
 (IntKind.wrap IntKind.i64
 (IntKind.wrap IntKind.i64
 (r.2 + (1 : Int)) -
 (1 : Int)) *
 (7 : Int)) +
 (3 : Int)))
 (↑(List.length r.1) : Int)))
 (0 : Int)) *
 (1117 : Int))) +
 IntKind.wrap IntKind.i64
 (IntKind.wrap IntKind.i64
 (IntKind.wrap IntKind.i64 (r.2 + (1 : Int)) - (1 : Int)) *
 (29 : Int))) +
 IntKind.wrap IntKind.i64
 (IntKind.wrap IntKind.i64
 (Int.tdiv
 (IntKind.wrap IntKind.i64
 (IntKind.wrap IntKind.i64 (r.2 + (1 : Int)) - (1 : Int)))
 (↑(List.length r.1) : Int)) *
 (53 : Int))))
 (64 : Int))))
 n =
 F r n ∧
 (r.1, IntKind.wrap IntKind.i64 (r.2 + (1 : Int))) = (r.1, Cm.inc r.2) ∧ True))) := by kernel_rfl
theorem vc69 (b : List Int) : (FGA E0 Try.f69 sOpen [⟨.sl (.int .u8), b⟩] no) = (
 ifb (decide ((↑(List.length b) : Int) > (2000 : Int)))
 (((0 : Int) ≤ (0 : Int) ∧ (0 : Int) ≤ (2000 : Int) ∧ (2000 : Int) ≤ (↑(List.length b) : Int)) ∧
 (List.take (2000 : Nat) b, (0 : Int)) = (Cm.cut2 b, (0 : Int)) ∧ True)
 ((b, (0 : Int)) = (Cm.cut2 b, (0 : Int)) ∧ True)) := by kernel_rfl
theorem vc128 (r : R) : (FGA (Ep p) Try.f128 (sWord (Cm.wordM p)) [⟨kR, r⟩] no) = (
 rdOk r (1099511627776 : Int) ∧
 ifb (p r (3 : Int) == (0 : Int))
 (rdOk (r.1, Cm.inc r.2) (1099511627776 : Int) ∧
 p (r.1, Cm.inc r.2) (64 : Int) = Cm.wordM p r ∧ (r.1, Cm.inc (Cm.inc r.2)) = (r.1, Cm.inc (Cm.inc r.2)) ∧ True)
 (rdOk (r.1, Cm.inc r.2) (1099511627776 : Int) ∧
 p (r.1, Cm.inc r.2) (14 : Int) = Cm.wordM p r ∧ (r.1, Cm.inc (Cm.inc r.2)) = (r.1, Cm.inc (Cm.inc r.2)) ∧ True)) := by kernel_rfl
theorem vc123 (r : R) (g : Int) : (FGA (Ep p) Try.f123 (sTables fun r g => Cm.tabGo p g 6 0 (r, [])) [⟨kR, r⟩, ⟨kI, g⟩] (fun _ => anTab p r g)) = (
 (∃ (a : Nat × R × List Cm.A),
 ((a.1 ≤ (6 : Nat) ∧ List.length a.2.2 ≤ (2 : Nat) * a.1) ∧
 rdOk a.2.1 ((274877906944 : Int) + (2 : Int) * (↑a.1 : Int)) ∧
 Cm.tabGo p g (6 : Nat) (0 : Nat) (r, []) = Cm.tabGo p g ((6 : Nat) - a.1) a.1 a.2) ∧
 (([] : Go.Am.Pth) = [] ∧ g = g ∧ ([] : Go.Am.Pth) = [] ∧ (↑a.1 : Int) = (0 : Int)) ∧ a.2.2 = [] ∧ a.2.1.1 = r.1 ∧ a.2.1.2 = r.2) ∧
 ∀ (a : Nat × R × List Cm.A),
 (a.1 ≤ (6 : Nat) ∧ List.length a.2.2 ≤ (2 : Nat) * a.1) ∧
 rdOk a.2.1 ((274877906944 : Int) + (2 : Int) * (↑a.1 : Int)) ∧
 Cm.tabGo p g (6 : Nat) (0 : Nat) (r, []) = Cm.tabGo p g ((6 : Nat) - a.1) a.1 a.2 →
 ifb (decide ((↑a.1 : Int) < (6 : Int)))
 (rdOk a.2.1 (1099511627776 : Int) ∧
 ifb (decide (p a.2.1 (4 : Int) > (0 : Int)))
 ((4 : Int) ≠ (0 : Int) ∧
 (4 : Int) ≠ (0 : Int) ∧
 rdOk (a.2.1.1, Cm.inc a.2.1.2) (1099511627776 : Int) ∧
 (List.length a.2.2 + (2 : Nat)) * nat_lit 40 ≤ (140737488355328 : Nat) ∧
 ∃ (a' : Nat × R × List Cm.A),
 (((a'.1 ≤ (6 : Nat) ∧ List.length a'.2.2 ≤ (2 : Nat) * a'.1) ∧
 rdOk a'.2.1 ((274877906944 : Int) + (2 : Int) * (↑a'.1 : Int)) ∧
 Cm.tabGo p g (6 : Nat) (0 : Nat) (r, []) = Cm.tabGo p g ((6 : Nat) - a'.1) a'.1 a'.2) ∧
 (6 : Nat) - a'.1 < (6 : Nat) - a.1) ∧
 (([] : Go.Am.Pth) = [] ∧
 g = g ∧ ([] : Go.Am.Pth) = [] ∧ (↑a'.1 : Int) = IntKind.wrap IntKind.i64 ((↑a.1 : Int) + (1 : Int))) ∧
 a'.2.2 =
 List.append a.2.2
 [((2 : Int), g, IntKind.wrap IntKind.i64 (Int.tdiv (↑a.1 : Int) (4 : Int)),
 Int.tmod (↑a.1 : Int) (4 : Int),
 IntKind.wrap IntKind.i64 ((5 : Int) + p (a.2.1.1, Cm.inc a.2.1.2) (8 : Int))),
 ((5 : Int), g, (0 : Int), (0 : Int), (0 : Int))] ∧
 a'.2.1.1 = a.2.1.1 ∧ a'.2.1.2 = Cm.inc (Cm.inc a.2.1.2))
 (∃ (a' : Nat × R × List Cm.A),
 (((a'.1 ≤ (6 : Nat) ∧ List.length a'.2.2 ≤ (2 : Nat) * a'.1) ∧
 rdOk a'.2.1 ((274877906944 : Int) + (2 : Int) * (↑a'.1 : Int)) ∧
 Cm.tabGo p g (6 : Nat) (0 : Nat) (r, []) = Cm.tabGo p g ((6 : Nat) - a'.1) a'.1 a'.2) ∧
 (6 : Nat) - a'.1 < (6 : Nat) - a.1) ∧
 (([] : Go.Am.Pth) = [] ∧ g = g ∧ ([] : Go.Am.Pth) = [] ∧ (↑a'.1 : Int) = IntKind.wrap IntKind.i64 ((↑a.1 : Int) + (1 : Int))) ∧
 a'.2.2 = a.2.2 ∧ a'.2.1.1 = a.2.1.1 ∧ a'.2.1.2 = Cm.inc a.2.1.2))
 (a.2.2 = (Cm.tabGo p g (6 : Nat) (0 : Nat) (r, [])).2 ∧
 a.2.1 = (Cm.tabGo p g (6 : Nat) (0 : Nat) (r, [])).1 ∧ True)) := by kernel_rfl
def Ea : Env := En (Go.Am.look [] [(105, [sPick p]), (128, [sWord (Cm.wordM p)]), (80, [sAct act]), (123, [sTables tb])])
def anPlay (r : R) : Ann := .mk (Nat × R × List Cm.A) (fun a => ⟨[(0, .pb 0 0 []), (4, .int .i64 (Cm.playG p r)), (5, .rf 1000 0 0 []), (6, .bool (Cm.playT p tb r)), (7, .int .i64 (a.1 : Int))], [(1000, ⟨0, 0, some ⟨kA, a.2.2, true⟩, none⟩)], [(0, ⟨0, some (opnV kR a.2.1), false⟩)]⟩) (fun a => a.1)
  (fun a => (a.1 ≤ 52 ∧ a.2.2.length ≤ 60) ∧ rdOk a.2.1 (137438953472 + 100 + 20 * (52 - a.1)) ∧ Cm.playE p act tb r = Cm.playGo act (Cm.playG p r) (Cm.playT p tb r) a.1 a.2) fun _ _ => .none
def Es : Env := En (Go.Am.look [] [(69, [sOpen]), (70, [sPlay (Cm.playM p act tb)])])
theorem vc80 (r : R) (g : Int) : (FGA (Ew p) Try.f80 (sAct act) [⟨kR, r⟩, ⟨kI, g⟩] no) = (
 rdOk r (1099511627776 : Int) ∧
 rdOk (r.1, Cm.inc r.2) (1099511627776 : Int) ∧
 rdOk (r.1, Cm.inc (Cm.inc r.2)) (1099511627776 : Int) ∧
 rdOk (r.1, Cm.inc (Cm.inc (Cm.inc r.2))) (549755813888 : Int) ∧
 rdOk (r.1, Cm.inc (Cm.inc (Cm.inc (Cm.inc (Cm.inc r.2))))) (1099511627776 : Int) ∧
 ifb (p (r.1, Cm.inc (Cm.inc (Cm.inc (Cm.inc (Cm.inc r.2))))) (20 : Int) == (0 : Int))
 (((1 : Int), p r g, p (r.1, Cm.inc r.2) (6 : Int), p (r.1, Cm.inc (Cm.inc r.2)) (4 : Int),
 Cm.wordM p (r.1, Cm.inc (Cm.inc (Cm.inc r.2)))) =
 (act r g).2 ∧
 (r.1, Cm.inc (Cm.inc (Cm.inc (Cm.inc (Cm.inc (Cm.inc r.2)))))) = (act r g).1 ∧ True)
 (ifb (p (r.1, Cm.inc (Cm.inc (Cm.inc (Cm.inc (Cm.inc r.2))))) (20 : Int) == (1 : Int))
 (((1 : Int), p r g, p (r.1, Cm.inc r.2) (6 : Int), p (r.1, Cm.inc (Cm.inc r.2)) (4 : Int),
 Cm.wordM p (r.1, Cm.inc (Cm.inc (Cm.inc r.2)))) =
 (act r g).2 ∧
 (r.1, Cm.inc (Cm.inc (Cm.inc (Cm.inc (Cm.inc (Cm.inc r.2)))))) = (act r g).1 ∧ True)
 (ifb (p (r.1, Cm.inc (Cm.inc (Cm.inc (Cm.inc (Cm.inc r.2))))) (20 : Int) == (2 : Int))
 (((2 : Int), p r g, p (r.1, Cm.inc r.2) (6 : Int), p (r.1, Cm.inc (Cm.inc r.2)) (4 : Int),
 Cm.wordM p (r.1, Cm.inc (Cm.inc (Cm.inc r.2)))) =
 (act r g).2 ∧
 (r.1, Cm.inc (Cm.inc (Cm.inc (Cm.inc (Cm.inc (Cm.inc r.2)))))) = (act r g).1 ∧ True)
 (ifb (p (r.1, Cm.inc (Cm.inc (Cm.inc (Cm.inc (Cm.inc r.2))))) (20 : Int) == (3 : Int))
 (((2 : Int), p r g, p (r.1, Cm.inc r.2) (6 : Int), p (r.1, Cm.inc (Cm.inc r.2)) (4 : Int),
 Cm.wordM p (r.1, Cm.inc (Cm.inc (Cm.inc r.2)))) =
 (act r g).2 ∧
 (r.1, Cm.inc (Cm.inc (Cm.inc (Cm.inc (Cm.inc (Cm.inc r.2)))))) = (act r g).1 ∧ True)
 (ifb (p (r.1, Cm.inc (Cm.inc (Cm.inc (Cm.inc (Cm.inc r.2))))) (20 : Int) == (4 : Int))
 (rdOk (r.1, Cm.inc (Cm.inc (Cm.inc (Cm.inc (Cm.inc (Cm.inc r.2)))))) (1099511627776 : Int) ∧
 (4 : Int) ≠ (0 : Int) ∧
 (4 : Int) ≠ (0 : Int) ∧
 rdOk (r.1, Cm.inc (Cm.inc (Cm.inc (Cm.inc (Cm.inc (Cm.inc (Cm.inc r.2)))))))
 (1099511627776 : Int) ∧
 ((2 : Int), p r g,
 IntKind.wrap IntKind.i64
 (Int.tdiv
 (p (r.1, Cm.inc (Cm.inc (Cm.inc (Cm.inc (Cm.inc (Cm.inc r.2)))))) (6 : Int))
 (4 : Int)),
 Int.tmod (p (r.1, Cm.inc (Cm.inc (Cm.inc (Cm.inc (Cm.inc (Cm.inc r.2)))))) (6 : Int))
 (4 : Int),
 IntKind.wrap IntKind.i64
 ((5 : Int) +
 p (r.1, Cm.inc (Cm.inc (Cm.inc (Cm.inc (Cm.inc (Cm.inc (Cm.inc r.2)))))))
 (8 : Int))) =
 (act r g).2 ∧
 (r.1, Cm.inc (Cm.inc (Cm.inc (Cm.inc (Cm.inc (Cm.inc (Cm.inc (Cm.inc r.2)))))))) =
 (act r g).1 ∧
 True)
 (ifb (p (r.1, Cm.inc (Cm.inc (Cm.inc (Cm.inc (Cm.inc r.2))))) (20 : Int) == (5 : Int))
 (rdOk (r.1, Cm.inc (Cm.inc (Cm.inc (Cm.inc (Cm.inc (Cm.inc r.2)))))) (1099511627776 : Int) ∧
 (4 : Int) ≠ (0 : Int) ∧
 (4 : Int) ≠ (0 : Int) ∧
 rdOk (r.1, Cm.inc (Cm.inc (Cm.inc (Cm.inc (Cm.inc (Cm.inc (Cm.inc r.2)))))))
 (1099511627776 : Int) ∧
 ((2 : Int), p r g,
 IntKind.wrap IntKind.i64
 (Int.tdiv
 (p (r.1, Cm.inc (Cm.inc (Cm.inc (Cm.inc (Cm.inc (Cm.inc r.2)))))) (6 : Int))
 (4 : Int)),
 Int.tmod
 (p (r.1, Cm.inc (Cm.inc (Cm.inc (Cm.inc (Cm.inc (Cm.inc r.2)))))) (6 : Int))
 (4 : Int),
 IntKind.wrap IntKind.i64
 ((5 : Int) +
 p (r.1, Cm.inc (Cm.inc (Cm.inc (Cm.inc (Cm.inc (Cm.inc (Cm.inc r.2)))))))
 (8 : Int))) =
 (act r g).2 ∧
 (r.1, Cm.inc (Cm.inc (Cm.inc (Cm.inc (Cm.inc (Cm.inc (Cm.inc (Cm.inc r.2)))))))) =
 (act r g).1 ∧
 True)
 (ifb (p (r.1, Cm.inc (Cm.inc (Cm.inc (Cm.inc (Cm.inc r.2))))) (20 : Int) == (6 : Int))
 (((3 : Int), p r g, p (r.1, Cm.inc r.2) (6 : Int), p (r.1, Cm.inc (Cm.inc r.2)) (4 : Int),
 Cm.wordM p (r.1, Cm.inc (Cm.inc (Cm.inc r.2)))) =
 (act r g).2 ∧
 (r.1, Cm.inc (Cm.inc (Cm.inc (Cm.inc (Cm.inc (Cm.inc r.2)))))) = (act r g).1 ∧ True)
 (ifb (p (r.1, Cm.inc (Cm.inc (Cm.inc (Cm.inc (Cm.inc r.2))))) (20 : Int) == (7 : Int))
 (((3 : Int), p r g, p (r.1, Cm.inc r.2) (6 : Int), p (r.1, Cm.inc (Cm.inc r.2)) (4 : Int),
 Cm.wordM p (r.1, Cm.inc (Cm.inc (Cm.inc r.2)))) =
 (act r g).2 ∧
 (r.1, Cm.inc (Cm.inc (Cm.inc (Cm.inc (Cm.inc (Cm.inc r.2)))))) = (act r g).1 ∧ True)
 (ifb (p (r.1, Cm.inc (Cm.inc (Cm.inc (Cm.inc (Cm.inc r.2))))) (20 : Int) == (8 : Int))
 (((3 : Int), p r g, p (r.1, Cm.inc r.2) (6 : Int), p (r.1, Cm.inc (Cm.inc r.2)) (4 : Int),
 Cm.wordM p (r.1, Cm.inc (Cm.inc (Cm.inc r.2)))) =
 (act r g).2 ∧
 (r.1, Cm.inc (Cm.inc (Cm.inc (Cm.inc (Cm.inc (Cm.inc r.2)))))) = (act r g).1 ∧ True)
 (ifb (p (r.1, Cm.inc (Cm.inc (Cm.inc (Cm.inc (Cm.inc r.2))))) (20 : Int) == (9 : Int))
 (((4 : Int), p r g, p (r.1, Cm.inc r.2) (6 : Int), p (r.1, Cm.inc (Cm.inc r.2)) (4 : Int),
 Cm.wordM p (r.1, Cm.inc (Cm.inc (Cm.inc r.2)))) =
 (act r g).2 ∧
 (r.1, Cm.inc (Cm.inc (Cm.inc (Cm.inc (Cm.inc (Cm.inc r.2)))))) = (act r g).1 ∧ True)
 (ifb (p (r.1, Cm.inc (Cm.inc (Cm.inc (Cm.inc (Cm.inc r.2))))) (20 : Int) == (10 : Int))
 (((4 : Int), p r g, p (r.1, Cm.inc r.2) (6 : Int),
 p (r.1, Cm.inc (Cm.inc r.2)) (4 : Int),
 Cm.wordM p (r.1, Cm.inc (Cm.inc (Cm.inc r.2)))) =
 (act r g).2 ∧
 (r.1, Cm.inc (Cm.inc (Cm.inc (Cm.inc (Cm.inc (Cm.inc r.2)))))) = (act r g).1 ∧ True)
 (ifb (p (r.1, Cm.inc (Cm.inc (Cm.inc (Cm.inc (Cm.inc r.2))))) (20 : Int) == (11 : Int))
 (((4 : Int), p r g, p (r.1, Cm.inc r.2) (6 : Int),
 p (r.1, Cm.inc (Cm.inc r.2)) (4 : Int),
 Cm.wordM p (r.1, Cm.inc (Cm.inc (Cm.inc r.2)))) =
 (act r g).2 ∧
 (r.1, Cm.inc (Cm.inc (Cm.inc (Cm.inc (Cm.inc (Cm.inc r.2)))))) = (act r g).1 ∧ True)
 (ifb
 (p (r.1, Cm.inc (Cm.inc (Cm.inc (Cm.inc (Cm.inc r.2))))) (20 : Int) == (12 : Int))
 (((5 : Int), p r g, p (r.1, Cm.inc r.2) (6 : Int),
 p (r.1, Cm.inc (Cm.inc r.2)) (4 : Int),
 Cm.wordM p (r.1, Cm.inc (Cm.inc (Cm.inc r.2)))) =
 (act r g).2 ∧
 (r.1, Cm.inc (Cm.inc (Cm.inc (Cm.inc (Cm.inc (Cm.inc r.2)))))) = (act r g).1 ∧
 True)
 (ifb
 (p (r.1, Cm.inc (Cm.inc (Cm.inc (Cm.inc (Cm.inc r.2))))) (20 : Int) == (13 : Int))
 (((5 : Int), p r g, p (r.1, Cm.inc r.2) (6 : Int),
 p (r.1, Cm.inc (Cm.inc r.2)) (4 : Int),
 Cm.wordM p (r.1, Cm.inc (Cm.inc (Cm.inc r.2)))) =
 (act r g).2 ∧
 (r.1, Cm.inc (Cm.inc (Cm.inc (Cm.inc (Cm.inc (Cm.inc r.2)))))) = (act r g).1 ∧
 True)
 (ifb
 (p (r.1, Cm.inc (Cm.inc (Cm.inc (Cm.inc (Cm.inc r.2))))) (20 : Int) ==
 (14 : Int))
 (((6 : Int), p r g, p (r.1, Cm.inc r.2) (6 : Int),
 p (r.1, Cm.inc (Cm.inc r.2)) (4 : Int),
 Cm.wordM p (r.1, Cm.inc (Cm.inc (Cm.inc r.2)))) =
 (act r g).2 ∧
 (r.1, Cm.inc (Cm.inc (Cm.inc (Cm.inc (Cm.inc (Cm.inc r.2)))))) = (act r g).1 ∧
 True)
 (ifb
 (p (r.1, Cm.inc (Cm.inc (Cm.inc (Cm.inc (Cm.inc r.2))))) (20 : Int) ==
 (15 : Int))
 (((7 : Int), p r g, p (r.1, Cm.inc r.2) (6 : Int),
 p (r.1, Cm.inc (Cm.inc r.2)) (4 : Int),
 Cm.wordM p (r.1, Cm.inc (Cm.inc (Cm.inc r.2)))) =
 (act r g).2 ∧
 (r.1, Cm.inc (Cm.inc (Cm.inc (Cm.inc (Cm.inc (Cm.inc r.2)))))) =
 (act r g).1 ∧
 True)
 (ifb
 (p (r.1, Cm.inc (Cm.inc (Cm.inc (Cm.inc (Cm.inc r.2))))) (20 : Int) ==
 (16 : Int))
 (((7 : Int), p r g, p (r.1, Cm.inc r.2) (6 : Int),
 p (r.1, Cm.inc (Cm.inc r.2)) (4 : Int),
 Cm.wordM p (r.1, Cm.inc (Cm.inc (Cm.inc r.2)))) =
 (act r g).2 ∧
 (r.1, Cm.inc (Cm.inc (Cm.inc (Cm.inc (Cm.inc (Cm.inc r.2)))))) =
 (act r g).1 ∧
 True)
 (ifb
 (p (r.1, Cm.inc (Cm.inc (Cm.inc (Cm.inc (Cm.inc r.2))))) (20 : Int) ==
 (17 : Int))
 (rdOk (r.1, Cm.inc (Cm.inc (Cm.inc (Cm.inc (Cm.inc (Cm.inc r.2))))))
 (1099511627776 : Int) ∧
 ((8 : Int), p r g,
 p (r.1, Cm.inc (Cm.inc (Cm.inc (Cm.inc (Cm.inc (Cm.inc r.2))))))
 (8 : Int),
 p (r.1, Cm.inc (Cm.inc r.2)) (4 : Int),
 Cm.wordM p (r.1, Cm.inc (Cm.inc (Cm.inc r.2)))) =
 (act r g).2 ∧
 (r.1,
 Cm.inc
 (Cm.inc (Cm.inc (Cm.inc (Cm.inc (Cm.inc (Cm.inc r.2))))))) =
 (act r g).1 ∧
 True)
 (ifb
 (p (r.1, Cm.inc (Cm.inc (Cm.inc (Cm.inc (Cm.inc r.2))))) (20 : Int) ==
 (18 : Int))
 (rdOk (r.1, Cm.inc (Cm.inc (Cm.inc (Cm.inc (Cm.inc (Cm.inc r.2))))))
 (1099511627776 : Int) ∧
 ((0 : Int) ≤
 p (r.1, Cm.inc (Cm.inc (Cm.inc (Cm.inc (Cm.inc (Cm.inc r.2))))))
 (3 : Int) ∧
 p (r.1, Cm.inc (Cm.inc (Cm.inc (Cm.inc (Cm.inc (Cm.inc r.2))))))
 (3 : Int) <
 (↑(3 : Nat) : Int)) ∧
 (List.getD [(9 : Int), (8 : Int), (6 : Int)]
 (Int.toNat
 (p
 (r.1,
 Cm.inc
 (Cm.inc (Cm.inc (Cm.inc (Cm.inc (Cm.inc r.2))))))
 (3 : Int)))
 (0 : Int),
 p r g, p (r.1, Cm.inc r.2) (6 : Int),
 p (r.1, Cm.inc (Cm.inc r.2)) (4 : Int),
 Cm.wordM p (r.1, Cm.inc (Cm.inc (Cm.inc r.2)))) =
 (act r g).2 ∧
 (r.1,
 Cm.inc
 (Cm.inc
 (Cm.inc (Cm.inc (Cm.inc (Cm.inc (Cm.inc r.2))))))) =
 (act r g).1 ∧
 True)
 (rdOk (r.1, Cm.inc (Cm.inc (Cm.inc (Cm.inc (Cm.inc (Cm.inc r.2))))))
 (1099511627776 : Int) ∧
 ifb
 (p (r.1, Cm.inc (Cm.inc (Cm.inc (Cm.inc (Cm.inc (Cm.inc r.2))))))
 (4 : Int) ==
 (0 : Int))
 (rdOk
 (r.1,
 Cm.inc
 (Cm.inc (Cm.inc (Cm.inc (Cm.inc (Cm.inc (Cm.inc r.2)))))))
 (1099511627776 : Int) ∧
 ifb
 (IntKind.wrap IntKind.i64
 (p
 (r.1,
 Cm.inc
 (Cm.inc
 (Cm.inc (Cm.inc (Cm.inc (Cm.inc (Cm.inc r.2)))))))
 (12 : Int) -
 (1 : Int)) ==
 (0 : Int))
 (rdOk
 (r.1,
 Cm.inc
 (Cm.inc
 (Cm.inc
 (Cm.inc (Cm.inc (Cm.inc (Cm.inc (Cm.inc r.2))))))))
 (1099511627776 : Int) ∧
 (IntKind.wrap IntKind.i64
 ((1 : Int) +
 p
 (r.1,
 Cm.inc
 (Cm.inc
 (Cm.inc
 (Cm.inc
 (Cm.inc
 (Cm.inc (Cm.inc (Cm.inc r.2))))))))
 (5 : Int)),
 p r g, p (r.1, Cm.inc r.2) (6 : Int),
 p (r.1, Cm.inc (Cm.inc r.2)) (4 : Int),
 Cm.wordM p (r.1, Cm.inc (Cm.inc (Cm.inc r.2)))) =
 (act r g).2 ∧
 (r.1,
 Cm.inc
 (Cm.inc
 (Cm.inc
 (Cm.inc
 (Cm.inc
 (Cm.inc
 (Cm.inc (Cm.inc (Cm.inc r.2))))))))) =
 (act r g).1 ∧
 True)
 ((IntKind.wrap IntKind.i64
 (p
 (r.1,
 Cm.inc
 (Cm.inc
 (Cm.inc
 (Cm.inc (Cm.inc (Cm.inc (Cm.inc r.2)))))))
 (12 : Int) -
 (1 : Int)),
 p r g, p (r.1, Cm.inc r.2) (6 : Int),
 p (r.1, Cm.inc (Cm.inc r.2)) (4 : Int),
 Cm.wordM p (r.1, Cm.inc (Cm.inc (Cm.inc r.2)))) =
 (act r g).2 ∧
 (r.1,
 Cm.inc
 (Cm.inc
 (Cm.inc
 (Cm.inc
 (Cm.inc (Cm.inc (Cm.inc (Cm.inc r.2)))))))) =
 (act r g).1 ∧
 True))
 (ifb
 (p (r.1, Cm.inc (Cm.inc (Cm.inc (Cm.inc (Cm.inc (Cm.inc r.2))))))
 (4 : Int) ==
 (1 : Int))
 (rdOk
 (r.1,
 Cm.inc
 (Cm.inc (Cm.inc (Cm.inc (Cm.inc (Cm.inc (Cm.inc r.2)))))))
 (1099511627776 : Int) ∧
 ((0 : Int) ≤
 p
 (r.1,
 Cm.inc
 (Cm.inc
 (Cm.inc (Cm.inc (Cm.inc (Cm.inc (Cm.inc r.2)))))))
 (2 : Int) ∧
 p
 (r.1,
 Cm.inc
 (Cm.inc
 (Cm.inc (Cm.inc (Cm.inc (Cm.inc (Cm.inc r.2)))))))
 (2 : Int) <
 (↑(2 : Nat) : Int)) ∧
 ifb ((0 : Int) == (0 : Int))
 (rdOk
 (r.1,
 Cm.inc
 (Cm.inc
 (Cm.inc
 (Cm.inc
 (Cm.inc (Cm.inc (Cm.inc (Cm.inc r.2))))))))
 (1099511627776 : Int) ∧
 (IntKind.wrap IntKind.i64
 ((1 : Int) +
 p
 (r.1,
 Cm.inc
 (Cm.inc
 (Cm.inc
 (Cm.inc
 (Cm.inc
 (Cm.inc
 (Cm.inc (Cm.inc r.2))))))))
 (5 : Int)),
 p r g,
 List.getD [(-1 : Int), (6 : Int)]
 (Int.toNat
 (p
 (r.1,
 Cm.inc
 (Cm.inc
 (Cm.inc
 (Cm.inc
 (Cm.inc (Cm.inc (Cm.inc r.2)))))))
 (2 : Int)))
 (0 : Int),
 p (r.1, Cm.inc (Cm.inc r.2)) (4 : Int),
 Cm.wordM p (r.1, Cm.inc (Cm.inc (Cm.inc r.2)))) =
 (act r g).2 ∧
 (r.1,
 Cm.inc
 (Cm.inc
 (Cm.inc
 (Cm.inc
 (Cm.inc
 (Cm.inc
 (Cm.inc (Cm.inc (Cm.inc r.2))))))))) =
 (act r g).1 ∧
 True)
 (((0 : Int), p r g,
 List.getD [(-1 : Int), (6 : Int)]
 (Int.toNat
 (p
 (r.1,
 Cm.inc
 (Cm.inc
 (Cm.inc
 (Cm.inc
 (Cm.inc (Cm.inc (Cm.inc r.2)))))))
 (2 : Int)))
 (0 : Int),
 p (r.1, Cm.inc (Cm.inc r.2)) (4 : Int),
 Cm.wordM p (r.1, Cm.inc (Cm.inc (Cm.inc r.2)))) =
 (act r g).2 ∧
 (r.1,
 Cm.inc
 (Cm.inc
 (Cm.inc
 (Cm.inc
 (Cm.inc
 (Cm.inc (Cm.inc (Cm.inc r.2)))))))) =
 (act r g).1 ∧
 True))
 (ifb
 (p
 (r.1,
 Cm.inc (Cm.inc (Cm.inc (Cm.inc (Cm.inc (Cm.inc r.2))))))
 (4 : Int) ==
 (2 : Int))
 (rdOk
 (r.1,
 Cm.inc
 (Cm.inc
 (Cm.inc (Cm.inc (Cm.inc (Cm.inc (Cm.inc r.2)))))))
 (1099511627776 : Int) ∧
 ((0 : Int) ≤
 p
 (r.1,
 Cm.inc
 (Cm.inc
 (Cm.inc
 (Cm.inc (Cm.inc (Cm.inc (Cm.inc r.2)))))))
 (2 : Int) ∧
 p
 (r.1,
 Cm.inc
 (Cm.inc
 (Cm.inc
 (Cm.inc (Cm.inc (Cm.inc (Cm.inc r.2)))))))
 (2 : Int) <
 (↑(2 : Nat) : Int)) ∧
 ifb ((0 : Int) == (0 : Int))
 (rdOk
 (r.1,
 Cm.inc
 (Cm.inc
 (Cm.inc
 (Cm.inc
 (Cm.inc (Cm.inc (Cm.inc (Cm.inc r.2))))))))
 (1099511627776 : Int) ∧
 (IntKind.wrap IntKind.i64
 ((1 : Int) +
 p
 (r.1,
 Cm.inc
 (Cm.inc
 (Cm.inc
 (Cm.inc
 (Cm.inc
 (Cm.inc
 (Cm.inc (Cm.inc r.2))))))))
 (5 : Int)),
 p r g, p (r.1, Cm.inc r.2) (6 : Int),
 List.getD [(-1 : Int), (4 : Int)]
 (Int.toNat
 (p
 (r.1,
 Cm.inc
 (Cm.inc
 (Cm.inc
 (Cm.inc
 (Cm.inc (Cm.inc (Cm.inc r.2)))))))
 (2 : Int)))
 (0 : Int),
 Cm.wordM p (r.1, Cm.inc (Cm.inc (Cm.inc r.2)))) =
 (act r g).2 ∧
 (r.1,
 Cm.inc
 (Cm.inc
 (Cm.inc
 (Cm.inc
 (Cm.inc
 (Cm.inc
 (Cm.inc
 (Cm.inc (Cm.inc r.2))))))))) =
 (act r g).1 ∧
 True)
 (((0 : Int), p r g, p (r.1, Cm.inc r.2) (6 : Int),
 List.getD [(-1 : Int), (4 : Int)]
 (Int.toNat
 (p
 (r.1,
 Cm.inc
 (Cm.inc
 (Cm.inc
 (Cm.inc
 (Cm.inc (Cm.inc (Cm.inc r.2)))))))
 (2 : Int)))
 (0 : Int),
 Cm.wordM p (r.1, Cm.inc (Cm.inc (Cm.inc r.2)))) =
 (act r g).2 ∧
 (r.1,
 Cm.inc
 (Cm.inc
 (Cm.inc
 (Cm.inc
 (Cm.inc
 (Cm.inc (Cm.inc (Cm.inc r.2)))))))) =
 (act r g).1 ∧
 True))
 (rdOk
 (r.1,
 Cm.inc
 (Cm.inc
 (Cm.inc (Cm.inc (Cm.inc (Cm.inc (Cm.inc r.2)))))))
 (1099511627776 : Int) ∧
 ((0 : Int) ≤
 p
 (r.1,
 Cm.inc
 (Cm.inc
 (Cm.inc
 (Cm.inc (Cm.inc (Cm.inc (Cm.inc r.2)))))))
 (2 : Int) ∧
 p
 (r.1,
 Cm.inc
 (Cm.inc
 (Cm.inc
 (Cm.inc (Cm.inc (Cm.inc (Cm.inc r.2)))))))
 (2 : Int) <
 (↑(2 : Nat) : Int)) ∧
 ifb ((0 : Int) == (0 : Int))
 (rdOk
 (r.1,
 Cm.inc
 (Cm.inc
 (Cm.inc
 (Cm.inc
 (Cm.inc (Cm.inc (Cm.inc (Cm.inc r.2))))))))
 (1099511627776 : Int) ∧
 (IntKind.wrap IntKind.i64
 ((1 : Int) +
 p
 (r.1,
 Cm.inc
 (Cm.inc
 (Cm.inc
 (Cm.inc
 (Cm.inc
 (Cm.inc
 (Cm.inc (Cm.inc r.2))))))))
 (5 : Int)),
 p r g, p (r.1, Cm.inc r.2) (6 : Int),
 p (r.1, Cm.inc (Cm.inc r.2)) (4 : Int),
 List.getD [(-1 : Int), (64 : Int)]
 (Int.toNat
 (p
 (r.1,
 Cm.inc
 (Cm.inc
 (Cm.inc
 (Cm.inc
 (Cm.inc (Cm.inc (Cm.inc r.2)))))))
 (2 : Int)))
 (0 : Int)) =
 (act r g).2 ∧
 (r.1,
 Cm.inc
 (Cm.inc
 (Cm.inc
 (Cm.inc
 (Cm.inc
 (Cm.inc
 (Cm.inc
 (Cm.inc (Cm.inc r.2))))))))) =
 (act r g).1 ∧
 True)
 (((0 : Int), p r g, p (r.1, Cm.inc r.2) (6 : Int),
 p (r.1, Cm.inc (Cm.inc r.2)) (4 : Int),
 List.getD [(-1 : Int), (64 : Int)]
 (Int.toNat
 (p
 (r.1,
 Cm.inc
 (Cm.inc
 (Cm.inc
 (Cm.inc
 (Cm.inc (Cm.inc (Cm.inc r.2)))))))
 (2 : Int)))
 (0 : Int)) =
 (act r g).2 ∧
 (r.1,
 Cm.inc
 (Cm.inc
 (Cm.inc
 (Cm.inc
 (Cm.inc
 (Cm.inc (Cm.inc (Cm.inc r.2)))))))) =
 (act r g).1 ∧
 True)))))))))))))))))))))))) := by kernel_rfl
theorem vc70 (r : R) : (FGA (Ea p act tb) Try.f70 (sPlay (Cm.playM p act tb)) [⟨kR, r⟩] (fun _ => anPlay p act tb r)) = (
 rdOk r (1099511627776 : Int) ∧
 rdOk (r.1, Cm.inc r.2) (1099511627776 : Int) ∧
 ifb (decide (p (r.1, Cm.inc r.2) (4 : Int) > (0 : Int)))
 (rdOk (r.1, Cm.inc (Cm.inc r.2)) (1099511627776 : Int) ∧
 rdOk (r.1, Cm.inc (Cm.inc (Cm.inc r.2))) (274877906944 : Int) ∧
 rdOk
 (tb (r.1, Cm.inc (Cm.inc (Cm.inc r.2)))
 (p (r.1, Cm.inc (Cm.inc r.2)) (IntKind.wrap IntKind.i64 ((1 : Int) + p r (2 : Int))))).1
 (1099511627776 : Int) ∧
 rdOk
 ((tb (r.1, Cm.inc (Cm.inc (Cm.inc r.2)))
 (p (r.1, Cm.inc (Cm.inc r.2)) (IntKind.wrap IntKind.i64 ((1 : Int) + p r (2 : Int))))).1.1,
 Cm.inc
 (tb (r.1, Cm.inc (Cm.inc (Cm.inc r.2)))
 (p (r.1, Cm.inc (Cm.inc r.2)) (IntKind.wrap IntKind.i64 ((1 : Int) + p r (2 : Int))))).1.2)
 (1099511627776 : Int) ∧
 (∃ (a : Nat × R × List Cm.A),
 ((a.1 ≤ (52 : Nat) ∧ List.length a.2.2 ≤ (60 : Nat)) ∧
 rdOk a.2.1 ((137438953472 : Int) + (100 : Int) + (20 : Int) * ((52 : Int) - (↑a.1 : Int))) ∧
 Cm.playE p act tb r = Cm.playGo act (Cm.playG p r) (Cm.playT p tb r) a.1 a.2) ∧
 (([] : Go.Am.Pth) = [] ∧
 Cm.playG p r = IntKind.wrap IntKind.i64 ((1 : Int) + p r (2 : Int)) ∧
 ([] : Go.Am.Pth) = [] ∧
 Cm.playT p tb r =
 decide
 (p
 (tb (r.1, Cm.inc (Cm.inc (Cm.inc r.2)))
 (p (r.1, Cm.inc (Cm.inc r.2))
 (IntKind.wrap IntKind.i64 ((1 : Int) + p r (2 : Int))))).1
 (4 : Int) >
 (0 : Int)) ∧
 (↑a.1 : Int) =
 p
 ((tb (r.1, Cm.inc (Cm.inc (Cm.inc r.2)))
 (p (r.1, Cm.inc (Cm.inc r.2))
 (IntKind.wrap IntKind.i64 ((1 : Int) + p r (2 : Int))))).1.1,
 Cm.inc
 (tb (r.1, Cm.inc (Cm.inc (Cm.inc r.2)))
 (p (r.1, Cm.inc (Cm.inc r.2))
 (IntKind.wrap IntKind.i64 ((1 : Int) + p r (2 : Int))))).1.2)
 (52 : Int)) ∧
 a.2.2 =
 (tb (r.1, Cm.inc (Cm.inc (Cm.inc r.2)))
 (p (r.1, Cm.inc (Cm.inc r.2)) (IntKind.wrap IntKind.i64 ((1 : Int) + p r (2 : Int))))).2 ∧
 a.2.1.1 =
 (tb (r.1, Cm.inc (Cm.inc (Cm.inc r.2)))
 (p (r.1, Cm.inc (Cm.inc r.2))
 (IntKind.wrap IntKind.i64 ((1 : Int) + p r (2 : Int))))).1.1 ∧
 a.2.1.2 =
 Cm.inc
 (Cm.inc
 (tb (r.1, Cm.inc (Cm.inc (Cm.inc r.2)))
 (p (r.1, Cm.inc (Cm.inc r.2))
 (IntKind.wrap IntKind.i64 ((1 : Int) + p r (2 : Int))))).1.2)) ∧
 ∀ (a : Nat × R × List Cm.A),
 (a.1 ≤ (52 : Nat) ∧ List.length a.2.2 ≤ (60 : Nat)) ∧
 rdOk a.2.1 ((137438953472 : Int) + (100 : Int) + (20 : Int) * ((52 : Int) - (↑a.1 : Int))) ∧
 Cm.playE p act tb r = Cm.playGo act (Cm.playG p r) (Cm.playT p tb r) a.1 a.2 →
 (decide ((↑a.1 : Int) > (0 : Int)) = true → decide ((↑a.1 : Int) > (0 : Int)) = true) ∧
 (decide ((↑a.1 : Int) > (0 : Int)) = true → decide ((↑a.1 : Int) > (0 : Int)) = true) ∧
 (decide ((↑a.1 : Int) > (0 : Int)) = true → decide ((↑a.1 : Int) > (0 : Int)) = true) ∧
 ifb (decide ((↑a.1 : Int) > (0 : Int)) && decide ((↑(List.length a.2.2) : Int) < (58 : Int)))
 ((rdOk a.2.1 (274877906944 : Int) ∧ (1 : Int) ≤ Cm.playG p r ∧ Cm.playG p r ≤ (100 : Int)) ∧
 (List.length a.2.2 + (1 : Nat)) * nat_lit 40 ≤ (140737488355328 : Nat) ∧
 (Cm.playT p tb r = true → Cm.playT p tb r = true) ∧
 (Cm.playT p tb r = true → Cm.playT p tb r = true) ∧
 (Cm.playT p tb r = true → Cm.playT p tb r = true) ∧
 ((Cm.playT p tb r && (act a.2.1 (Cm.playG p r)).2.1 == (2 : Int)) = true →
 (Cm.playT p tb r && (act a.2.1 (Cm.playG p r)).2.1 == (2 : Int)) = true) ∧
 ((Cm.playT p tb r && (act a.2.1 (Cm.playG p r)).2.1 == (2 : Int)) = true →
 (Cm.playT p tb r && (act a.2.1 (Cm.playG p r)).2.1 == (2 : Int)) = true) ∧
 ((Cm.playT p tb r && (act a.2.1 (Cm.playG p r)).2.1 == (2 : Int)) = true →
 (Cm.playT p tb r && (act a.2.1 (Cm.playG p r)).2.1 == (2 : Int)) = true) ∧
 ifb
 (Cm.playT p tb r && (act a.2.1 (Cm.playG p r)).2.1 == (2 : Int) &&
 decide ((act a.2.1 (Cm.playG p r)).2.2.2.1 < (2 : Int)))
 ((List.length (List.append a.2.2 [(act a.2.1 (Cm.playG p r)).2]) +
 (1 : Nat)) *
 nat_lit 40 ≤
 (140737488355328 : Nat) ∧
 ∃ (a' : Nat × R × List Cm.A),
 (((a'.1 ≤ (52 : Nat) ∧ List.length a'.2.2 ≤ (60 : Nat)) ∧
 rdOk a'.2.1
 ((137438953472 : Int) + (100 : Int) +
 (20 : Int) * ((52 : Int) - (↑a'.1 : Int))) ∧
 Cm.playE p act tb r =
 Cm.playGo act (Cm.playG p r) (Cm.playT p tb r) a'.1 a'.2) ∧
 a'.1 < a.1) ∧
 (([] : Go.Am.Pth) = [] ∧
 Cm.playG p r = Cm.playG p r ∧
 ([] : Go.Am.Pth) = [] ∧
 Cm.playT p tb r = Cm.playT p tb r ∧
 (↑a'.1 : Int) =
 IntKind.wrap IntKind.i64 ((↑a.1 : Int) - (1 : Int))) ∧
 a'.2.2 =
 List.append (List.append a.2.2 [(act a.2.1 (Cm.playG p r)).2])
 [((5 : Int), (act a.2.1 (Cm.playG p r)).2.2.1, (0 : Int),
 (0 : Int), (0 : Int))] ∧
 a'.2.1.1 = (act a.2.1 (Cm.playG p r)).1.1 ∧
 a'.2.1.2 = (act a.2.1 (Cm.playG p r)).1.2)
 (∃ (a' : Nat × R × List Cm.A),
 (((a'.1 ≤ (52 : Nat) ∧ List.length a'.2.2 ≤ (60 : Nat)) ∧
 rdOk a'.2.1
 ((137438953472 : Int) + (100 : Int) +
 (20 : Int) * ((52 : Int) - (↑a'.1 : Int))) ∧
 Cm.playE p act tb r =
 Cm.playGo act (Cm.playG p r) (Cm.playT p tb r) a'.1 a'.2) ∧
 a'.1 < a.1) ∧
 (([] : Go.Am.Pth) = [] ∧
 Cm.playG p r = Cm.playG p r ∧
 ([] : Go.Am.Pth) = [] ∧
 Cm.playT p tb r = Cm.playT p tb r ∧
 (↑a'.1 : Int) =
 IntKind.wrap IntKind.i64 ((↑a.1 : Int) - (1 : Int))) ∧
 a'.2.2 = List.append a.2.2 [(act a.2.1 (Cm.playG p r)).2] ∧
 a'.2.1.1 = (act a.2.1 (Cm.playG p r)).1.1 ∧
 a'.2.1.2 = (act a.2.1 (Cm.playG p r)).1.2))
 (Cm.playG p r = (Cm.playM p act tb r).2.1 ∧
 a.2.2 = (Cm.playM p act tb r).2.2 ∧ a.2.1 = (Cm.playM p act tb r).1 ∧ True))
 (rdOk (r.1, Cm.inc (Cm.inc r.2)) (1099511627776 : Int) ∧
 rdOk (r.1, Cm.inc (Cm.inc (Cm.inc r.2))) (1099511627776 : Int) ∧
 (∃ (a : Nat × R × List Cm.A),
 ((a.1 ≤ (52 : Nat) ∧ List.length a.2.2 ≤ (60 : Nat)) ∧
 rdOk a.2.1 ((137438953472 : Int) + (100 : Int) + (20 : Int) * ((52 : Int) - (↑a.1 : Int))) ∧
 Cm.playE p act tb r = Cm.playGo act (Cm.playG p r) (Cm.playT p tb r) a.1 a.2) ∧
 (([] : Go.Am.Pth) = [] ∧
 Cm.playG p r = IntKind.wrap IntKind.i64 ((1 : Int) + p r (2 : Int)) ∧
 ([] : Go.Am.Pth) = [] ∧
 Cm.playT p tb r = decide (p (r.1, Cm.inc (Cm.inc r.2)) (4 : Int) > (0 : Int)) ∧
 (↑a.1 : Int) = p (r.1, Cm.inc (Cm.inc (Cm.inc r.2))) (52 : Int)) ∧
 a.2.2 = [] ∧ a.2.1.1 = r.1 ∧ a.2.1.2 = Cm.inc (Cm.inc (Cm.inc (Cm.inc r.2)))) ∧
 ∀ (a : Nat × R × List Cm.A),
 (a.1 ≤ (52 : Nat) ∧ List.length a.2.2 ≤ (60 : Nat)) ∧
 rdOk a.2.1 ((137438953472 : Int) + (100 : Int) + (20 : Int) * ((52 : Int) - (↑a.1 : Int))) ∧
 Cm.playE p act tb r = Cm.playGo act (Cm.playG p r) (Cm.playT p tb r) a.1 a.2 →
 (decide ((↑a.1 : Int) > (0 : Int)) = true → decide ((↑a.1 : Int) > (0 : Int)) = true) ∧
 (decide ((↑a.1 : Int) > (0 : Int)) = true → decide ((↑a.1 : Int) > (0 : Int)) = true) ∧
 (decide ((↑a.1 : Int) > (0 : Int)) = true → decide ((↑a.1 : Int) > (0 : Int)) = true) ∧
 ifb (decide ((↑a.1 : Int) > (0 : Int)) && decide ((↑(List.length a.2.2) : Int) < (58 : Int)))
 ((rdOk a.2.1 (274877906944 : Int) ∧ (1 : Int) ≤ Cm.playG p r ∧ Cm.playG p r ≤ (100 : Int)) ∧
 (List.length a.2.2 + (1 : Nat)) * nat_lit 40 ≤ (140737488355328 : Nat) ∧
 (Cm.playT p tb r = true → Cm.playT p tb r = true) ∧
 (Cm.playT p tb r = true → Cm.playT p tb r = true) ∧
 (Cm.playT p tb r = true → Cm.playT p tb r = true) ∧
 ((Cm.playT p tb r && (act a.2.1 (Cm.playG p r)).2.1 == (2 : Int)) = true →
 (Cm.playT p tb r && (act a.2.1 (Cm.playG p r)).2.1 == (2 : Int)) = true) ∧
 ((Cm.playT p tb r && (act a.2.1 (Cm.playG p r)).2.1 == (2 : Int)) = true →
 (Cm.playT p tb r && (act a.2.1 (Cm.playG p r)).2.1 == (2 : Int)) = true) ∧
 ((Cm.playT p tb r && (act a.2.1 (Cm.playG p r)).2.1 == (2 : Int)) = true →
 (Cm.playT p tb r && (act a.2.1 (Cm.playG p r)).2.1 == (2 : Int)) = true) ∧
 ifb
 (Cm.playT p tb r && (act a.2.1 (Cm.playG p r)).2.1 == (2 : Int) &&
 decide ((act a.2.1 (Cm.playG p r)).2.2.2.1 < (2 : Int)))
 ((List.length (List.append a.2.2 [(act a.2.1 (Cm.playG p r)).2]) +
 (1 : Nat)) *
 nat_lit 40 ≤
 (140737488355328 : Nat) ∧
 ∃ (a' : Nat × R × List Cm.A),
 (((a'.1 ≤ (52 : Nat) ∧ List.length a'.2.2 ≤ (60 : Nat)) ∧
 rdOk a'.2.1
 ((137438953472 : Int) + (100 : Int) +
 (20 : Int) * ((52 : Int) - (↑a'.1 : Int))) ∧
 Cm.playE p act tb r =
 Cm.playGo act (Cm.playG p r) (Cm.playT p tb r) a'.1 a'.2) ∧
 a'.1 < a.1) ∧
 (([] : Go.Am.Pth) = [] ∧
 Cm.playG p r = Cm.playG p r ∧
 ([] : Go.Am.Pth) = [] ∧
 Cm.playT p tb r = Cm.playT p tb r ∧
 (↑a'.1 : Int) =
 IntKind.wrap IntKind.i64 ((↑a.1 : Int) - (1 : Int))) ∧
 a'.2.2 =
 List.append (List.append a.2.2 [(act a.2.1 (Cm.playG p r)).2])
 [((5 : Int), (act a.2.1 (Cm.playG p r)).2.2.1, (0 : Int),
 (0 : Int), (0 : Int))] ∧
 a'.2.1.1 = (act a.2.1 (Cm.playG p r)).1.1 ∧
 a'.2.1.2 = (act a.2.1 (Cm.playG p r)).1.2)
 (∃ (a' : Nat × R × List Cm.A),
 (((a'.1 ≤ (52 : Nat) ∧ List.length a'.2.2 ≤ (60 : Nat)) ∧
 rdOk a'.2.1
 ((137438953472 : Int) + (100 : Int) +
 (20 : Int) * ((52 : Int) - (↑a'.1 : Int))) ∧
 Cm.playE p act tb r =
 Cm.playGo act (Cm.playG p r) (Cm.playT p tb r) a'.1 a'.2) ∧
 a'.1 < a.1) ∧
 (([] : Go.Am.Pth) = [] ∧
 Cm.playG p r = Cm.playG p r ∧
 ([] : Go.Am.Pth) = [] ∧
 Cm.playT p tb r = Cm.playT p tb r ∧
 (↑a'.1 : Int) =
 IntKind.wrap IntKind.i64 ((↑a.1 : Int) - (1 : Int))) ∧
 a'.2.2 = List.append a.2.2 [(act a.2.1 (Cm.playG p r)).2] ∧
 a'.2.1.1 = (act a.2.1 (Cm.playG p r)).1.1 ∧
 a'.2.1.2 = (act a.2.1 (Cm.playG p r)).1.2))
 (Cm.playG p r = (Cm.playM p act tb r).2.1 ∧
 a.2.2 = (Cm.playM p act tb r).2.2 ∧ a.2.1 = (Cm.playM p act tb r).1 ∧ True))) := by kernel_rfl
theorem vc20 (b : List Int) : (FGA (Es p act tb) Try.f20 (sDrawTidy fun b => (Cm.playM p act tb (Cm.cut2 b, 0)).2.2) [⟨.sl (.int .u8), b⟩] no) = (
 True ∧
 rdOk (Cm.cut2 b, (0 : Int)) (137438953472 : Int) ∧
 (Cm.playM p act tb (Cm.cut2 b, (0 : Int))).2.2 = (Cm.playM p act tb (Cm.cut2 b, (0 : Int))).2.2 ∧ True) := by kernel_rfl
end Go.Proofs.Ytcfmelkegjpciaa.T

open Go Go.Am Go.Proofs
open Go.Cm (R rdOk)
namespace Go.Proofs.Ytcfmelkegjpciaa.T
set_option maxHeartbeats 0
set_option maxRecDepth 100000
variable (D : List Int → List Cm.A)
def Et : Env := En (Go.Am.look [] [(18, [sTidy]), (16, [sTidy]), (20, [sDrawTidy D])])
def E22 : Env := En (Go.Am.look [] [(22, [sWithout])])
def Ep6 : Env := En (Go.Am.look [] [(18, [sTidy]), (16, [sTidy]), (20, [sDrawTidy D]), (21, [sJust]), (22, [sWithout])])
def an22 (l : List Cm.A) : Ann := .mk Nat (fun i => ⟨[(0, .vsl kA l), (3, .rf 1000 0 0 []), (4, .int .i64 (i : Int))], [(1000, ⟨0, 0, some ⟨kA, Cm.ownL (l.take i), true⟩, none⟩)], []⟩) (fun i => l.length - i)
  (fun i => i ≤ l.length) fun _ _ => .none
def an21 (l : List Cm.A) (g : Int) : Ann := .mk Nat (fun i => ⟨[(0, .vsl kA l), (1, .int .i64 g), (5, .rf 1000 0 0 []), (6, .int .i64 (i : Int))], [(1000, ⟨0, 0, some ⟨kA, Cm.justL g (l.take i), true⟩, none⟩)], []⟩) (fun i => l.length - i)
  (fun i => i ≤ l.length) fun _ _ => .none
def an6 (l : List Cm.A) : Ann := .mk Nat (fun i => ⟨[(3, .rf 1001 0 0 []), (4, .bool (Cm.tidy l)), (5, .rf 1000 0 0 []), (6, .int .i64 (i : Int))], [(1001, ⟨0, 0, some ⟨kA, l, true⟩, none⟩), (1000, ⟨0, 0, some ⟨kA, Cm.madeL (l.take i), true⟩, none⟩)], []⟩) (fun i => l.length - i)
  (fun i => i ≤ l.length) fun _ _ => .none
theorem vc22 (l : List Cm.A) : (FGA E0 Try.f22 sWithout [⟨kAs, l⟩] (fun _ => an22 l)) = (
 (∃ (a : Nat), a ≤ List.length l ∧ (l = l ∧ ([] : Go.Am.Pth) = [] ∧ (↑a : Int) = (0 : Int)) ∧ Cm.ownL (List.take a l) = [] ∧ True) ∧
 ∀ (a : Nat),
 a ≤ List.length l →
 ifb (decide ((↑a : Int) < (↑(List.length l) : Int)))
 (((0 : Int) ≤ (↑a : Int) ∧ (↑a : Int) < (↑(List.length l) : Int)) ∧
 (decide ((List.getD l a Cm.a0).1 ≥ (1 : Int)) = true →
 decide ((List.getD l a Cm.a0).1 ≥ (1 : Int)) = true) ∧
 (decide ((List.getD l a Cm.a0).1 ≥ (1 : Int)) = true →
 decide ((List.getD l a Cm.a0).1 ≥ (1 : Int)) = true) ∧
 (decide ((List.getD l a Cm.a0).1 ≥ (1 : Int)) = true →
 (0 : Int) ≤ (↑a : Int) ∧ (↑a : Int) < (↑(List.length l) : Int)) ∧
 (decide ((List.getD l a Cm.a0).1 ≥ (1 : Int)) = true →
 decide ((List.getD l a Cm.a0).1 ≥ (1 : Int)) =
 true) ∧
 (decide ((List.getD l a Cm.a0).1 ≥ (1 : Int)) =
 true →
 decide ((List.getD l a Cm.a0).1 ≥ (1 : Int)) =
 true) ∧
 (decide ((List.getD l a Cm.a0).1 ≥ (1 : Int)) =
 true →
 decide ((List.getD l a Cm.a0).1 ≥ (1 : Int)) =
 true) ∧
 (decide ((List.getD l a Cm.a0).1 ≥ (1 : Int)) =
 true →
 decide
 ((List.getD l a Cm.a0).1 ≥ (1 : Int)) =
 true) ∧
 ifb
 (decide
 ((List.getD l a Cm.a0).1 ≥ (1 : Int)) &&
 decide
 ((List.getD l a Cm.a0).1 ≤ (5 : Int)))
 (((0 : Int) ≤ (↑a : Int) ∧ (↑a : Int) < (↑(List.length l) : Int)) ∧
 (List.length (Cm.ownL (List.take a l)) + (1 : Nat)) * nat_lit 40 ≤ (140737488355328 : Nat) ∧
 ∃ (a' : Nat),
 (a' ≤ List.length l ∧ List.length l - a' < List.length l - a) ∧
 (l = l ∧ ([] : Go.Am.Pth) = [] ∧ (↑a' : Int) = IntKind.wrap IntKind.i64 ((↑a : Int) + (1 : Int))) ∧
 Cm.ownL (List.take a' l) =
 List.append (Cm.ownL (List.take a l))
 [List.getD l a Cm.a0] ∧
 True)
 (∃ (a' : Nat),
 (a' ≤ List.length l ∧ List.length l - a' < List.length l - a) ∧
 (l = l ∧ ([] : Go.Am.Pth) = [] ∧ (↑a' : Int) = IntKind.wrap IntKind.i64 ((↑a : Int) + (1 : Int))) ∧
 Cm.ownL (List.take a' l) = Cm.ownL (List.take a l) ∧ True))
 (Cm.ownL (List.take a l) = Cm.ownL l ∧ True)) := by kernel_rfl
theorem vc21 (l : List Cm.A) (g : Int) : (FGA E22 Try.f21 sJust [⟨kAs, l⟩, ⟨kI, g⟩] (fun _ => an21 l g)) = (
 (∃ (a : Nat),
 a ≤ List.length l ∧ (l = l ∧ g = g ∧ ([] : Go.Am.Pth) = [] ∧ (↑a : Int) = (0 : Int)) ∧ Cm.justL g (List.take a l) = [] ∧ True) ∧
 ∀ (a : Nat),
 a ≤ List.length l →
 ifb (decide ((↑a : Int) < (↑(List.length l) : Int)))
 (((0 : Int) ≤ (↑a : Int) ∧ (↑a : Int) < (↑(List.length l) : Int)) ∧
 ifb ((List.getD l a Cm.a0).2.1 == g)
 (((0 : Int) ≤ (↑a : Int) ∧ (↑a : Int) < (↑(List.length l) : Int)) ∧
 (List.length (Cm.justL g (List.take a l)) + (1 : Nat)) * nat_lit 40 ≤ (140737488355328 : Nat) ∧
 ∃ (a' : Nat),
 (a' ≤ List.length l ∧ List.length l - a' < List.length l - a) ∧
 (l = l ∧ g = g ∧ ([] : Go.Am.Pth) = [] ∧ (↑a' : Int) = IntKind.wrap IntKind.i64 ((↑a : Int) + (1 : Int))) ∧
 Cm.justL g (List.take a' l) =
 List.append (Cm.justL g (List.take a l))
 [List.getD l a Cm.a0] ∧
 True)
 (∃ (a' : Nat),
 (a' ≤ List.length l ∧ List.length l - a' < List.length l - a) ∧
 (l = l ∧ g = g ∧ ([] : Go.Am.Pth) = [] ∧ (↑a' : Int) = IntKind.wrap IntKind.i64 ((↑a : Int) + (1 : Int))) ∧
 Cm.justL g (List.take a' l) = Cm.justL g (List.take a l) ∧ True))
 (List.length (Cm.justL g (List.take a l)) ≤ (16777216 : Nat) ∧
 Cm.ownL (Cm.justL g (List.take a l)) = Cm.ownL (Cm.justL g l) ∧ True)) := by kernel_rfl
theorem vc4 (b m : List Int) : (FGA (Et D) Try.f4 sLawBB [⟨kU, b⟩, ⟨kU, m⟩] no) = (
 ((!decide ((↑(List.length b) : Int) > (1048576 : Int))) = true →
 (!decide ((↑(List.length b) : Int) > (1048576 : Int))) = true) ∧
 ((!decide ((↑(List.length b) : Int) > (1048576 : Int))) = true →
 (!decide ((↑(List.length b) : Int) > (1048576 : Int))) = true) ∧
 (decide ((↑(List.length b) : Int) > (1048576 : Int)) = false →
 (!decide ((↑(List.length b) : Int) > (1048576 : Int))) = true) ∧
 ifb (decide ((↑(List.length b) : Int) > (1048576 : Int)) || decide ((↑(List.length m) : Int) > (1048576 : Int)))
 (true = true ∧ True)
 (Cm.bytes b ∧
 List.length (D b) ≤ (16777216 : Nat) ∧
 List.length (D b) ≤ (16777216 : Nat) ∧
 ((!!Cm.tidy (D b) == Cm.tidy (D b)) = true → (!!Cm.tidy (D b) == Cm.tidy (D b)) = true) ∧
 ((!Cm.tidy (D b) == Cm.tidy (D b)) = false → (!!Cm.tidy (D b) == Cm.tidy (D b)) = true) ∧
 ifb (!Cm.tidy (D b) == Cm.tidy (D b) || !Cm.tidy (D b))
 (List.length (D b) ≤ (16777216 : Nat) ∧ (Cm.tidy (D b) == Cm.tidy (D b)) = true ∧ True)
 (IntKind.wrap IntKind.i64 ((↑(List.length (D b)) : Int) + (1 : Int)) ≠ (0 : Int) ∧
 ((0 : Int) ≤ (0 : Int) ∧
 (0 : Int) ≤
 Int.tmod (↑(List.length m) : Int)
 (IntKind.wrap IntKind.i64 ((↑(List.length (D b)) : Int) + (1 : Int))) ∧
 Int.tmod (↑(List.length m) : Int)
 (IntKind.wrap IntKind.i64 ((↑(List.length (D b)) : Int) + (1 : Int))) ≤
 (↑(List.length (D b)) : Int)) ∧
 List.length
 (List.take
 (Int.toNat
 (Int.tmod (↑(List.length m) : Int)
 (IntKind.wrap IntKind.i64 ((↑(List.length (D b)) : Int) + (1 : Int)))))
 (D b)) ≤
 (16777216 : Nat) ∧
 (Cm.tidy
 (List.take
 (Int.toNat
 (Int.tmod (↑(List.length m) : Int)
 (IntKind.wrap IntKind.i64 ((↑(List.length (D b)) : Int) + (1 : Int)))))
 (D b)) =
 true →
 Cm.tidy
 (List.take
 (Int.toNat
 (Int.tmod (↑(List.length m) : Int)
 (IntKind.wrap IntKind.i64 ((↑(List.length (D b)) : Int) + (1 : Int)))))
 (D b)) =
 true) ∧
 (Cm.tidy
 (List.take
 (Int.toNat
 (Int.tmod (↑(List.length m) : Int)
 (IntKind.wrap IntKind.i64 ((↑(List.length (D b)) : Int) + (1 : Int)))))
 (D b)) =
 true →
 Cm.tidy
 (List.take
 (Int.toNat
 (Int.tmod (↑(List.length m) : Int)
 (IntKind.wrap IntKind.i64 ((↑(List.length (D b)) : Int) + (1 : Int)))))
 (D b)) =
 true) ∧
 (Cm.tidy
 (List.take
 (Int.toNat
 (Int.tmod (↑(List.length m) : Int)
 (IntKind.wrap IntKind.i64 ((↑(List.length (D b)) : Int) + (1 : Int)))))
 (D b)) =
 true →
 (0 : Int) ≤
 Int.tmod (↑(List.length m) : Int)
 (IntKind.wrap IntKind.i64 ((↑(List.length (D b)) : Int) + (1 : Int))) ∧
 Int.tmod (↑(List.length m) : Int)
 (IntKind.wrap IntKind.i64 ((↑(List.length (D b)) : Int) + (1 : Int))) ≤
 (↑(List.length (D b)) : Int) ∧
 (↑(List.length (D b)) : Int) ≤ (↑(List.length (D b)) : Int)) ∧
 (Cm.tidy
 (List.take
 (Int.toNat
 (Int.tmod (↑(List.length m) : Int)
 (IntKind.wrap IntKind.i64 ((↑(List.length (D b)) : Int) + (1 : Int)))))
 (D b)) =
 true →
 Cm.tidy
 (List.take
 (Int.toNat
 (Int.tmod (↑(List.length m) : Int)
 (IntKind.wrap IntKind.i64 ((↑(List.length (D b)) : Int) + (1 : Int)))))
 (D b)) =
 true) ∧
 (Cm.tidy
 (List.take
 (Int.toNat
 (Int.tmod (↑(List.length m) : Int)
 (IntKind.wrap IntKind.i64 ((↑(List.length (D b)) : Int) + (1 : Int)))))
 (D b)) =
 true →
 List.length
 (List.drop
 (Int.toNat
 (Int.tmod (↑(List.length m) : Int)
 (IntKind.wrap IntKind.i64 ((↑(List.length (D b)) : Int) + (1 : Int)))))
 (List.take (List.length (D b)) (D b))) ≤
 (16777216 : Nat)) ∧
 (Cm.tidy
 (List.take
 (Int.toNat
 (Int.tmod (↑(List.length m) : Int)
 (IntKind.wrap IntKind.i64
 ((↑(List.length (D b)) : Int) + (1 : Int)))))
 (D b)) =
 true →
 Cm.tidy
 (List.take
 (Int.toNat
 (Int.tmod (↑(List.length m) : Int)
 (IntKind.wrap IntKind.i64
 ((↑(List.length (D b)) : Int) + (1 : Int)))))
 (D b)) =
 true) ∧
 (Cm.tidy
 (List.take
 (Int.toNat
 (Int.tmod (↑(List.length m) : Int)
 (IntKind.wrap IntKind.i64
 ((↑(List.length (D b)) : Int) + (1 : Int)))))
 (D b)) &&
 Cm.tidy
 (List.drop
 (Int.toNat
 (Int.tmod (↑(List.length m) : Int)
 (IntKind.wrap IntKind.i64
 ((↑(List.length (D b)) : Int) + (1 : Int)))))
 (List.take (List.length (D b)) (D b)))) =
 true ∧
 True))) := by kernel_rfl
theorem vc5 (b m : List Int) : (FGA (Et D) Try.f5 sLawBB [⟨kU, b⟩, ⟨kU, m⟩] no) = (
 ((!decide ((↑(List.length b) : Int) > (1048576 : Int))) = true →
 (!decide ((↑(List.length b) : Int) > (1048576 : Int))) = true) ∧
 ((!decide ((↑(List.length b) : Int) > (1048576 : Int))) = true →
 (!decide ((↑(List.length b) : Int) > (1048576 : Int))) = true) ∧
 (decide ((↑(List.length b) : Int) > (1048576 : Int)) = false →
 (!decide ((↑(List.length b) : Int) > (1048576 : Int))) = true) ∧
 ifb (decide ((↑(List.length b) : Int) > (1048576 : Int)) || decide ((↑(List.length m) : Int) > (1048576 : Int)))
 (true = true ∧ True)
 (Cm.bytes b ∧
 List.length (D b) ≤ (16777216 : Nat) ∧
 List.length (D b) ≤ (16777216 : Nat) ∧
 ifb (!Cm.tidy (D b) == Cm.tidy (D b)) (false = true ∧ True)
 ((2 : Int) ≠ (0 : Int) ∧
 (2 : Int) ≠ (0 : Int) ∧
 ((0 : Nat) + List.length (D b)) * nat_lit 40 ≤ (140737488355328 : Nat) ∧
 (List.length (D b) + (2 : Nat)) * nat_lit 40 ≤ (140737488355328 : Nat) ∧
 ((0 : Nat) +
 List.length
 (List.append (D b)
 [((5 : Int), (0 : Int), (0 : Int), (0 : Int), (0 : Int)),
 ((5 : Int), (1 : Int), (0 : Int), (0 : Int), (0 : Int))])) *
 nat_lit 40 ≤
 (140737488355328 : Nat) ∧
 (List.length
 (List.append (D b)
 [((5 : Int), (0 : Int), (0 : Int), (0 : Int), (0 : Int)),
 ((5 : Int), (1 : Int), (0 : Int), (0 : Int), (0 : Int))]) +
 (2 : Nat)) *
 nat_lit 40 ≤
 (140737488355328 : Nat) ∧
 ((0 : Nat) +
 List.length
 (List.append (D b)
 [((5 : Int), (0 : Int), (0 : Int), (0 : Int), (0 : Int)),
 ((5 : Int), (1 : Int), (0 : Int), (0 : Int), (0 : Int))])) *
 nat_lit 40 ≤
 (140737488355328 : Nat) ∧
 (List.length
 (List.append (D b)
 [((5 : Int), (0 : Int), (0 : Int), (0 : Int), (0 : Int)),
 ((5 : Int), (1 : Int), (0 : Int), (0 : Int), (0 : Int))]) +
 (3 : Nat)) *
 nat_lit 40 ≤
 (140737488355328 : Nat) ∧
 List.length
 (List.append
 (List.append (D b)
 [((5 : Int), (0 : Int), (0 : Int), (0 : Int), (0 : Int)),
 ((5 : Int), (1 : Int), (0 : Int), (0 : Int), (0 : Int))])
 [((2 : Int), Int.tmod (↑(List.length m) : Int) (2 : Int),
 Int.tmod (↑(List.length m) : Int) (2 : Int), (0 : Int), (5 : Int)),
 ((3 : Int), Int.tmod (↑(List.length m) : Int) (2 : Int), (0 : Int), (0 : Int),
 (0 : Int))]) ≤
 (16777216 : Nat) ∧
 ((!Cm.tidy
 (List.append
 (List.append (D b)
 [((5 : Int), (0 : Int), (0 : Int), (0 : Int), (0 : Int)),
 ((5 : Int), (1 : Int), (0 : Int), (0 : Int), (0 : Int))])
 [((2 : Int), Int.tmod (↑(List.length m) : Int) (2 : Int),
 Int.tmod (↑(List.length m) : Int) (2 : Int), (0 : Int), (5 : Int)),
 ((3 : Int), Int.tmod (↑(List.length m) : Int) (2 : Int), (0 : Int),
 (0 : Int), (0 : Int))])) =
 true →
 (!Cm.tidy
 (List.append
 (List.append (D b)
 [((5 : Int), (0 : Int), (0 : Int), (0 : Int), (0 : Int)),
 ((5 : Int), (1 : Int), (0 : Int), (0 : Int), (0 : Int))])
 [((2 : Int), Int.tmod (↑(List.length m) : Int) (2 : Int),
 Int.tmod (↑(List.length m) : Int) (2 : Int), (0 : Int), (5 : Int)),
 ((3 : Int), Int.tmod (↑(List.length m) : Int) (2 : Int), (0 : Int),
 (0 : Int), (0 : Int))])) =
 true) ∧
 ((!Cm.tidy
 (List.append
 (List.append (D b)
 [((5 : Int), (0 : Int), (0 : Int), (0 : Int), (0 : Int)),
 ((5 : Int), (1 : Int), (0 : Int), (0 : Int), (0 : Int))])
 [((2 : Int), Int.tmod (↑(List.length m) : Int) (2 : Int),
 Int.tmod (↑(List.length m) : Int) (2 : Int), (0 : Int), (5 : Int)),
 ((3 : Int), Int.tmod (↑(List.length m) : Int) (2 : Int), (0 : Int),
 (0 : Int), (0 : Int))])) =
 true →
 List.length
 (List.append
 (List.append (D b)
 [((5 : Int), (0 : Int), (0 : Int), (0 : Int), (0 : Int)),
 ((5 : Int), (1 : Int), (0 : Int), (0 : Int), (0 : Int))])
 [((2 : Int), Int.tmod (↑(List.length m) : Int) (2 : Int),
 Int.tmod (↑(List.length m) : Int) (2 : Int), (0 : Int), (5 : Int)),
 ((5 : Int), Int.tmod (↑(List.length m) : Int) (2 : Int), (0 : Int),
 (0 : Int), (0 : Int)),
 ((3 : Int), Int.tmod (↑(List.length m) : Int) (2 : Int), (0 : Int),
 (0 : Int), (0 : Int))]) ≤
 (16777216 : Nat)) ∧
 ((!Cm.tidy
 (List.append
 (List.append (D b)
 [((5 : Int), (0 : Int), (0 : Int), (0 : Int), (0 : Int)),
 ((5 : Int), (1 : Int), (0 : Int), (0 : Int), (0 : Int))])
 [((2 : Int), Int.tmod (↑(List.length m) : Int) (2 : Int),
 Int.tmod (↑(List.length m) : Int) (2 : Int), (0 : Int),
 (5 : Int)),
 ((3 : Int), Int.tmod (↑(List.length m) : Int) (2 : Int), (0 : Int),
 (0 : Int), (0 : Int))])) =
 true →
 (!Cm.tidy
 (List.append
 (List.append (D b)
 [((5 : Int), (0 : Int), (0 : Int), (0 : Int), (0 : Int)),
 ((5 : Int), (1 : Int), (0 : Int), (0 : Int), (0 : Int))])
 [((2 : Int), Int.tmod (↑(List.length m) : Int) (2 : Int),
 Int.tmod (↑(List.length m) : Int) (2 : Int), (0 : Int),
 (5 : Int)),
 ((3 : Int), Int.tmod (↑(List.length m) : Int) (2 : Int), (0 : Int),
 (0 : Int), (0 : Int))])) =
 true) ∧
 ((!Cm.tidy
 (List.append
 (List.append (D b)
 [((5 : Int), (0 : Int), (0 : Int), (0 : Int), (0 : Int)),
 ((5 : Int), (1 : Int), (0 : Int), (0 : Int), (0 : Int))])
 [((2 : Int), Int.tmod (↑(List.length m) : Int) (2 : Int),
 Int.tmod (↑(List.length m) : Int) (2 : Int), (0 : Int),
 (5 : Int)),
 ((3 : Int), Int.tmod (↑(List.length m) : Int) (2 : Int),
 (0 : Int), (0 : Int), (0 : Int))])) =
 true →
 List.length
 (List.append (D b)
 [((5 : Int), (0 : Int), (0 : Int), (0 : Int), (0 : Int)),
 ((5 : Int), (1 : Int), (0 : Int), (0 : Int), (0 : Int))]) ≤
 (16777216 : Nat)) ∧
 ((!Cm.tidy
 (List.append
 (List.append (D b)
 [((5 : Int), (0 : Int), (0 : Int), (0 : Int), (0 : Int)),
 ((5 : Int), (1 : Int), (0 : Int), (0 : Int), (0 : Int))])
 [((2 : Int), Int.tmod (↑(List.length m) : Int) (2 : Int),
 Int.tmod (↑(List.length m) : Int) (2 : Int), (0 : Int),
 (5 : Int)),
 ((3 : Int), Int.tmod (↑(List.length m) : Int) (2 : Int),
 (0 : Int), (0 : Int), (0 : Int))])) =
 true →
 (!Cm.tidy
 (List.append
 (List.append (D b)
 [((5 : Int), (0 : Int), (0 : Int), (0 : Int), (0 : Int)),
 ((5 : Int), (1 : Int), (0 : Int), (0 : Int), (0 : Int))])
 [((2 : Int), Int.tmod (↑(List.length m) : Int) (2 : Int),
 Int.tmod (↑(List.length m) : Int) (2 : Int), (0 : Int),
 (5 : Int)),
 ((3 : Int), Int.tmod (↑(List.length m) : Int) (2 : Int),
 (0 : Int), (0 : Int), (0 : Int))])) =
 true) ∧
 ((!Cm.tidy
 (List.append
 (List.append (D b)
 [((5 : Int), (0 : Int), (0 : Int), (0 : Int), (0 : Int)),
 ((5 : Int), (1 : Int), (0 : Int), (0 : Int), (0 : Int))])
 [((2 : Int), Int.tmod (↑(List.length m) : Int) (2 : Int),
 Int.tmod (↑(List.length m) : Int) (2 : Int), (0 : Int),
 (5 : Int)),
 ((3 : Int), Int.tmod (↑(List.length m) : Int) (2 : Int),
 (0 : Int), (0 : Int), (0 : Int))])) =
 true →
 (!Cm.tidy
 (List.append
 (List.append (D b)
 [((5 : Int), (0 : Int), (0 : Int), (0 : Int), (0 : Int)),
 ((5 : Int), (1 : Int), (0 : Int), (0 : Int), (0 : Int))])
 [((2 : Int), Int.tmod (↑(List.length m) : Int) (2 : Int),
 Int.tmod (↑(List.length m) : Int) (2 : Int), (0 : Int),
 (5 : Int)),
 ((3 : Int), Int.tmod (↑(List.length m) : Int) (2 : Int),
 (0 : Int), (0 : Int), (0 : Int))])) =
 true) ∧
 ((!Cm.tidy
 (List.append
 (List.append (D b)
 [((5 : Int), (0 : Int), (0 : Int), (0 : Int), (0 : Int)),
 ((5 : Int), (1 : Int), (0 : Int), (0 : Int), (0 : Int))])
 [((2 : Int), Int.tmod (↑(List.length m) : Int) (2 : Int),
 Int.tmod (↑(List.length m) : Int) (2 : Int), (0 : Int),
 (5 : Int)),
 ((3 : Int), Int.tmod (↑(List.length m) : Int) (2 : Int),
 (0 : Int), (0 : Int), (0 : Int))])) =
 true →
 (!Cm.tidy
 (List.append
 (List.append (D b)
 [((5 : Int), (0 : Int), (0 : Int), (0 : Int), (0 : Int)),
 ((5 : Int), (1 : Int), (0 : Int), (0 : Int), (0 : Int))])
 [((2 : Int), Int.tmod (↑(List.length m) : Int) (2 : Int),
 Int.tmod (↑(List.length m) : Int) (2 : Int), (0 : Int),
 (5 : Int)),
 ((3 : Int), Int.tmod (↑(List.length m) : Int) (2 : Int),
 (0 : Int), (0 : Int), (0 : Int))])) =
 true) ∧
 (!Cm.tidy
 (List.append
 (List.append (D b)
 [((5 : Int), (0 : Int), (0 : Int), (0 : Int), (0 : Int)),
 ((5 : Int), (1 : Int), (0 : Int), (0 : Int),
 (0 : Int))])
 [((2 : Int), Int.tmod (↑(List.length m) : Int) (2 : Int),
 Int.tmod (↑(List.length m) : Int) (2 : Int), (0 : Int),
 (5 : Int)),
 ((3 : Int), Int.tmod (↑(List.length m) : Int) (2 : Int),
 (0 : Int), (0 : Int), (0 : Int))]) &&
 Cm.tidy
 (List.append
 (List.append (D b)
 [((5 : Int), (0 : Int), (0 : Int), (0 : Int), (0 : Int)),
 ((5 : Int), (1 : Int), (0 : Int), (0 : Int),
 (0 : Int))])
 [((2 : Int), Int.tmod (↑(List.length m) : Int) (2 : Int),
 Int.tmod (↑(List.length m) : Int) (2 : Int), (0 : Int),
 (5 : Int)),
 ((5 : Int), Int.tmod (↑(List.length m) : Int) (2 : Int),
 (0 : Int), (0 : Int), (0 : Int)),
 ((3 : Int), Int.tmod (↑(List.length m) : Int) (2 : Int),
 (0 : Int), (0 : Int), (0 : Int))]) ==
 Cm.tidy
 (List.append (D b)
 [((5 : Int), (0 : Int), (0 : Int), (0 : Int), (0 : Int)),
 ((5 : Int), (1 : Int), (0 : Int), (0 : Int),
 (0 : Int))])) =
 true ∧
 True))) := by kernel_rfl
theorem vc6 (b : List Int) : (FGA (Ep6 D) Try.f6 sLawB [⟨kU, b⟩] (fun _ => an6 (D b))) = (
 ifb (decide ((↑(List.length b) : Int) > (1048576 : Int))) (true = true ∧ True)
 (Cm.bytes b ∧
 List.length (D b) ≤ (16777216 : Nat) ∧
 List.length (D b) ≤ (16777216 : Nat) ∧
 ifb (!Cm.tidy (D b) == Cm.tidy (D b)) (false = true ∧ True)
 ((∃ (a : Nat),
 a ≤ List.length (D b) ∧
 (([] : Go.Am.Pth) = [] ∧ Cm.tidy (D b) = Cm.tidy (D b) ∧ ([] : Go.Am.Pth) = [] ∧ (↑a : Int) = (0 : Int)) ∧
 (D b = D b ∧ Cm.madeL (List.take a (D b)) = []) ∧ True) ∧
 ∀ (a : Nat),
 a ≤ List.length (D b) →
 ifb (decide ((↑a : Int) < (↑(List.length (D b)) : Int)))
 (((0 : Int) ≤ (↑a : Int) ∧ (↑a : Int) < (↑(List.length (D b)) : Int)) ∧
 ((0 : Int) ≤ (↑a : Int) ∧ (↑a : Int) < (↑(List.length (D b)) : Int)) ∧
 (List.length (Cm.madeL (List.take a (D b))) + (2 : Nat)) * nat_lit 40 ≤ (140737488355328 : Nat) ∧
 ∃ (a' : Nat),
 (a' ≤ List.length (D b) ∧ List.length (D b) - a' < List.length (D b) - a) ∧
 (([] : Go.Am.Pth) = [] ∧
 Cm.tidy (D b) = Cm.tidy (D b) ∧
 ([] : Go.Am.Pth) = [] ∧ (↑a' : Int) = IntKind.wrap IntKind.i64 ((↑a : Int) + (1 : Int))) ∧
 (D b = D b ∧
 Cm.madeL (List.take a' (D b)) =
 List.append (Cm.madeL (List.take a (D b)))
 [List.getD (D b) a Cm.a0,
 ((5 : Int),
 (List.getD (D b) a
 Cm.a0).2.1,
 (0 : Int), (0 : Int), (0 : Int))]) ∧
 True)
 (List.length (Cm.madeL (List.take a (D b))) ≤ (16777216 : Nat) ∧
 ((!!Cm.tidy (Cm.madeL (List.take a (D b)))) = true → (0 : Nat) ≤ (16777216 : Nat)) ∧
 ((!!Cm.tidy (Cm.madeL (List.take a (D b)))) = true →
 (!!Cm.tidy (Cm.madeL (List.take a (D b)))) = true) ∧
 ((!Cm.tidy (Cm.madeL (List.take a (D b)))) = false →
 (!!Cm.tidy (Cm.madeL (List.take a (D b)))) = true) ∧
 ifb (!Cm.tidy (Cm.madeL (List.take a (D b))) || !Cm.tidy []) (false = true ∧ True)
 (List.length (D b) ≤ (16777216 : Nat) ∧
 List.length (Cm.ownL (Cm.justL (0 : Int) (D b))) ≤ (16777216 : Nat) ∧
 (Cm.tidy (Cm.ownL (Cm.justL (0 : Int) (D b))) = true →
 Cm.tidy (Cm.ownL (Cm.justL (0 : Int) (D b))) = true) ∧
 (Cm.tidy (Cm.ownL (Cm.justL (0 : Int) (D b))) = true →
 List.length (D b) ≤ (16777216 : Nat)) ∧
 (Cm.tidy (Cm.ownL (Cm.justL (0 : Int) (D b))) = true →
 Cm.tidy (Cm.ownL (Cm.justL (0 : Int) (D b))) = true) ∧
 (Cm.tidy (Cm.ownL (Cm.justL (0 : Int) (D b))) = true →
 List.length (Cm.ownL (Cm.justL (1 : Int) (D b))) ≤ (16777216 : Nat)) ∧
 (Cm.tidy (Cm.ownL (Cm.justL (0 : Int) (D b))) = true →
 Cm.tidy (Cm.ownL (Cm.justL (0 : Int) (D b))) = true) ∧
 ((!!Cm.tidy (D b)) = true → (!!Cm.tidy (D b)) = true) ∧
 ((!!Cm.tidy (D b) &&
 (Cm.tidy (Cm.ownL (Cm.justL (0 : Int) (D b))) &&
 Cm.tidy (Cm.ownL (Cm.justL (1 : Int) (D b))))) =
 true →
 (!!Cm.tidy (D b) &&
 (Cm.tidy (Cm.ownL (Cm.justL (0 : Int) (D b))) &&
 Cm.tidy (Cm.ownL (Cm.justL (1 : Int) (D b))))) =
 true) ∧
 ((!!Cm.tidy (D b) &&
 (Cm.tidy (Cm.ownL (Cm.justL (0 : Int) (D b))) &&
 Cm.tidy (Cm.ownL (Cm.justL (1 : Int) (D b))))) =
 true →
 List.length (D b) ≤ (16777216 : Nat)) ∧
 ((!!Cm.tidy (D b) &&
 (Cm.tidy (Cm.ownL (Cm.justL (0 : Int) (D b))) &&
 Cm.tidy (Cm.ownL (Cm.justL (1 : Int) (D b))))) =
 true →
 (!!Cm.tidy (D b) &&
 (Cm.tidy (Cm.ownL (Cm.justL (0 : Int) (D b))) &&
 Cm.tidy (Cm.ownL (Cm.justL (1 : Int) (D b))))) =
 true) ∧
 ((!!Cm.tidy (D b) &&
 (Cm.tidy (Cm.ownL (Cm.justL (0 : Int) (D b))) &&
 Cm.tidy (Cm.ownL (Cm.justL (1 : Int) (D b))))) =
 true →
 List.length (Cm.ownL (D b)) ≤ (16777216 : Nat)) ∧
 ((!!Cm.tidy (D b)) = true → (!!Cm.tidy (D b)) = true) ∧
 ((!!Cm.tidy (D b)) = true →
 (Cm.tidy (Cm.ownL (Cm.justL (0 : Int) (D b))) &&
 Cm.tidy (Cm.ownL (Cm.justL (1 : Int) (D b)))) =
 true →
 (!!Cm.tidy (D b) &&
 (Cm.tidy (Cm.ownL (Cm.justL (0 : Int) (D b))) &&
 Cm.tidy (Cm.ownL (Cm.justL (1 : Int) (D b))))) =
 true) ∧
 ((!Cm.tidy (D b)) = false → (!!Cm.tidy (D b)) = true) ∧
 (!Cm.tidy (D b) ||
 Cm.tidy (Cm.ownL (Cm.justL (0 : Int) (D b))) &&
 Cm.tidy (Cm.ownL (Cm.justL (1 : Int) (D b))) &&
 Cm.tidy (Cm.ownL (D b))) =
 true ∧
 True))))) := by kernel_rfl
end Go.Proofs.Ytcfmelkegjpciaa.T

open Go Go.Am Go.Proofs
open Go.Cm (R rdOk)
namespace Go.Proofs.Ytcfmelkegjpciaa.T
set_option maxHeartbeats 0
set_option maxRecDepth 100000
def an_toP (l : Cm.Pg) : Ann := .mk Nat (fun i => ⟨[(0, .vsl kI l), (3, rf 0), (4, nn (i : Int))], [rt 0 kI (Cm.fill (0 : Int) l i)], []⟩) (fun i => l.length - i) (fun i => i ≤ l.length) fun _ _ => .none
def an_toM (l : Cm.Mm) : Ann := .mk Nat (fun i => ⟨[(0, .vsl kP l), (3, rf 0), (4, nn (i : Int))], [rt 0 kP (Cm.fill ([] : Cm.Pg) l i)], []⟩) (fun i => l.length - i) (fun i => i ≤ l.length) fun _ _ => .none
def an_szM (m : Cm.Mm) (n : Int) : Ann := .mk (Nat × Int) (fun a => ⟨[(0, .vsl kP m), (1, nn a.2), (5, nn (a.1 : Int))], [], []⟩) (fun a => m.length - a.1) (fun a => a.1 ≤ m.length ∧ (0 ≤ a.2 ∧ a.2 ≤ 1048576) ∧ Cm.szLL m n = Cm.szGo (m.drop a.1) a.2) fun _ _ => .none
def an_eqP (a b : Cm.Pg) : Ann := .mk Nat (fun i => ⟨[(0, .vsl kI a), (1, .vsl kI b), (5, nn (i : Int))], [], []⟩) (fun i => a.length - i) (fun i => i ≤ a.length ∧ Cm.eqI a b = Cm.eqI (a.drop i) (b.drop i)) fun _ _ => .none
def an_eqM (a b : Cm.Mm) : Ann := .mk Nat (fun i => ⟨[(0, .vsl kP a), (1, .vsl kP b), (5, nn (i : Int))], [], []⟩) (fun i => a.length - i) (fun i => i ≤ a.length ∧ Cm.eqM a b = Cm.eqM (a.drop i) (b.drop i)) fun _ _ => .none
def an_markP (a : Cm.Pg) (k : Int) : Ann := .mk Nat (fun i => ⟨[(0, .rf 0 0 0 []), (1, nn (k + (i : Int))), (5, nn (i : Int))], [(0, ⟨0, 0, some ⟨kI, (Cm.upFrom k i ++ a.drop i : Cm.Pg), true⟩, none⟩)], []⟩) (fun i => a.length - i) (fun i => i ≤ a.length) fun _ _ => .none
def an_markM (a : Cm.Mm) (k : Int) : Ann := .mk Nat (fun i => ⟨[(0, .rf 0 0 0 []), (1, nn (k + Cm.cnt (a.take i))), (5, nn (i : Int))], [(0, ⟨0, 0, some ⟨kP, (Cm.markM (a.take i) k ++ a.drop i : Cm.Mm), true⟩, none⟩)], []⟩) (fun i => a.length - i) (fun i => i ≤ a.length) fun _ _ => .none
def an_heldP (a : Cm.Pg) (k : Int) : Ann := .mk Nat (fun i => ⟨[(0, .vsl kI a), (1, nn (k + (i : Int))), (5, nn (i : Int))], [], []⟩) (fun i => a.length - i) (fun i => i ≤ a.length ∧ a.take i = Cm.upFrom k i) fun _ _ => .none
def an_heldM (a : Cm.Mm) (k : Int) : Ann := .mk Nat (fun i => ⟨[(0, .vsl kP a), (1, nn (k + Cm.cnt (a.take i))), (5, nn (i : Int))], [], []⟩) (fun i => a.length - i) (fun i => i ≤ a.length ∧ a.take i = Cm.markM (a.take i) k) fun _ _ => .none
def an_copyS (m : Cm.Mm) : Ann := .mk Nat (fun i => ⟨[(0, .vsl kP m), (3, rf 0), (4, nn (i : Int))], [rt 0 kP (m.take i : Cm.Mm)], []⟩) (fun i => m.length - i) (fun i => i ≤ m.length) fun _ _ => .none
def an_copyI (m : Cm.Mm) : Ann := .mk Nat (fun i => ⟨[(7, .vsl kP m), (8, nn m.length), (9, nn (i : Int)), (3, rf 0)], [rt 0 kP (m.take i : Cm.Mm)], []⟩) (fun i => m.length - i) (fun i => i ≤ m.length) fun _ _ => .none
def an_memNew (n : Int) : Ann := .mk Nat (fun i => ⟨[(0, nn n), (3, rf 0), (4, nn (i : Int))], [rt 0 kP (List.replicate i [(0 : Int), 0, 0, 0] : Cm.Mm)], []⟩) (fun i => 6 - i) (fun i => 0 ≤ n ∧ n ≤ 6 ∧ i ≤ n) fun _ _ => .none
def an_okPI (a : Cm.Pg) : Ann := .mk Nat (fun i => ⟨[(0, .vsl kI a), (5, .vsl kI a), (6, nn a.length), (7, nn (i : Int))], [], []⟩) (fun i => a.length - i) (fun i => i ≤ a.length ∧ Cm.allW a = Cm.allW (a.drop i)) fun _ _ => .none
def an_okPS (a : Cm.Pg) : Ann := .mk Nat (fun i => ⟨[(0, .vsl kI a), (3, nn (i : Int))], [], []⟩) (fun i => a.length - i) (fun i => i ≤ a.length ∧ Cm.allW a = Cm.allW (a.drop i)) fun _ _ => .none
def an_okMI (a : Cm.Mm) : Ann := .mk Nat (fun i => ⟨[(5, .vsl kP a), (6, nn a.length), (7, nn (i : Int))], [], []⟩) (fun i => a.length - i) (fun i => i ≤ a.length ∧ Cm.okM a = Cm.okM (a.drop i)) fun _ _ => .none
def an_okMS (a : Cm.Mm) : Ann := .mk Nat (fun i => ⟨[(0, .vsl kP a), (3, nn (i : Int))], [], []⟩) (fun i => a.length - i) (fun i => i ≤ a.length ∧ Cm.okM a = Cm.okM (a.drop i)) fun _ _ => .none
def an_entryOf2 (w : Int) (g : Nat) : Ann := .mk Nat (fun j => ⟨[(0, nn w), (2, pb 0), (3, nn (g : Int)), (14, rf 0), (15, nn 2), (16, nn (j : Int))], [rt 0 kE ([(true, (g : Int), false), (true, (g : Int), true)] : List Cm.E)], [bxv 0 kE Cm.e0]⟩) (fun j => 2 - j) (fun j => j ≤ 2 ∧ ¬ (5 ≤ w ∧ w ≤ 2 * (g : Int) + j)) fun _ _ => .none
def an_entryOf (w : Int) : Ann := .mk Nat (fun g => ⟨[(0, nn w), (2, pb 0), (3, nn (g : Int))], [], [bxv 0 kE Cm.e0]⟩) (fun g => 6 - g) (fun g => (2 ≤ g ∧ g ≤ 6) ∧ ¬ (5 ≤ w ∧ w ≤ 2 * (g : Int))) fun g _ => an_entryOf2 w g
def an_tab2 (a b : Cm.Pg) : Ann := .mk Nat (fun i => ⟨[(0, .vsl kI a), (1, .vsl kI b), (5, rf 0), (6, nn (i : Int))], [rt 0 kE ((Cm.tabGen [a, b]).take i : List Cm.E)], []⟩) (fun i => 6 - i) (fun i => i ≤ 6) fun _ _ => .none
def an_memTab (m : Cm.Mm) : Ann := .mk Nat (fun i => ⟨[(0, .vsl kP m), (3, rf 0), (10, nn (i : Int))], [rt 0 kE ((Cm.tabGen m).take i : List Cm.E)], []⟩) (fun i => 6 - i) (fun i => i ≤ 6) fun _ _ => .none
def E_laws_szIntS : Env := En (Go.Am.look [] [])
theorem vc_laws_szIntS (l : Cm.Pg) (n : Int) : (FGA E_laws_szIntS Try.f71 (sSz kI) [⟨kP, l⟩,  ⟨kI, n⟩] no) = (
 ifb (decide (IntKind.wrap IntKind.i64 (n - (↑(List.length l) : Int)) < (0 : Int))) ((-1 : Int) = Cm.szL l n ∧ True)
 (IntKind.wrap IntKind.i64 (n - (↑(List.length l) : Int)) = Cm.szL l n ∧ True)) := by kernel_rfl
def E_laws_szIntSS : Env := En (Go.Am.look [] [(71, [(sSz kI)])])
theorem vc_laws_szIntSS (m : Cm.Mm) (n : Int) : (FGA E_laws_szIntSS Try.f23 sSzM [⟨kM, m⟩,  ⟨kI, n⟩] (one (an_szM m n))) = (
 ifb (decide (IntKind.wrap IntKind.i64 (n - (↑(List.length m) : Int)) < (0 : Int))) ((-1 : Int) = Cm.szLL m n ∧ True)
 ((∃ (a : Nat × Int),
 (a.1 ≤ List.length m ∧ ((0 : Int) ≤ a.2 ∧ a.2 ≤ (1048576 : Int)) ∧ Cm.szLL m n = Cm.szGo (List.drop a.1 m) a.2) ∧
 (m = m ∧ a.2 = IntKind.wrap IntKind.i64 (n - (↑(List.length m) : Int)) ∧ (↑a.1 : Int) = (0 : Int)) ∧
 True ∧ True) ∧
 ∀ (a : Nat × Int),
 a.1 ≤ List.length m ∧ ((0 : Int) ≤ a.2 ∧ a.2 ≤ (1048576 : Int)) ∧ Cm.szLL m n = Cm.szGo (List.drop a.1 m) a.2 →
 ifb (decide ((↑a.1 : Int) < (↑(List.length m) : Int)))
 (((0 : Int) ≤ (↑a.1 : Int) ∧ (↑a.1 : Int) < (↑(List.length m) : Int)) ∧
 True ∧
 ifb (decide (Cm.szL (List.getD m a.1 []) a.2 < (0 : Int))) ((-1 : Int) = Cm.szLL m n ∧ True)
 (∃ (a' : Nat × Int),
 ((a'.1 ≤ List.length m ∧
 ((0 : Int) ≤ a'.2 ∧ a'.2 ≤ (1048576 : Int)) ∧ Cm.szLL m n = Cm.szGo (List.drop a'.1 m) a'.2) ∧
 List.length m - a'.1 < List.length m - a.1) ∧
 (m = m ∧
 a'.2 = Cm.szL (List.getD m a.1 []) a.2 ∧
 (↑a'.1 : Int) = IntKind.wrap IntKind.i64 ((↑a.1 : Int) + (1 : Int))) ∧
 True ∧ True))
 (a.2 = Cm.szLL m n ∧ True))) := by kernel_rfl
def E_laws_toIntS : Env := En (Go.Am.look [] [])
theorem vc_laws_toIntS (l : Cm.Pg) : (FGA E_laws_toIntS Try.f77 sToP [⟨kP, l⟩] (one (an_toP l))) = (
 ((↑(List.length l) : Int) = (↑(List.length l) : Int) ∧
 (0 : Int) ≤ (↑(List.length l) : Int) ∧ (↑(List.length l) : Int) * (↑(nat_lit 8) : Int) ≤ (140737488355328 : Int)) ∧
 (∃ (a : Nat),
 a ≤ List.length l ∧
 (l = l ∧ ([] : Go.Am.Pth) = [] ∧ (↑a : Int) = (0 : Int)) ∧
 Cm.fill (0 : Int) l a = List.replicate (List.length l) (0 : Int) ∧ True) ∧
 ∀ (a : Nat),
 a ≤ List.length l →
 ifb (decide ((↑a : Int) < (↑(List.length l) : Int)))
 (((0 : Int) ≤ (↑a : Int) ∧ (↑a : Int) < (↑(List.length l) : Int)) ∧
 ((0 : Int) ≤ (↑a : Int) ∧ (↑a : Int) < (↑(List.length (Cm.fill (0 : Int) l a)) : Int)) ∧
 ∃ (a' : Nat),
 (a' ≤ List.length l ∧ List.length l - a' < List.length l - a) ∧
 (l = l ∧ ([] : Go.Am.Pth) = [] ∧ (↑a' : Int) = IntKind.wrap IntKind.i64 ((↑a : Int) + (1 : Int))) ∧
 Cm.fill (0 : Int) l a' = List.set (Cm.fill (0 : Int) l a) a (List.getD l a (0 : Int)) ∧ True)
 (Cm.fill (0 : Int) l a = l ∧ True)) := by kernel_rfl
def E_laws_toIntSS : Env := En (Go.Am.look [] [(77, [sToP])])
theorem vc_laws_toIntSS (m : Cm.Mm) : (FGA E_laws_toIntSS Try.f25 sToM [⟨kM, m⟩] (one (an_toM m))) = (
 ((↑(List.length m) : Int) = (↑(List.length m) : Int) ∧
 (0 : Int) ≤ (↑(List.length m) : Int) ∧ (↑(List.length m) : Int) * (↑(nat_lit 24) : Int) ≤ (140737488355328 : Int)) ∧
 (∃ (a : Nat),
 a ≤ List.length m ∧
 (m = m ∧ ([] : Go.Am.Pth) = [] ∧ (↑a : Int) = (0 : Int)) ∧ Cm.fill [] m a = List.replicate (List.length m) [] ∧ True) ∧
 ∀ (a : Nat),
 a ≤ List.length m →
 ifb (decide ((↑a : Int) < (↑(List.length m) : Int)))
 (((0 : Int) ≤ (↑a : Int) ∧ (↑a : Int) < (↑(List.length m) : Int)) ∧
 List.length (List.getD m a []) ≤ (1048576 : Nat) ∧
 ((0 : Int) ≤ (↑a : Int) ∧ (↑a : Int) < (↑(List.length (Cm.fill [] m a)) : Int)) ∧
 ∃ (a' : Nat),
 (a' ≤ List.length m ∧ List.length m - a' < List.length m - a) ∧
 (m = m ∧ ([] : Go.Am.Pth) = [] ∧ (↑a' : Int) = IntKind.wrap IntKind.i64 ((↑a : Int) + (1 : Int))) ∧
 Cm.fill [] m a' = List.set (Cm.fill [] m a) a (List.getD m a []) ∧ True)
 (Cm.fill [] m a = m ∧ True)) := by kernel_rfl
def E_laws_eqIntS : Env := En (Go.Am.look [] [])
theorem vc_laws_eqIntS (a b : Cm.Pg) : (FGA E_laws_eqIntS Try.f47 sEqP [⟨kP, a⟩,  ⟨kP, b⟩] (one (an_eqP a b))) = (
 ifb ((↑(List.length a) : Int) != (↑(List.length b) : Int)) (false = Cm.eqI a b ∧ True)
 ((∃ (a_1 : Nat),
 (a_1 ≤ List.length a ∧ Cm.eqI a b = Cm.eqI (List.drop a_1 a) (List.drop a_1 b)) ∧
 (a = a ∧ b = b ∧ (↑a_1 : Int) = (0 : Int)) ∧ True ∧ True) ∧
 ∀ (a_1 : Nat),
 a_1 ≤ List.length a ∧ Cm.eqI a b = Cm.eqI (List.drop a_1 a) (List.drop a_1 b) →
 ifb (decide ((↑a_1 : Int) < (↑(List.length a) : Int)))
 (((0 : Int) ≤ (↑a_1 : Int) ∧ (↑a_1 : Int) < (↑(List.length a) : Int)) ∧
 ((0 : Int) ≤ (↑a_1 : Int) ∧ (↑a_1 : Int) < (↑(List.length b) : Int)) ∧
 ifb (List.getD a a_1 (0 : Int) != List.getD b a_1 (0 : Int)) (false = Cm.eqI a b ∧ True)
 (∃ (a' : Nat),
 ((a' ≤ List.length a ∧ Cm.eqI a b = Cm.eqI (List.drop a' a) (List.drop a' b)) ∧
 List.length a - a' < List.length a - a_1) ∧
 (a = a ∧ b = b ∧ (↑a' : Int) = IntKind.wrap IntKind.i64 ((↑a_1 : Int) + (1 : Int))) ∧ True ∧ True))
 (true = Cm.eqI a b ∧ True))) := by kernel_rfl
def E_laws_lkInts : Env := En (Go.Am.look [] [])
theorem vc_laws_lkInts (a b : Cm.Pg) : (FGA E_laws_lkInts Try.f52 sEqP [⟨kP, a⟩,  ⟨kP, b⟩] (one (an_eqP a b))) = (
 ifb ((↑(List.length a) : Int) != (↑(List.length b) : Int)) (false = Cm.eqI a b ∧ True)
 ((∃ (a_1 : Nat),
 (a_1 ≤ List.length a ∧ Cm.eqI a b = Cm.eqI (List.drop a_1 a) (List.drop a_1 b)) ∧
 (a = a ∧ b = b ∧ (↑a_1 : Int) = (0 : Int)) ∧ True ∧ True) ∧
 ∀ (a_1 : Nat),
 a_1 ≤ List.length a ∧ Cm.eqI a b = Cm.eqI (List.drop a_1 a) (List.drop a_1 b) →
 ifb (decide ((↑a_1 : Int) < (↑(List.length a) : Int)))
 (((0 : Int) ≤ (↑a_1 : Int) ∧ (↑a_1 : Int) < (↑(List.length a) : Int)) ∧
 ((0 : Int) ≤ (↑a_1 : Int) ∧ (↑a_1 : Int) < (↑(List.length b) : Int)) ∧
 ifb (List.getD a a_1 (0 : Int) != List.getD b a_1 (0 : Int)) (false = Cm.eqI a b ∧ True)
 (∃ (a' : Nat),
 ((a' ≤ List.length a ∧ Cm.eqI a b = Cm.eqI (List.drop a' a) (List.drop a' b)) ∧
 List.length a - a' < List.length a - a_1) ∧
 (a = a ∧ b = b ∧ (↑a' : Int) = IntKind.wrap IntKind.i64 ((↑a_1 : Int) + (1 : Int))) ∧ True ∧ True))
 (true = Cm.eqI a b ∧ True))) := by kernel_rfl
def E_laws_eqIntSS : Env := En (Go.Am.look [] [(47, [sEqP])])
theorem vc_laws_eqIntSS (a b : Cm.Mm) : (FGA E_laws_eqIntSS Try.f28 sEqM [⟨kM, a⟩,  ⟨kM, b⟩] (one (an_eqM a b))) = (
 ifb ((↑(List.length a) : Int) != (↑(List.length b) : Int)) (false = Cm.eqM a b ∧ True)
 ((∃ (a_1 : Nat),
 (a_1 ≤ List.length a ∧ Cm.eqM a b = Cm.eqM (List.drop a_1 a) (List.drop a_1 b)) ∧
 (a = a ∧ b = b ∧ (↑a_1 : Int) = (0 : Int)) ∧ True ∧ True) ∧
 ∀ (a_1 : Nat),
 a_1 ≤ List.length a ∧ Cm.eqM a b = Cm.eqM (List.drop a_1 a) (List.drop a_1 b) →
 ifb (decide ((↑a_1 : Int) < (↑(List.length a) : Int)))
 (((0 : Int) ≤ (↑a_1 : Int) ∧ (↑a_1 : Int) < (↑(List.length a) : Int)) ∧
 ((0 : Int) ≤ (↑a_1 : Int) ∧ (↑a_1 : Int) < (↑(List.length b) : Int)) ∧
 List.length (List.getD a a_1 []) ≤ (1048576 : Nat) ∧
 ifb (!Cm.eqI (List.getD a a_1 []) (List.getD b a_1 [])) (false = Cm.eqM a b ∧ True)
 (∃ (a' : Nat),
 ((a' ≤ List.length a ∧ Cm.eqM a b = Cm.eqM (List.drop a' a) (List.drop a' b)) ∧
 List.length a - a' < List.length a - a_1) ∧
 (a = a ∧ b = b ∧ (↑a' : Int) = IntKind.wrap IntKind.i64 ((↑a_1 : Int) + (1 : Int))) ∧
 True ∧ True))
 (true = Cm.eqM a b ∧ True))) := by kernel_rfl
def E_laws_lkMem : Env := En (Go.Am.look [] [(52, [sEqP])])
theorem vc_laws_lkMem (a b : Cm.Mm) : (FGA E_laws_lkMem Try.f32 sEqM [⟨kM, a⟩,  ⟨kM, b⟩] (one (an_eqM a b))) = (
 ifb ((↑(List.length a) : Int) != (↑(List.length b) : Int)) (false = Cm.eqM a b ∧ True)
 ((∃ (a_1 : Nat),
 (a_1 ≤ List.length a ∧ Cm.eqM a b = Cm.eqM (List.drop a_1 a) (List.drop a_1 b)) ∧
 (a = a ∧ b = b ∧ (↑a_1 : Int) = (0 : Int)) ∧ True ∧ True) ∧
 ∀ (a_1 : Nat),
 a_1 ≤ List.length a ∧ Cm.eqM a b = Cm.eqM (List.drop a_1 a) (List.drop a_1 b) →
 ifb (decide ((↑a_1 : Int) < (↑(List.length a) : Int)))
 (((0 : Int) ≤ (↑a_1 : Int) ∧ (↑a_1 : Int) < (↑(List.length a) : Int)) ∧
 ((0 : Int) ≤ (↑a_1 : Int) ∧ (↑a_1 : Int) < (↑(List.length b) : Int)) ∧
 List.length (List.getD a a_1 []) ≤ (1048576 : Nat) ∧
 ifb (!Cm.eqI (List.getD a a_1 []) (List.getD b a_1 [])) (false = Cm.eqM a b ∧ True)
 (∃ (a' : Nat),
 ((a' ≤ List.length a ∧ Cm.eqM a b = Cm.eqM (List.drop a' a) (List.drop a' b)) ∧
 List.length a - a' < List.length a - a_1) ∧
 (a = a ∧ b = b ∧ (↑a' : Int) = IntKind.wrap IntKind.i64 ((↑a_1 : Int) + (1 : Int))) ∧
 True ∧ True))
 (true = Cm.eqM a b ∧ True))) := by kernel_rfl
def E_laws_markIntS : Env := En (Go.Am.look [] [])
theorem vc_laws_markIntS (a : Cm.Pg) (k : Int) : (FGA E_laws_markIntS Try.f49 sMarkP [⟨kP, a⟩,  ⟨kI, k⟩] (one (an_markP a k))) = (
 (∃ (a_1 : Nat),
 a_1 ≤ List.length a ∧
 (([] : Go.Am.Pth) = [] ∧ k + (↑a_1 : Int) = k ∧ (↑a_1 : Int) = (0 : Int)) ∧ Cm.upFrom k a_1 ++ List.drop a_1 a = a ∧ True) ∧
 ∀ (a_1 : Nat),
 a_1 ≤ List.length a →
 ifb (decide ((↑a_1 : Int) < (↑(List.length (Cm.upFrom k a_1 ++ List.drop a_1 a)) : Int)))
 (((0 : Int) ≤ (↑a_1 : Int) ∧ (↑a_1 : Int) < (↑(List.length (Cm.upFrom k a_1 ++ List.drop a_1 a)) : Int)) ∧
 ∃ (a' : Nat),
 (a' ≤ List.length a ∧ List.length a - a' < List.length a - a_1) ∧
 (([] : Go.Am.Pth) = [] ∧
 k + (↑a' : Int) = IntKind.wrap IntKind.i64 (k + (↑a_1 : Int) + (1 : Int)) ∧
 (↑a' : Int) = IntKind.wrap IntKind.i64 ((↑a_1 : Int) + (1 : Int))) ∧
 Cm.upFrom k a' ++ List.drop a' a =
 List.set (Cm.upFrom k a_1 ++ List.drop a_1 a) a_1 (k + (↑a_1 : Int)) ∧
 True)
 (k + (↑a_1 : Int) = k + (↑(List.length a) : Int) ∧
 Cm.upFrom k a_1 ++ List.drop a_1 a = Cm.upFrom k (List.length a) ∧ True)) := by kernel_rfl
def E_laws_markIntSS : Env := En (Go.Am.look [] [(49, [sMarkP])])
theorem vc_laws_markIntSS (a : Cm.Mm) (k : Int) : (FGA E_laws_markIntSS Try.f29 sMarkM [⟨kM, a⟩,  ⟨kI, k⟩] (one (an_markM a k))) = (
 (∃ (a_1 : Nat),
 a_1 ≤ List.length a ∧
 (([] : Go.Am.Pth) = [] ∧ k + Cm.cnt (List.take a_1 a) = k ∧ (↑a_1 : Int) = (0 : Int)) ∧
 Cm.markM (List.take a_1 a) k ++ List.drop a_1 a = a ∧ True) ∧
 ∀ (a_1 : Nat),
 a_1 ≤ List.length a →
 ifb (decide ((↑a_1 : Int) < (↑(List.length (Cm.markM (List.take a_1 a) k ++ List.drop a_1 a)) : Int)))
 (((0 : Int) ≤ (↑a_1 : Int) ∧
 (↑a_1 : Int) < (↑(List.length (Cm.markM (List.take a_1 a) k ++ List.drop a_1 a)) : Int)) ∧
 (List.length (List.getD (Cm.markM (List.take a_1 a) k ++ List.drop a_1 a) a_1 []) ≤ (1048576 : Nat) ∧
 (0 : Int) ≤ k + Cm.cnt (List.take a_1 a) ∧ k + Cm.cnt (List.take a_1 a) ≤ (1152921504606846976 : Int)) ∧
 ∃ (a' : Nat),
 (a' ≤ List.length a ∧ List.length a - a' < List.length a - a_1) ∧
 (([] : Go.Am.Pth) = [] ∧
 k + Cm.cnt (List.take a' a) =
 k + Cm.cnt (List.take a_1 a) +
 (↑(List.length (List.getD (Cm.markM (List.take a_1 a) k ++ List.drop a_1 a) a_1 [])) : Int) ∧
 (↑a' : Int) = IntKind.wrap IntKind.i64 ((↑a_1 : Int) + (1 : Int))) ∧
 Cm.markM (List.take a' a) k ++ List.drop a' a =
 List.set (Cm.markM (List.take a_1 a) k ++ List.drop a_1 a) a_1
 (Cm.upFrom (k + Cm.cnt (List.take a_1 a))
 (List.length (List.getD (Cm.markM (List.take a_1 a) k ++ List.drop a_1 a) a_1 []))) ∧
 True)
 (k + Cm.cnt (List.take a_1 a) = k + Cm.cnt a ∧
 Cm.markM (List.take a_1 a) k ++ List.drop a_1 a = Cm.markM a k ∧ True)) := by kernel_rfl
def E_laws_heldIntS : Env := En (Go.Am.look [] [])
theorem vc_laws_heldIntS (a : Cm.Pg) (k : Int) : (FGA E_laws_heldIntS Try.f50 sHeldP [⟨kP, a⟩,  ⟨kI, k⟩] (one (an_heldP a k))) = (
 (∃ (a_1 : Nat),
 (a_1 ≤ List.length a ∧ List.take a_1 a = Cm.upFrom k a_1) ∧
 (a = a ∧ k + (↑a_1 : Int) = k ∧ (↑a_1 : Int) = (0 : Int)) ∧ True ∧ True) ∧
 ∀ (a_1 : Nat),
 a_1 ≤ List.length a ∧ List.take a_1 a = Cm.upFrom k a_1 →
 ifb (decide ((↑a_1 : Int) < (↑(List.length a) : Int)))
 (((0 : Int) ≤ (↑a_1 : Int) ∧ (↑a_1 : Int) < (↑(List.length a) : Int)) ∧
 ifb (List.getD a a_1 (0 : Int) != k + (↑a_1 : Int)) ((-1 : Int) = Cm.heldI a k ∧ True)
 (∃ (a' : Nat),
 ((a' ≤ List.length a ∧ List.take a' a = Cm.upFrom k a') ∧ List.length a - a' < List.length a - a_1) ∧
 (a = a ∧
 k + (↑a' : Int) = IntKind.wrap IntKind.i64 (k + (↑a_1 : Int) + (1 : Int)) ∧
 (↑a' : Int) = IntKind.wrap IntKind.i64 ((↑a_1 : Int) + (1 : Int))) ∧
 True ∧ True))
 (k + (↑a_1 : Int) = Cm.heldI a k ∧ True)) := by kernel_rfl
def E_laws_heldIntSS : Env := En (Go.Am.look [] [(50, [sHeldP])])
theorem vc_laws_heldIntSS (a : Cm.Mm) (k : Int) : (FGA E_laws_heldIntSS Try.f30 sHeldM [⟨kM, a⟩,  ⟨kI, k⟩] (one (an_heldM a k))) = (
 (∃ (a_1 : Nat),
 (a_1 ≤ List.length a ∧ List.take a_1 a = Cm.markM (List.take a_1 a) k) ∧
 (a = a ∧ k + Cm.cnt (List.take a_1 a) = k ∧ (↑a_1 : Int) = (0 : Int)) ∧ True ∧ True) ∧
 ∀ (a_1 : Nat),
 a_1 ≤ List.length a ∧ List.take a_1 a = Cm.markM (List.take a_1 a) k →
 ifb (decide ((↑a_1 : Int) < (↑(List.length a) : Int)))
 (((0 : Int) ≤ (↑a_1 : Int) ∧ (↑a_1 : Int) < (↑(List.length a) : Int)) ∧
 (List.length (List.getD a a_1 []) ≤ (1048576 : Nat) ∧
 (0 : Int) ≤ k + Cm.cnt (List.take a_1 a) ∧ k + Cm.cnt (List.take a_1 a) ≤ (1152921504606846976 : Int)) ∧
 ifb (decide (Cm.heldI (List.getD a a_1 []) (k + Cm.cnt (List.take a_1 a)) < (0 : Int)))
 ((-1 : Int) = Cm.heldM a k ∧ True)
 (∃ (a' : Nat),
 ((a' ≤ List.length a ∧ List.take a' a = Cm.markM (List.take a' a) k) ∧
 List.length a - a' < List.length a - a_1) ∧
 (a = a ∧
 k + Cm.cnt (List.take a' a) = Cm.heldI (List.getD a a_1 []) (k + Cm.cnt (List.take a_1 a)) ∧
 (↑a' : Int) = IntKind.wrap IntKind.i64 ((↑a_1 : Int) + (1 : Int))) ∧
 True ∧ True))
 (k + Cm.cnt (List.take a_1 a) = Cm.heldM a k ∧ True)) := by kernel_rfl
def E_spec_l2Copy : Env := En (Go.Am.look [] [])
theorem vc_spec_l2Copy (m : Cm.Mm) : (FGA E_spec_l2Copy Try.f72 sToM [⟨kM, m⟩] (one (an_copyS m))) = (
 (∃ (a : Nat), a ≤ List.length m ∧ (m = m ∧ ([] : Go.Am.Pth) = [] ∧ (↑a : Int) = (0 : Int)) ∧ List.take a m = [] ∧ True) ∧
 ∀ (a : Nat),
 a ≤ List.length m →
 ifb (decide ((↑a : Int) < (↑(List.length m) : Int)))
 (((0 : Int) ≤ (↑a : Int) ∧ (↑a : Int) < (↑(List.length m) : Int)) ∧
 ((0 : Nat) + List.length (List.getD m a [])) * nat_lit 8 ≤ (140737488355328 : Nat) ∧
 (List.length (List.take a m) + (1 : Nat)) * nat_lit 24 ≤ (140737488355328 : Nat) ∧
 ∃ (a' : Nat),
 (a' ≤ List.length m ∧ List.length m - a' < List.length m - a) ∧
 (m = m ∧ ([] : Go.Am.Pth) = [] ∧ (↑a' : Int) = IntKind.wrap IntKind.i64 ((↑a : Int) + (1 : Int))) ∧
 List.take a' m = List.append (List.take a m) [List.getD m a []] ∧ True)
 (List.take a m = m ∧ True)) := by kernel_rfl
def E_impl_cloneMem : Env := En (Go.Am.look [] [])
theorem vc_impl_cloneMem (m : Cm.Mm) : (FGA E_impl_cloneMem Try.f78 sToM [⟨kM, m⟩] (one (an_copyI m))) = (
 (∃ (a : Nat),
 a ≤ List.length m ∧
 (m = m ∧ (↑(List.length m) : Int) = (↑(List.length m) : Int) ∧ (↑a : Int) = (0 : Int) ∧ ([] : Go.Am.Pth) = []) ∧
 List.take a m = [] ∧ True) ∧
 ∀ (a : Nat),
 a ≤ List.length m →
 ifb (decide ((↑a : Int) < (↑(List.length m) : Int)))
 (((0 : Int) ≤ (↑a : Int) ∧ (↑a : Int) < (↑(List.length m) : Int)) ∧
 ((0 : Nat) + List.length (List.getD m a [])) * nat_lit 8 ≤ (140737488355328 : Nat) ∧
 (List.length (List.take a m) + (1 : Nat)) * nat_lit 24 ≤ (140737488355328 : Nat) ∧
 ∃ (a' : Nat),
 (a' ≤ List.length m ∧ List.length m - a' < List.length m - a) ∧
 (m = m ∧
 (↑(List.length m) : Int) = (↑(List.length m) : Int) ∧
 (↑a' : Int) = IntKind.wrap IntKind.i64 ((↑a : Int) + (1 : Int)) ∧ ([] : Go.Am.Pth) = []) ∧
 List.take a' m = List.append (List.take a m) [List.getD m a []] ∧ True)
 (List.take a m = m ∧ True)) := by kernel_rfl
def E_spec_l2Page : Env := En (Go.Am.look [] [])
theorem vc_spec_l2Page  : (FGA E_spec_l2Page Try.f135 sPage [] no) = (
 ((4 : Int) = (4 : Int) ∧ (0 : Int) ≤ (4 : Int) ∧ (4 : Int) * (↑(nat_lit 8) : Int) ≤ (140737488355328 : Int)) ∧
 List.replicate (4 : Nat) (0 : Int) = [(0 : Int), (0 : Int), (0 : Int), (0 : Int)] ∧ True) := by kernel_rfl
def E_spec_MemNew : Env := En (Go.Am.look [] [(107, [sWithin]), (135, [sPage])])
theorem vc_spec_MemNew (n : Int) : (FGA E_spec_MemNew Try.f103 sMemNew [⟨kI, n⟩] (one (an_memNew n))) = (
 True ∧
 ifb (!Cm.within n (0 : Int) (6 : Int)) ([] = Cm.memNew n ∧ True)
 ((∃ (a : Nat),
 ((0 : Int) ≤ n ∧ n ≤ (6 : Int) ∧ (↑a : Int) ≤ n) ∧
 (n = n ∧ ([] : Go.Am.Pth) = [] ∧ (↑a : Int) = (0 : Int)) ∧
 List.replicate a [(0 : Int), (0 : Int), (0 : Int), (0 : Int)] = [] ∧ True) ∧
 ∀ (a : Nat),
 (0 : Int) ≤ n ∧ n ≤ (6 : Int) ∧ (↑a : Int) ≤ n →
 ifb (decide ((↑a : Int) < n))
 (True ∧
 (List.length (List.replicate a [(0 : Int), (0 : Int), (0 : Int), (0 : Int)]) + (1 : Nat)) * nat_lit 24 ≤
 (140737488355328 : Nat) ∧
 ∃ (a' : Nat),
 (((0 : Int) ≤ n ∧ n ≤ (6 : Int) ∧ (↑a' : Int) ≤ n) ∧ (6 : Nat) - a' < (6 : Nat) - a) ∧
 (n = n ∧ ([] : Go.Am.Pth) = [] ∧ (↑a' : Int) = IntKind.wrap IntKind.i64 ((↑a : Int) + (1 : Int))) ∧
 List.replicate a' [(0 : Int), (0 : Int), (0 : Int), (0 : Int)] =
 List.append (List.replicate a [(0 : Int), (0 : Int), (0 : Int), (0 : Int)])
 [[(0 : Int), (0 : Int), (0 : Int), (0 : Int)]] ∧
 True)
 (List.replicate a [(0 : Int), (0 : Int), (0 : Int), (0 : Int)] = Cm.memNew n ∧ True))) := by kernel_rfl
def E_impl_pageOk : Env := En (Go.Am.look [] [(98, [sWithin])])
theorem vc_impl_pageOk (a : Cm.Pg) : (FGA E_impl_pageOk Try.f145 sOkP [⟨kP, a⟩] (one (an_okPI a))) = (
 (∃ (a_1 : Nat),
 (a_1 ≤ List.length a ∧ Cm.allW a = Cm.allW (List.drop a_1 a)) ∧
 (a = a ∧ a = a ∧ (↑(List.length a) : Int) = (↑(List.length a) : Int) ∧ (↑a_1 : Int) = (0 : Int)) ∧ True ∧ True) ∧
 ∀ (a_1 : Nat),
 a_1 ≤ List.length a ∧ Cm.allW a = Cm.allW (List.drop a_1 a) →
 ifb (decide ((↑a_1 : Int) < (↑(List.length a) : Int)))
 (((0 : Int) ≤ (↑a_1 : Int) ∧ (↑a_1 : Int) < (↑(List.length a) : Int)) ∧
 True ∧
 ifb (!Cm.within (List.getD a a_1 (0 : Int)) (0 : Int) (63 : Int)) (false = Cm.okP a ∧ True)
 (∃ (a' : Nat),
 ((a' ≤ List.length a ∧ Cm.allW a = Cm.allW (List.drop a' a)) ∧
 List.length a - a' < List.length a - a_1) ∧
 (a = a ∧
 a = a ∧
 (↑(List.length a) : Int) = (↑(List.length a) : Int) ∧
 (↑a' : Int) = IntKind.wrap IntKind.i64 ((↑a_1 : Int) + (1 : Int))) ∧
 True ∧ True))
 (((↑(List.length a) : Int) == (4 : Int)) = Cm.okP a ∧ True)) := by kernel_rfl
def E_spec_l2PageOk : Env := En (Go.Am.look [] [(107, [sWithin])])
theorem vc_spec_l2PageOk (a : Cm.Pg) : (FGA E_spec_l2PageOk Try.f147 sOkP [⟨kP, a⟩] (one (an_okPS a))) = (
 (∃ (a_1 : Nat),
 (a_1 ≤ List.length a ∧ Cm.allW a = Cm.allW (List.drop a_1 a)) ∧ (a = a ∧ (↑a_1 : Int) = (0 : Int)) ∧ True ∧ True) ∧
 ∀ (a_1 : Nat),
 a_1 ≤ List.length a ∧ Cm.allW a = Cm.allW (List.drop a_1 a) →
 ifb (decide ((↑a_1 : Int) < (↑(List.length a) : Int)))
 (((0 : Int) ≤ (↑a_1 : Int) ∧ (↑a_1 : Int) < (↑(List.length a) : Int)) ∧
 True ∧
 ifb (!Cm.within (List.getD a a_1 (0 : Int)) (0 : Int) (63 : Int)) (false = Cm.okP a ∧ True)
 (∃ (a' : Nat),
 ((a' ≤ List.length a ∧ Cm.allW a = Cm.allW (List.drop a' a)) ∧
 List.length a - a' < List.length a - a_1) ∧
 (a = a ∧ (↑a' : Int) = IntKind.wrap IntKind.i64 ((↑a_1 : Int) + (1 : Int))) ∧ True ∧ True))
 (((↑(List.length a) : Int) == (4 : Int)) = Cm.okP a ∧ True)) := by kernel_rfl
def E_impl_MemOk : Env := En (Go.Am.look [] [(145, [sOkP])])
theorem vc_impl_MemOk (a : Cm.Mm) : (FGA E_impl_MemOk Try.f117 sOkM [⟨kM, a⟩] (one (an_okMI a))) = (
 (∃ (a_1 : Nat),
 (a_1 ≤ List.length a ∧ Cm.okM a = Cm.okM (List.drop a_1 a)) ∧
 (a = a ∧ (↑(List.length a) : Int) = (↑(List.length a) : Int) ∧ (↑a_1 : Int) = (0 : Int)) ∧ True ∧ True) ∧
 ∀ (a_1 : Nat),
 a_1 ≤ List.length a ∧ Cm.okM a = Cm.okM (List.drop a_1 a) →
 ifb (decide ((↑a_1 : Int) < (↑(List.length a) : Int)))
 (((0 : Int) ≤ (↑a_1 : Int) ∧ (↑a_1 : Int) < (↑(List.length a) : Int)) ∧
 List.length (List.getD a a_1 []) ≤ (1048576 : Nat) ∧
 ifb (!Cm.okP (List.getD a a_1 [])) (false = Cm.okM a ∧ True)
 (∃ (a' : Nat),
 ((a' ≤ List.length a ∧ Cm.okM a = Cm.okM (List.drop a' a)) ∧ List.length a - a' < List.length a - a_1) ∧
 (a = a ∧
 (↑(List.length a) : Int) = (↑(List.length a) : Int) ∧
 (↑a' : Int) = IntKind.wrap IntKind.i64 ((↑a_1 : Int) + (1 : Int))) ∧
 True ∧ True))
 (true = Cm.okM a ∧ True)) := by kernel_rfl
def E_spec_MemOk : Env := En (Go.Am.look [] [(147, [sOkP])])
theorem vc_spec_MemOk (a : Cm.Mm) : (FGA E_spec_MemOk Try.f119 sOkM [⟨kM, a⟩] (one (an_okMS a))) = (
 (∃ (a_1 : Nat),
 (a_1 ≤ List.length a ∧ Cm.okM a = Cm.okM (List.drop a_1 a)) ∧ (a = a ∧ (↑a_1 : Int) = (0 : Int)) ∧ True ∧ True) ∧
 ∀ (a_1 : Nat),
 a_1 ≤ List.length a ∧ Cm.okM a = Cm.okM (List.drop a_1 a) →
 ifb (decide ((↑a_1 : Int) < (↑(List.length a) : Int)))
 (((0 : Int) ≤ (↑a_1 : Int) ∧ (↑a_1 : Int) < (↑(List.length a) : Int)) ∧
 List.length (List.getD a a_1 []) ≤ (1048576 : Nat) ∧
 ifb (!Cm.okP (List.getD a a_1 [])) (false = Cm.okM a ∧ True)
 (∃ (a' : Nat),
 ((a' ≤ List.length a ∧ Cm.okM a = Cm.okM (List.drop a' a)) ∧ List.length a - a' < List.length a - a_1) ∧
 (a = a ∧ (↑a' : Int) = IntKind.wrap IntKind.i64 ((↑a_1 : Int) + (1 : Int))) ∧ True ∧ True))
 (true = Cm.okM a ∧ True)) := by kernel_rfl
def E_impl_guestMem : Env := En (Go.Am.look [] [(117, [sOkM])])
theorem vc_impl_guestMem (a : Cm.Mm) : (FGA E_impl_guestMem Try.f81 sOkG [⟨kM, a⟩] no) = (
 Cm.bd a ∧
 (Cm.okM a = true → Cm.okM a = true) ∧
 (Cm.okM a = true → Cm.okM a = true) ∧
 (Cm.okM a = true → Cm.okM a = true) ∧ (Cm.okM a && (↑(List.length a) : Int) == (6 : Int)) = Cm.okG a ∧ True) := by kernel_rfl
def E_spec_l11Guest : Env := En (Go.Am.look [] [(119, [sOkM])])
theorem vc_spec_l11Guest (a : Cm.Mm) : (FGA E_spec_l11Guest Try.f120 sOkG [⟨kM, a⟩] no) = (
 Cm.bd a ∧
 (Cm.okM a = true → Cm.okM a = true) ∧
 (Cm.okM a = true → Cm.okM a = true) ∧
 (Cm.okM a = true → Cm.okM a = true) ∧ (Cm.okM a && (↑(List.length a) : Int) == (6 : Int)) = Cm.okG a ∧ True) := by kernel_rfl
def E_impl_spot : Env := En (Go.Am.look [] [(98, [sWithin])])
theorem vc_impl_spot (p o : Int) : (FGA E_impl_spot Try.f82 sSpot [⟨kI, p⟩,  ⟨kI, o⟩] no) = (
 True ∧
 (Cm.within p (0 : Int) (5 : Int) = true → Cm.within p (0 : Int) (5 : Int) = true) ∧
 (Cm.within p (0 : Int) (5 : Int) = true → True) ∧
 (Cm.within p (0 : Int) (5 : Int) = true → Cm.within p (0 : Int) (5 : Int) = true) ∧
 (Cm.within p (0 : Int) (5 : Int) && Cm.within o (0 : Int) (3 : Int)) = Cm.spot p o ∧ True) := by kernel_rfl
def E_impl_wordOk : Env := En (Go.Am.look [] [(98, [sWithin])])
theorem vc_impl_wordOk (w : Int) : (FGA E_impl_wordOk Try.f83 sWordOk [⟨kI, w⟩] no) = (
 True ∧ Cm.within w (0 : Int) (63 : Int) = Cm.within w (0 : Int) (63 : Int) ∧ True) := by kernel_rfl
def E_impl_EntryNum : Env := En (Go.Am.look [] [])
theorem vc_impl_EntryNum (e : Cm.E) : (FGA E_impl_EntryNum Try.f151 sEntryNum [⟨kE, e⟩] no) = (
 ifb (!e.1) ((0 : Int) = Cm.entryNum e ∧ True)
 (ifb e.2.2
 (IntKind.wrap IntKind.i64 (IntKind.wrap IntKind.i64 ((2 : Int) * e.2.1) + (2 : Int)) = Cm.entryNum e ∧ True)
 (IntKind.wrap IntKind.i64 (IntKind.wrap IntKind.i64 ((2 : Int) * e.2.1) + (1 : Int)) = Cm.entryNum e ∧ True))) := by kernel_rfl
def E_impl_EntryOf : Env := En (Go.Am.look [] [(151, [sEntryNum])])
theorem vc_impl_EntryOf (w : Int) : (FGA E_impl_EntryOf Try.f129 sEntryOf [⟨kI, w⟩] (one (an_entryOf w))) = (
 (∃ (a : Nat),
 (((2 : Nat) ≤ a ∧ a ≤ (6 : Nat)) ∧ ¬((5 : Int) ≤ w ∧ w ≤ (2 : Int) * (↑a : Int))) ∧
 (w = w ∧ ([] : Go.Am.Pth) = [] ∧ (↑a : Int) = (2 : Int)) ∧ True ∧ Cm.e0.1 = false ∧ Cm.e0.2.1 = (0 : Int) ∧ Cm.e0.2.2 = false) ∧
 ∀ (a : Nat),
 ((2 : Nat) ≤ a ∧ a ≤ (6 : Nat)) ∧ ¬((5 : Int) ≤ w ∧ w ≤ (2 : Int) * (↑a : Int)) →
 ifb (decide ((↑a : Int) < (6 : Int)))
 ((∃ (a_1 : Nat),
 (a_1 ≤ (2 : Nat) ∧ ¬((5 : Int) ≤ w ∧ w ≤ (2 : Int) * (↑a : Int) + (↑a_1 : Int))) ∧
 (w = w ∧
 ([] : Go.Am.Pth) = [] ∧
 (↑a : Int) = (↑a : Int) ∧ ([] : Go.Am.Pth) = [] ∧ (2 : Int) = (↑(2 : Nat) : Int) ∧ (↑a_1 : Int) = (0 : Int)) ∧
 [(true, (↑a : Int), false), (true, (↑a : Int), true)] =
 [(true, (↑a : Int), false), (true, (↑a : Int), true)] ∧
 Cm.e0.1 = Cm.e0.1 ∧ Cm.e0.2.1 = Cm.e0.2.1 ∧ Cm.e0.2.2 = Cm.e0.2.2) ∧
 ∀ (a_1 : Nat),
 a_1 ≤ (2 : Nat) ∧ ¬((5 : Int) ≤ w ∧ w ≤ (2 : Int) * (↑a : Int) + (↑a_1 : Int)) →
 ifb (decide ((↑a_1 : Int) < (2 : Int)))
 (((0 : Int) ≤ (↑a_1 : Int) ∧ (↑a_1 : Int) < (↑(2 : Nat) : Int)) ∧
 ((0 : Int) ≤
 (List.getD [(true, (↑a : Int), false), (true, (↑a : Int), true)] a_1
 (false, (0 : Int), false)).2.1 ∧
 (List.getD [(true, (↑a : Int), false), (true, (↑a : Int), true)] a_1
 (false, (0 : Int), false)).2.1 ≤
 (1048576 : Int)) ∧
 ifb
 (Cm.entryNum
 (List.getD [(true, (↑a : Int), false), (true, (↑a : Int), true)] a_1
 (false, (0 : Int), false)) ==
 w)
 (List.getD [(true, (↑a : Int), false), (true, (↑a : Int), true)] a_1 (false, (0 : Int), false) =
 Cm.entryOf w ∧
 True)
 (∃ (a' : Nat),
 ((a' ≤ (2 : Nat) ∧ ¬((5 : Int) ≤ w ∧ w ≤ (2 : Int) * (↑a : Int) + (↑a' : Int))) ∧
 (2 : Nat) - a' < (2 : Nat) - a_1) ∧
 (w = w ∧
 ([] : Go.Am.Pth) = [] ∧
 (↑a : Int) = (↑a : Int) ∧
 ([] : Go.Am.Pth) = [] ∧
 (2 : Int) = (2 : Int) ∧
 (↑a' : Int) = IntKind.wrap IntKind.i64 ((↑a_1 : Int) + (1 : Int))) ∧
 [(true, (↑a : Int), false), (true, (↑a : Int), true)] =
 [(true, (↑a : Int), false), (true, (↑a : Int), true)] ∧
 Cm.e0.1 = Cm.e0.1 ∧ Cm.e0.2.1 = Cm.e0.2.1 ∧ Cm.e0.2.2 = Cm.e0.2.2))
 (∃ (a' : Nat),
 ((((2 : Nat) ≤ a' ∧ a' ≤ (6 : Nat)) ∧ ¬((5 : Int) ≤ w ∧ w ≤ (2 : Int) * (↑a' : Int))) ∧
 (6 : Nat) - a' < (6 : Nat) - a) ∧
 (w = w ∧ ([] : Go.Am.Pth) = [] ∧ (↑a' : Int) = IntKind.wrap IntKind.i64 ((↑a : Int) + (1 : Int))) ∧
 True ∧ Cm.e0.1 = Cm.e0.1 ∧ Cm.e0.2.1 = Cm.e0.2.1 ∧ Cm.e0.2.2 = Cm.e0.2.2))
 ((false, (0 : Int), false) = Cm.entryOf w ∧ True)) := by kernel_rfl
def E_spec_EntryOf : Env := En (Go.Am.look [] [(107, [sWithin])])
theorem vc_spec_EntryOf (w : Int) : (FGA E_spec_EntryOf Try.f153 sEntryOf [⟨kI, w⟩] no) = (
 (2 : Int) ≠ (0 : Int) ∧
 ((!decide (w < (1 : Int))) = true → (!decide (w < (1 : Int))) = true) ∧
 ((!decide (w < (1 : Int))) = true → True) ∧
 ((!decide (w < (1 : Int))) = true → (!decide (w < (1 : Int))) = true) ∧
 (decide (w < (1 : Int)) = false → (!decide (w < (1 : Int))) = true) ∧
 ifb
 (decide (w < (1 : Int)) ||
 !Cm.within (IntKind.wrap IntKind.i64 (Int.tdiv (IntKind.wrap IntKind.i64 (w - (1 : Int))) (2 : Int)))
 (2 : Int) (5 : Int))
 ((false, (0 : Int), false) = Cm.entryOf w ∧ True)
 ((2 : Int) ≠ (0 : Int) ∧
 (true, IntKind.wrap IntKind.i64 (Int.tdiv (IntKind.wrap IntKind.i64 (w - (1 : Int))) (2 : Int)),
 Int.tmod w (2 : Int) == (0 : Int)) =
 Cm.entryOf w ∧
 True)) := by kernel_rfl
def E_spec_l2Tab : Env := En (Go.Am.look [] [(153, [sEntryOf])])
theorem vc_spec_l2Tab (a b : Cm.Pg) : (FGA E_spec_l2Tab Try.f166 sTab2 [⟨kP, a⟩,  ⟨kP, b⟩] (one (an_tab2 a b))) = (
 (∃ (a_1 : Nat),
 a_1 ≤ (6 : Nat) ∧
 (a = a ∧ b = b ∧ ([] : Go.Am.Pth) = [] ∧ (↑a_1 : Int) = (0 : Int)) ∧ List.take a_1 (Cm.tabGen [a, b]) = [] ∧ True) ∧
 ∀ (a_1 : Nat),
 a_1 ≤ (6 : Nat) →
 ifb (decide ((↑a_1 : Int) < (6 : Int)))
 (ifb (decide ((↑a_1 : Int) < (4 : Int)))
 (((0 : Int) ≤ (↑a_1 : Int) ∧ (↑a_1 : Int) < (↑(List.length a) : Int)) ∧
 List.getD a a_1 (0 : Int) ≤ (1048576 : Int) ∧
 (List.length (List.take a_1 (Cm.tabGen [a, b])) + (1 : Nat)) * nat_lit 24 ≤ (140737488355328 : Nat) ∧
 ∃ (a' : Nat),
 (a' ≤ (6 : Nat) ∧ (6 : Nat) - a' < (6 : Nat) - a_1) ∧
 (a = a ∧ b = b ∧ ([] : Go.Am.Pth) = [] ∧ (↑a' : Int) = IntKind.wrap IntKind.i64 ((↑a_1 : Int) + (1 : Int))) ∧
 List.take a' (Cm.tabGen [a, b]) =
 List.append (List.take a_1 (Cm.tabGen [a, b])) [Cm.entryOf (List.getD a a_1 (0 : Int))] ∧
 True)
 (((0 : Int) ≤ IntKind.wrap IntKind.i64 ((↑a_1 : Int) - (4 : Int)) ∧
 IntKind.wrap IntKind.i64 ((↑a_1 : Int) - (4 : Int)) < (↑(List.length b) : Int)) ∧
 List.getD b (Int.toNat (IntKind.wrap IntKind.i64 ((↑a_1 : Int) - (4 : Int)))) (0 : Int) ≤ (1048576 : Int) ∧
 (List.length (List.take a_1 (Cm.tabGen [a, b])) + (1 : Nat)) * nat_lit 24 ≤ (140737488355328 : Nat) ∧
 ∃ (a' : Nat),
 (a' ≤ (6 : Nat) ∧ (6 : Nat) - a' < (6 : Nat) - a_1) ∧
 (a = a ∧ b = b ∧ ([] : Go.Am.Pth) = [] ∧ (↑a' : Int) = IntKind.wrap IntKind.i64 ((↑a_1 : Int) + (1 : Int))) ∧
 List.take a' (Cm.tabGen [a, b]) =
 List.append (List.take a_1 (Cm.tabGen [a, b]))
 [Cm.entryOf
 (List.getD b (Int.toNat (IntKind.wrap IntKind.i64 ((↑a_1 : Int) - (4 : Int))))
 (0 : Int))] ∧
 True))
 (List.take a_1 (Cm.tabGen [a, b]) = Cm.tabGen [a, b] ∧ True)) := by kernel_rfl
def E_impl_MemTab : Env := En (Go.Am.look [] [(81, [sOkG]), (129, [sEntryOf])])
theorem vc_impl_MemTab (m : Cm.Mm) : (FGA E_impl_MemTab Try.f84 sMemTab [⟨kM, m⟩] (one (an_memTab m))) = (
 Cm.bd m ∧
 ifb (!Cm.okG m) ([] = Cm.memTab m ∧ True)
 ((∃ (a : Nat), a ≤ (6 : Nat) ∧ (m = m ∧ ([] : Go.Am.Pth) = [] ∧ (↑a : Int) = (0 : Int)) ∧ List.take a (Cm.tabGen m) = [] ∧ True) ∧
 ∀ (a : Nat),
 a ≤ (6 : Nat) →
 ifb (decide ((↑a : Int) < (6 : Int)))
 ((4 : Int) ≠ (0 : Int) ∧
 ((0 : Int) ≤ IntKind.wrap IntKind.i64 (Int.tdiv (↑a : Int) (4 : Int)) ∧
 IntKind.wrap IntKind.i64 (Int.tdiv (↑a : Int) (4 : Int)) < (↑(List.length m) : Int)) ∧
 (4 : Int) ≠ (0 : Int) ∧
 ((0 : Int) ≤ Int.tmod (↑a : Int) (4 : Int) ∧
 Int.tmod (↑a : Int) (4 : Int) <
 (↑(List.length
 (List.getD m (Int.toNat (IntKind.wrap IntKind.i64 (Int.tdiv (↑a : Int) (4 : Int)))) [])) :
 Int)) ∧
 List.getD (List.getD m (Int.toNat (IntKind.wrap IntKind.i64 (Int.tdiv (↑a : Int) (4 : Int)))) [])
 (Int.toNat (Int.tmod (↑a : Int) (4 : Int))) (0 : Int) ≤
 (1048576 : Int) ∧
 (List.length (List.take a (Cm.tabGen m)) + (1 : Nat)) * nat_lit 24 ≤ (140737488355328 : Nat) ∧
 ∃ (a' : Nat),
 (a' ≤ (6 : Nat) ∧ (6 : Nat) - a' < (6 : Nat) - a) ∧
 (m = m ∧ ([] : Go.Am.Pth) = [] ∧ (↑a' : Int) = IntKind.wrap IntKind.i64 ((↑a : Int) + (1 : Int))) ∧
 List.take a' (Cm.tabGen m) =
 List.append (List.take a (Cm.tabGen m))
 [Cm.entryOf
 (List.getD
 (List.getD m
 (Int.toNat (IntKind.wrap IntKind.i64 (Int.tdiv (↑a : Int) (4 : Int)))) [])
 (Int.toNat (Int.tmod (↑a : Int) (4 : Int))) (0 : Int))] ∧
 True)
 (List.take a (Cm.tabGen m) = Cm.memTab m ∧ True))) := by kernel_rfl
def E_spec_MemTab : Env := En (Go.Am.look [] [(119, [sOkM]), (166, [sTab2])])
theorem vc_spec_MemTab (m : Cm.Mm) : (FGA E_spec_MemTab Try.f150 sMemTab [⟨kM, m⟩] no) = (
 Cm.bd m ∧
 ((!!Cm.okM m) = true → (!!Cm.okM m) = true) ∧
 ((!!Cm.okM m) = true → (!!Cm.okM m) = true) ∧
 ((!Cm.okM m) = false → (!!Cm.okM m) = true) ∧
 ifb (!Cm.okM m || (↑(List.length m) : Int) != (6 : Int)) ([] = Cm.memTab m ∧ True)
 (((0 : Int) ≤ (0 : Int) ∧ (0 : Int) < (↑(List.length m) : Int)) ∧
 ((0 : Int) ≤ (1 : Int) ∧ (1 : Int) < (↑(List.length m) : Int)) ∧
 (Cm.okP (List.getD m (0 : Nat) []) = true ∧ Cm.okP (List.getD m (1 : Nat) []) = true) ∧
 Cm.tabGen [List.getD m (0 : Nat) [], List.getD m (1 : Nat) []] = Cm.memTab m ∧ True)) := by kernel_rfl
end Go.Proofs.Ytcfmelkegjpciaa.T

open Go Go.Am Go.Proofs
open Go.Cm (R rdOk)
namespace Go.Proofs.Ytcfmelkegjpciaa.T
set_option maxHeartbeats 0
set_option maxRecDepth 100000
def E_spec_MemAt : Env := En (Go.Am.look [] [(107, [sWithin]), (119, [sOkM])])
theorem vc_spec_MemAt (m : Cm.Mm) (p o : Int) : (FGA E_spec_MemAt Try.f124 sMemAt [⟨kM, m⟩,  ⟨kI, p⟩,  ⟨kI, o⟩] no) = (
 Cm.bd m ∧
 ((!!Cm.okM m) = true → (!!Cm.okM m) = true) ∧
 ((!!Cm.okM m) = true → (!!Cm.okM m) = true) ∧
 ((!!Cm.okM m) = true → (!!Cm.okM m) = true) ∧
 ((!!Cm.okM m) = true → (!!Cm.okM m) = true) ∧
 ((!!Cm.okM m) = true → True) ∧
 ((!!Cm.okM m) = true → (!!Cm.okM m) = true) ∧
 ((!Cm.okM m) = false → (!!Cm.okM m) = true) ∧
 ((!(!Cm.okM m ||
 !Cm.within p (0 : Int) (IntKind.wrap IntKind.i64 ((↑(List.length m) : Int) - (1 : Int))))) =
 true →
 (!(!Cm.okM m ||
 !Cm.within p (0 : Int) (IntKind.wrap IntKind.i64 ((↑(List.length m) : Int) - (1 : Int))))) =
 true) ∧
 ((!(!Cm.okM m ||
 !Cm.within p (0 : Int) (IntKind.wrap IntKind.i64 ((↑(List.length m) : Int) - (1 : Int))))) =
 true →
 True) ∧
 ((!(!Cm.okM m ||
 !Cm.within p (0 : Int)
 (IntKind.wrap IntKind.i64 ((↑(List.length m) : Int) - (1 : Int))))) =
 true →
 (!(!Cm.okM m ||
 !Cm.within p (0 : Int)
 (IntKind.wrap IntKind.i64 ((↑(List.length m) : Int) - (1 : Int))))) =
 true) ∧
 ((!Cm.okM m ||
 !Cm.within p (0 : Int)
 (IntKind.wrap IntKind.i64 ((↑(List.length m) : Int) - (1 : Int)))) =
 false →
 (!(!Cm.okM m ||
 !Cm.within p (0 : Int)
 (IntKind.wrap IntKind.i64 ((↑(List.length m) : Int) - (1 : Int))))) =
 true) ∧
 ifb
 (!Cm.okM m ||
 !Cm.within p (0 : Int)
 (IntKind.wrap IntKind.i64 ((↑(List.length m) : Int) - (1 : Int))) ||
 !Cm.within o (0 : Int) (3 : Int))
 ((0 : Int) = (Cm.memAt m p o).1 ∧ false = (Cm.memAt m p o).2 ∧ True)
 (((0 : Int) ≤ p ∧ p < (↑(List.length m) : Int)) ∧
 ((0 : Int) ≤ o ∧ o < (↑(List.length (List.getD m (Int.toNat p) [])) : Int)) ∧
 List.getD (List.getD m (Int.toNat p) []) (Int.toNat o) (0 : Int) = (Cm.memAt m p o).1 ∧
 true = (Cm.memAt m p o).2 ∧ True)) := by kernel_rfl
def E_spec_MemWith : Env := En (Go.Am.look [] [(72, [sToM]), (107, [sWithin]), (124, [sMemAt])])
theorem vc_spec_MemWith (m : Cm.Mm) (p o w : Int) : (FGA E_spec_MemWith Try.f125 sMemWith [⟨kM, m⟩,  ⟨kI, p⟩,  ⟨kI, o⟩,  ⟨kI, w⟩] no) = (
 Cm.bd m ∧
 ((!!(Cm.memAt m p o).2) = true → (!!(Cm.memAt m p o).2) = true) ∧
 ((!!(Cm.memAt m p o).2) = true → True) ∧
 ((!!(Cm.memAt m p o).2) = true → (!!(Cm.memAt m p o).2) = true) ∧
 ((!(Cm.memAt m p o).2) = false → (!!(Cm.memAt m p o).2) = true) ∧
 ifb (!(Cm.memAt m p o).2 || !Cm.within w (0 : Int) (63 : Int))
 ([] = (Cm.memWith m p o w).1 ∧ false = (Cm.memWith m p o w).2 ∧ True)
 (Cm.bd m ∧
 ((0 : Int) ≤ p ∧ p < (↑(List.length m) : Int)) ∧
 ((0 : Int) ≤ o ∧ o < (↑(List.length (List.getD m (Int.toNat p) [])) : Int)) ∧
 List.set m (Int.toNat p) (List.set (List.getD m (Int.toNat p) []) (Int.toNat o) w) =
 (Cm.memWith m p o w).1 ∧
 true = (Cm.memWith m p o w).2 ∧ True)) := by kernel_rfl
def E_impl_FlatRead : Env := En (Go.Am.look [] [(81, [sOkG]), (82, [sSpot])])
theorem vc_impl_FlatRead (m : Cm.Mm) (p o : Int) : (FGA E_impl_FlatRead Try.f33 sFRead [⟨kM, m⟩,  ⟨kI, p⟩,  ⟨kI, o⟩] no) = (
 Cm.bd m ∧
 ((!!Cm.okG m) = true → (!!Cm.okG m) = true) ∧
 ((!!Cm.okG m) = true → (!!Cm.okG m) = true) ∧
 ((!!Cm.okG m) = true → True) ∧
 ((!!Cm.okG m) = true → (!!Cm.okG m) = true) ∧
 ((!Cm.okG m) = false → (!!Cm.okG m) = true) ∧
 ifb (!Cm.okG m || !Cm.spot p o) ((-3 : Int) = Cm.fRead m p o ∧ True)
 (((0 : Int) ≤ p ∧ p < (↑(List.length m) : Int)) ∧
 ((0 : Int) ≤ o ∧ o < (↑(List.length (List.getD m (Int.toNat p) [])) : Int)) ∧
 List.getD (List.getD m (Int.toNat p) []) (Int.toNat o) (0 : Int) = Cm.fRead m p o ∧ True)) := by kernel_rfl
def E_spec_FlatRead : Env := En (Go.Am.look [] [(120, [sOkG]), (124, [sMemAt])])
theorem vc_spec_FlatRead (m : Cm.Mm) (p o : Int) : (FGA E_spec_FlatRead Try.f73 sFRead [⟨kM, m⟩,  ⟨kI, p⟩,  ⟨kI, o⟩] no) = (
 Cm.bd m ∧
 Cm.bd m ∧
 ((!!Cm.okG m) = true → (!!Cm.okG m) = true) ∧
 ((!Cm.okG m) = false → (!!Cm.okG m) = true) ∧
 ifb (!Cm.okG m || !(Cm.memAt m p o).2) ((-3 : Int) = Cm.fRead m p o ∧ True)
 ((Cm.memAt m p o).1 = Cm.fRead m p o ∧ True)) := by kernel_rfl
def E_impl_FlatWrite : Env := En (Go.Am.look [] [(78, [sToM]), (81, [sOkG]), (82, [sSpot]), (83, [sWordOk])])
theorem vc_impl_FlatWrite (m : Cm.Mm) (p o w : Int) : (FGA E_impl_FlatWrite Try.f34 sFWrite [⟨kM, m⟩,  ⟨kI, p⟩,  ⟨kI, o⟩,  ⟨kI, w⟩] no) = (
 Cm.bd m ∧
 Cm.bd m ∧
 ((!!Cm.okG m) = true → (!!Cm.okG m) = true) ∧
 ((!!Cm.okG m) = true → (!!Cm.okG m) = true) ∧
 ((!!Cm.okG m) = true → True) ∧
 ((!!Cm.okG m) = true → (!!Cm.okG m) = true) ∧
 ((!Cm.okG m) = false → (!!Cm.okG m) = true) ∧
 ((!(!Cm.okG m || !Cm.spot p o)) = true → (!(!Cm.okG m || !Cm.spot p o)) = true) ∧
 ((!(!Cm.okG m || !Cm.spot p o)) = true → True) ∧
 ((!(!Cm.okG m || !Cm.spot p o)) = true → (!(!Cm.okG m || !Cm.spot p o)) = true) ∧
 ((!Cm.okG m || !Cm.spot p o) = false → (!(!Cm.okG m || !Cm.spot p o)) = true) ∧
 ifb (!Cm.okG m || !Cm.spot p o || !Cm.within w (0 : Int) (63 : Int))
 (m = (Cm.fWrite m p o w).1 ∧ (-3 : Int) = (Cm.fWrite m p o w).2 ∧ True)
 (((0 : Int) ≤ p ∧ p < (↑(List.length m) : Int)) ∧
 ((0 : Int) ≤ o ∧ o < (↑(List.length (List.getD m (Int.toNat p) [])) : Int)) ∧
 ((0 : Int) ≤ p ∧ p < (↑(List.length m) : Int)) ∧
 ((0 : Int) ≤ o ∧ o < (↑(List.length (List.getD m (Int.toNat p) [])) : Int)) ∧
 List.set m (Int.toNat p) (List.set (List.getD m (Int.toNat p) []) (Int.toNat o) w) =
 (Cm.fWrite m p o w).1 ∧
 List.getD (List.getD m (Int.toNat p) []) (Int.toNat o) (0 : Int) =
 (Cm.fWrite m p o w).2 ∧
 True)) := by kernel_rfl
def E_spec_FlatWrite : Env := En (Go.Am.look [] [(72, [sToM]), (120, [sOkG]), (124, [sMemAt]), (125, [sMemWith])])
theorem vc_spec_FlatWrite (m : Cm.Mm) (p o w : Int) : (FGA E_spec_FlatWrite Try.f74 sFWrite [⟨kM, m⟩,  ⟨kI, p⟩,  ⟨kI, o⟩,  ⟨kI, w⟩] no) = (
 Cm.bd m ∧
 Cm.bd m ∧
 Cm.bd m ∧
 ((!!Cm.okG m) = true → (!!Cm.okG m) = true) ∧
 ((!Cm.okG m) = false → (!!Cm.okG m) = true) ∧
 ifb (!Cm.okG m || !(Cm.memWith m p o w).2)
 (Cm.bd m ∧ m = (Cm.fWrite m p o w).1 ∧ (-3 : Int) = (Cm.fWrite m p o w).2 ∧ True)
 ((Cm.memWith m p o w).1 = (Cm.fWrite m p o w).1 ∧ (Cm.memAt m p o).1 = (Cm.fWrite m p o w).2 ∧ True)) := by kernel_rfl
def E_spec_l11Walk : Env := En (Go.Am.look [] [(107, [sWithin]), (120, [sOkG]), (150, [sMemTab])])
theorem vc_spec_l11Walk (m : Cm.Mm) (p o : Int) (w : Bool) : (FGA E_spec_l11Walk Try.f126 sFWalk [⟨kM, m⟩,  ⟨kI, p⟩,  ⟨kI, o⟩,  ⟨.bool, w⟩] no) = (
 Cm.bd m ∧
 ((!!Cm.okG m) = true → (!!Cm.okG m) = true) ∧
 ((!!Cm.okG m) = true → True) ∧
 ((!!Cm.okG m) = true → (!!Cm.okG m) = true) ∧
 ((!Cm.okG m) = false → (!!Cm.okG m) = true) ∧
 ((!(!Cm.okG m || !Cm.within p (0 : Int) (5 : Int))) = true →
 (!(!Cm.okG m || !Cm.within p (0 : Int) (5 : Int))) = true) ∧
 ((!(!Cm.okG m || !Cm.within p (0 : Int) (5 : Int))) = true → True) ∧
 ((!(!Cm.okG m || !Cm.within p (0 : Int) (5 : Int))) = true →
 (!(!Cm.okG m || !Cm.within p (0 : Int) (5 : Int))) = true) ∧
 ((!Cm.okG m || !Cm.within p (0 : Int) (5 : Int)) = false →
 (!(!Cm.okG m || !Cm.within p (0 : Int) (5 : Int))) = true) ∧
 ifb (!Cm.okG m || !Cm.within p (0 : Int) (5 : Int) || !Cm.within o (0 : Int) (3 : Int))
 ((false, (0 : Int), false) = (Cm.fWalk m p o w).1 ∧ (-3 : Int) = (Cm.fWalk m p o w).2 ∧ True)
 (Cm.bd m ∧
 ((0 : Int) ≤ p ∧ p < (↑(List.length (Cm.memTab m)) : Int)) ∧
 ifb (!(List.getD (Cm.memTab m) (Int.toNat p) (false, (0 : Int), false)).1)
 (List.getD (Cm.memTab m) (Int.toNat p) (false, (0 : Int), false) = (Cm.fWalk m p o w).1 ∧
 (-1 : Int) = (Cm.fWalk m p o w).2 ∧ True)
 ((w = true → w = true) ∧
 (w = true → w = true) ∧
 (w = true → w = true) ∧
 ifb (w && !(List.getD (Cm.memTab m) (Int.toNat p) (false, (0 : Int), false)).2.2)
 (List.getD (Cm.memTab m) (Int.toNat p) (false, (0 : Int), false) =
 (Cm.fWalk m p o w).1 ∧
 (-2 : Int) = (Cm.fWalk m p o w).2 ∧ True)
 (List.getD (Cm.memTab m) (Int.toNat p) (false, (0 : Int), false) =
 (Cm.fWalk m p o w).1 ∧
 (0 : Int) = (Cm.fWalk m p o w).2 ∧ True)))) := by kernel_rfl
def E_impl_FlatReadIn : Env := En (Go.Am.look [] [(81, [sOkG]), (82, [sSpot]), (84, [sMemTab])])
theorem vc_impl_FlatReadIn (m : Cm.Mm) (p o : Int) : (FGA E_impl_FlatReadIn Try.f35 sFReadIn [⟨kM, m⟩,  ⟨kI, p⟩,  ⟨kI, o⟩] no) = (
 Cm.bd m ∧
 ((!!Cm.okG m) = true → (!!Cm.okG m) = true) ∧
 ((!!Cm.okG m) = true → (!!Cm.okG m) = true) ∧
 ((!!Cm.okG m) = true → True) ∧
 ((!!Cm.okG m) = true → (!!Cm.okG m) = true) ∧
 ((!Cm.okG m) = false → (!!Cm.okG m) = true) ∧
 ifb (!Cm.okG m || !Cm.spot p o) ((-3 : Int) = Cm.fReadIn m p o ∧ True)
 (Cm.bd m ∧
 ((0 : Int) ≤ p ∧ p < (↑(List.length (Cm.memTab m)) : Int)) ∧
 ifb (!(List.getD (Cm.memTab m) (Int.toNat p) (false, (0 : Int), false)).1)
 ((-1 : Int) = Cm.fReadIn m p o ∧ True)
 (((0 : Int) ≤ (List.getD (Cm.memTab m) (Int.toNat p) (false, (0 : Int), false)).2.1 ∧
 (List.getD (Cm.memTab m) (Int.toNat p) (false, (0 : Int), false)).2.1 <
 (↑(List.length m) : Int)) ∧
 ((0 : Int) ≤ o ∧
 o <
 (↑(List.length
 (List.getD m
 (Int.toNat (List.getD (Cm.memTab m) (Int.toNat p) (false, (0 : Int), false)).2.1)
 [])) :
 Int)) ∧
 List.getD
 (List.getD m
 (Int.toNat (List.getD (Cm.memTab m) (Int.toNat p) (false, (0 : Int), false)).2.1) [])
 (Int.toNat o) (0 : Int) =
 Cm.fReadIn m p o ∧
 True))) := by kernel_rfl
def E_spec_FlatReadIn : Env := En (Go.Am.look [] [(126, [sFWalk])])
theorem vc_spec_FlatReadIn (m : Cm.Mm) (p o : Int) : (FGA E_spec_FlatReadIn Try.f75 sFReadIn [⟨kM, m⟩,  ⟨kI, p⟩,  ⟨kI, o⟩] no) = (
 Cm.bd m ∧
 ifb (decide ((Cm.fWalk m p o false).2 < (0 : Int))) ((Cm.fWalk m p o false).2 = Cm.fReadIn m p o ∧ True)
 (((0 : Int) ≤ (Cm.fWalk m p o false).1.2.1 ∧ (Cm.fWalk m p o false).1.2.1 < (↑(List.length m) : Int)) ∧
 ((0 : Int) ≤ o ∧ o < (↑(List.length (List.getD m (Int.toNat (Cm.fWalk m p o false).1.2.1) [])) : Int)) ∧
 List.getD (List.getD m (Int.toNat (Cm.fWalk m p o false).1.2.1) []) (Int.toNat o) (0 : Int) = Cm.fReadIn m p o ∧
 True)) := by kernel_rfl
def E_impl_FlatWriteIn : Env := En (Go.Am.look [] [(34, [sFWrite]), (78, [sToM]), (81, [sOkG]), (82, [sSpot]), (83, [sWordOk]), (84, [sMemTab])])
theorem vc_impl_FlatWriteIn (m : Cm.Mm) (p o w : Int) : (FGA E_impl_FlatWriteIn Try.f36 sFWriteIn [⟨kM, m⟩,  ⟨kI, p⟩,  ⟨kI, o⟩,  ⟨kI, w⟩] no) = (
 Cm.bd m ∧
 ((!!Cm.okG m) = true → (!!Cm.okG m) = true) ∧
 ((!!Cm.okG m) = true → (!!Cm.okG m) = true) ∧
 ((!!Cm.okG m) = true → True) ∧
 ((!!Cm.okG m) = true → (!!Cm.okG m) = true) ∧
 ((!Cm.okG m) = false → (!!Cm.okG m) = true) ∧
 ((!(!Cm.okG m || !Cm.spot p o)) = true → (!(!Cm.okG m || !Cm.spot p o)) = true) ∧
 ((!(!Cm.okG m || !Cm.spot p o)) = true → True) ∧
 ((!(!Cm.okG m || !Cm.spot p o)) = true → (!(!Cm.okG m || !Cm.spot p o)) = true) ∧
 ((!Cm.okG m || !Cm.spot p o) = false → (!(!Cm.okG m || !Cm.spot p o)) = true) ∧
 ifb (!Cm.okG m || !Cm.spot p o || !Cm.within w (0 : Int) (63 : Int))
 (Cm.bd m ∧ m = (Cm.fWriteIn m p o w).1 ∧ (-3 : Int) = (Cm.fWriteIn m p o w).2 ∧ True)
 (Cm.bd m ∧
 ((0 : Int) ≤ p ∧ p < (↑(List.length (Cm.memTab m)) : Int)) ∧
 ifb (!(List.getD (Cm.memTab m) (Int.toNat p) (false, (0 : Int), false)).1)
 (Cm.bd m ∧ m = (Cm.fWriteIn m p o w).1 ∧ (-1 : Int) = (Cm.fWriteIn m p o w).2 ∧ True)
 (ifb (!(List.getD (Cm.memTab m) (Int.toNat p) (false, (0 : Int), false)).2.2)
 (Cm.bd m ∧ m = (Cm.fWriteIn m p o w).1 ∧ (-2 : Int) = (Cm.fWriteIn m p o w).2 ∧ True)
 (Cm.bd m ∧
 (Cm.fWrite m (List.getD (Cm.memTab m) (Int.toNat p) (false, (0 : Int), false)).2.1 o
 w).1 =
 (Cm.fWriteIn m p o w).1 ∧
 (Cm.fWrite m (List.getD (Cm.memTab m) (Int.toNat p) (false, (0 : Int), false)).2.1 o
 w).2 =
 (Cm.fWriteIn m p o w).2 ∧
 True)))) := by kernel_rfl
def E_spec_FlatWriteIn : Env := En (Go.Am.look [] [(72, [sToM]), (107, [sWithin]), (126, [sFWalk])])
theorem vc_spec_FlatWriteIn (m : Cm.Mm) (p o w : Int) : (FGA E_spec_FlatWriteIn Try.f76 sFWriteIn [⟨kM, m⟩,  ⟨kI, p⟩,  ⟨kI, o⟩,  ⟨kI, w⟩] no) = (
 Cm.bd m ∧
 True ∧
 ifb (!Cm.within w (0 : Int) (63 : Int))
 (Cm.bd m ∧ m = (Cm.fWriteIn m p o w).1 ∧ (-3 : Int) = (Cm.fWriteIn m p o w).2 ∧ True)
 (ifb (decide ((Cm.fWalk m p o true).2 < (0 : Int)))
 (Cm.bd m ∧ m = (Cm.fWriteIn m p o w).1 ∧ (Cm.fWalk m p o true).2 = (Cm.fWriteIn m p o w).2 ∧ True)
 (Cm.bd m ∧
 ((0 : Int) ≤ (Cm.fWalk m p o true).1.2.1 ∧ (Cm.fWalk m p o true).1.2.1 < (↑(List.length m) : Int)) ∧
 ((0 : Int) ≤ o ∧ o < (↑(List.length (List.getD m (Int.toNat (Cm.fWalk m p o true).1.2.1) [])) : Int)) ∧
 ((0 : Int) ≤ (Cm.fWalk m p o true).1.2.1 ∧ (Cm.fWalk m p o true).1.2.1 < (↑(List.length m) : Int)) ∧
 ((0 : Int) ≤ o ∧ o < (↑(List.length (List.getD m (Int.toNat (Cm.fWalk m p o true).1.2.1) [])) : Int)) ∧
 List.set m (Int.toNat (Cm.fWalk m p o true).1.2.1)
 (List.set (List.getD m (Int.toNat (Cm.fWalk m p o true).1.2.1) []) (Int.toNat o) w) =
 (Cm.fWriteIn m p o w).1 ∧
 List.getD (List.getD m (Int.toNat (Cm.fWalk m p o true).1.2.1) []) (Int.toNat o) (0 : Int) =
 (Cm.fWriteIn m p o w).2 ∧
 True))) := by kernel_rfl
def E_impl_FlatDo : Env := En (Go.Am.look [] [(33, [sFRead]), (34, [sFWrite]), (35, [sFReadIn]), (36, [sFWriteIn]), (78, [sToM])])
theorem vc_impl_FlatDo (m : Cm.Mm) (a : Cm.A) : (FGA E_impl_FlatDo Try.f27 sFDo [⟨kM, m⟩,  ⟨kA, a⟩] no) = (
 ifb (a.1 == (1 : Int)) (Cm.bd m ∧ Cm.bd m ∧ m = (Cm.fDo m a).1 ∧ Cm.fRead m a.2.2.1 a.2.2.2.1 = (Cm.fDo m a).2 ∧ True)
 (ifb (a.1 == (2 : Int))
 (Cm.bd m ∧
 (Cm.fWrite m a.2.2.1 a.2.2.2.1 a.2.2.2.2).1 = (Cm.fDo m a).1 ∧
 (Cm.fWrite m a.2.2.1 a.2.2.2.1 a.2.2.2.2).2 = (Cm.fDo m a).2 ∧ True)
 (ifb (a.1 == (3 : Int))
 (Cm.bd m ∧ Cm.bd m ∧ m = (Cm.fDo m a).1 ∧ Cm.fReadIn m a.2.2.1 a.2.2.2.1 = (Cm.fDo m a).2 ∧ True)
 (ifb (a.1 == (4 : Int))
 (Cm.bd m ∧
 (Cm.fWriteIn m a.2.2.1 a.2.2.2.1 a.2.2.2.2).1 = (Cm.fDo m a).1 ∧
 (Cm.fWriteIn m a.2.2.1 a.2.2.2.1 a.2.2.2.2).2 = (Cm.fDo m a).2 ∧ True)
 (Cm.bd m ∧ m = (Cm.fDo m a).1 ∧ (0 : Int) = (Cm.fDo m a).2 ∧ True))))) := by kernel_rfl
def E_spec_FlatDo : Env := En (Go.Am.look [] [(72, [sToM]), (73, [sFRead]), (74, [sFWrite]), (75, [sFReadIn]), (76, [sFWriteIn])])
theorem vc_spec_FlatDo (m : Cm.Mm) (a : Cm.A) : (FGA E_spec_FlatDo Try.f24 sFDo [⟨kM, m⟩,  ⟨kA, a⟩] no) = (
 ifb (a.1 == (1 : Int)) (Cm.bd m ∧ Cm.bd m ∧ m = (Cm.fDo m a).1 ∧ Cm.fRead m a.2.2.1 a.2.2.2.1 = (Cm.fDo m a).2 ∧ True)
 (ifb (a.1 == (2 : Int))
 (Cm.bd m ∧
 (Cm.fWrite m a.2.2.1 a.2.2.2.1 a.2.2.2.2).1 = (Cm.fDo m a).1 ∧
 (Cm.fWrite m a.2.2.1 a.2.2.2.1 a.2.2.2.2).2 = (Cm.fDo m a).2 ∧ True)
 (ifb (a.1 == (3 : Int))
 (Cm.bd m ∧ Cm.bd m ∧ m = (Cm.fDo m a).1 ∧ Cm.fReadIn m a.2.2.1 a.2.2.2.1 = (Cm.fDo m a).2 ∧ True)
 (ifb (a.1 == (4 : Int))
 (Cm.bd m ∧
 (Cm.fWriteIn m a.2.2.1 a.2.2.2.1 a.2.2.2.2).1 = (Cm.fDo m a).1 ∧
 (Cm.fWriteIn m a.2.2.1 a.2.2.2.1 a.2.2.2.2).2 = (Cm.fDo m a).2 ∧ True)
 (Cm.bd m ∧ m = (Cm.fDo m a).1 ∧ (0 : Int) = (Cm.fDo m a).2 ∧ True))))) := by kernel_rfl
def E_laws_FnExactFlatDo : Env := En (Go.Am.look [] [(23, [sSzM]), (24, [sFDo]), (25, [sToM]), (26, [sToAct]), (27, [sFDo]), (28, [sEqM]), (29, [sMarkM]), (30, [sHeldM])])
theorem vc_laws_FnExactFlatDo (m : Cm.Mm) (a : Cm.A) : (FGA E_laws_FnExactFlatDo Try.f7 sLawMA [⟨kM, m⟩,  ⟨kA, a⟩] no) = (
 (Cm.wfM m ∧ (0 : Int) ≤ (1048576 : Int) ∧ (1048576 : Int) ≤ (1048576 : Int)) ∧
 ifb (decide (Cm.szLL m (1048576 : Int) < (0 : Int))) (true = true ∧ True)
 (Cm.bd m ∧
 True ∧
 Cm.bd m ∧
 Cm.bd m ∧
 True ∧
 Cm.bd m ∧
 Cm.bd (Cm.fDo m a).1 ∧
 ((!!Cm.eqM (Cm.fDo m a).1 (Cm.fDo m a).1) = true → (!!Cm.eqM (Cm.fDo m a).1 (Cm.fDo m a).1) = true) ∧
 ((!!Cm.eqM (Cm.fDo m a).1 (Cm.fDo m a).1) = true →
 (!!Cm.eqM (Cm.fDo m a).1 (Cm.fDo m a).1) = true) ∧
 ((!Cm.eqM (Cm.fDo m a).1 (Cm.fDo m a).1) = false →
 (!!Cm.eqM (Cm.fDo m a).1 (Cm.fDo m a).1) = true) ∧
 ifb (!Cm.eqM (Cm.fDo m a).1 (Cm.fDo m a).1 || (Cm.fDo m a).2 != (Cm.fDo m a).2)
 (false = true ∧ True)
 (Cm.bd m ∧
 Cm.bd m ∧
 ifb (!Cm.eqM m m) (false = true ∧ True)
 ((Cm.bd m ∧ (0 : Int) ≤ (1 : Int) ∧ (1 : Int) ≤ (1099511627776 : Int)) ∧
 ((!decide ((1 : Int) + Cm.cnt m < (0 : Int))) = true →
 (!decide ((1 : Int) + Cm.cnt m < (0 : Int))) = true) ∧
 ((!decide ((1 : Int) + Cm.cnt m < (0 : Int))) = true →
 (!decide ((1 : Int) + Cm.cnt m < (0 : Int))) = true) ∧
 ((!decide ((1 : Int) + Cm.cnt m < (0 : Int))) = true → Cm.bd (Cm.fDo m a).1) ∧
 ((!decide ((1 : Int) + Cm.cnt m < (0 : Int))) = true →
 (!decide ((1 : Int) + Cm.cnt m < (0 : Int))) = true) ∧
 (decide ((1 : Int) + Cm.cnt m < (0 : Int)) = false →
 (!decide ((1 : Int) + Cm.cnt m < (0 : Int))) = true) ∧
 ((!(decide ((1 : Int) + Cm.cnt m < (0 : Int)) ||
 !Cm.eqM (Cm.fDo m a).1 (Cm.fDo m a).1)) =
 true →
 (!(decide ((1 : Int) + Cm.cnt m < (0 : Int)) ||
 !Cm.eqM (Cm.fDo m a).1 (Cm.fDo m a).1)) =
 true) ∧
 ((!(decide ((1 : Int) + Cm.cnt m < (0 : Int)) ||
 !Cm.eqM (Cm.fDo m a).1 (Cm.fDo m a).1)) =
 true →
 (!(decide ((1 : Int) + Cm.cnt m < (0 : Int)) ||
 !Cm.eqM (Cm.fDo m a).1 (Cm.fDo m a).1)) =
 true) ∧
 ((decide ((1 : Int) + Cm.cnt m < (0 : Int)) ||
 !Cm.eqM (Cm.fDo m a).1 (Cm.fDo m a).1) =
 false →
 (!(decide ((1 : Int) + Cm.cnt m < (0 : Int)) ||
 !Cm.eqM (Cm.fDo m a).1 (Cm.fDo m a).1)) =
 true) ∧
 ifb
 (decide ((1 : Int) + Cm.cnt m < (0 : Int)) ||
 !Cm.eqM (Cm.fDo m a).1 (Cm.fDo m a).1 ||
 (Cm.fDo m a).2 != (Cm.fDo m a).2)
 (false = true ∧ True)
 ((Cm.bd (Cm.fDo m a).1 ∧
 (0 : Int) ≤ (1 : Int) ∧ (1 : Int) ≤ (1099511627776 : Int)) ∧
 (Cm.bd (Cm.markM (Cm.fDo m a).1 (1 : Int)) ∧
 (0 : Int) ≤ (1 : Int) ∧ (1 : Int) ≤ (1099511627776 : Int)) ∧
 ifb
 (decide
 (Cm.heldM (Cm.markM (Cm.fDo m a).1 (1 : Int)) (1 : Int) <
 (0 : Int)))
 (false = true ∧ True)
 (ifb
 (Cm.heldM (Cm.markM (Cm.fDo m a).1 (1 : Int)) (1 : Int) !=
 (1 : Int) + Cm.cnt (Cm.fDo m a).1)
 (false = true ∧ True)
 (Cm.bd m ∧
 True ∧
 Cm.bd m ∧
 Cm.bd (Cm.fDo m a).1 ∧
 ((!!Cm.eqM (Cm.fDo m a).1 (Cm.fDo m a).1) = true →
 (!!Cm.eqM (Cm.fDo m a).1 (Cm.fDo m a).1) =
 true) ∧
 ((!!Cm.eqM (Cm.fDo m a).1 (Cm.fDo m a).1) = true →
 (!!Cm.eqM (Cm.fDo m a).1 (Cm.fDo m a).1) =
 true) ∧
 ((!Cm.eqM (Cm.fDo m a).1 (Cm.fDo m a).1) =
 false →
 (!!Cm.eqM (Cm.fDo m a).1 (Cm.fDo m a).1) =
 true) ∧
 ifb
 (!Cm.eqM (Cm.fDo m a).1 (Cm.fDo m a).1 ||
 (Cm.fDo m a).2 != (Cm.fDo m a).2)
 (false = true ∧ True)
 ((Cm.bd
 (Cm.markM (Cm.fDo m a).1 (1 : Int)) ∧
 (0 : Int) ≤ (1 : Int) ∧
 (1 : Int) ≤ (1099511627776 : Int)) ∧
 ifb
 (decide
 (Cm.heldM
 (Cm.markM (Cm.fDo m a).1
 (1 : Int))
 (1 : Int) <
 (0 : Int)))
 (false = true ∧ True)
 (ifb
 (Cm.heldM
 (Cm.markM (Cm.fDo m a).1
 (1 : Int))
 (1 : Int) !=
 (1 : Int) + Cm.cnt (Cm.fDo m a).1)
 (false = true ∧ True)
 (true = true ∧ True)))))))))) := by kernel_rfl
end Go.Proofs.Ytcfmelkegjpciaa.T

open Go Go.Am Go.Proofs
open Go.Cm (R rdOk)
namespace Go.Proofs.Ytcfmelkegjpciaa.T
set_option maxHeartbeats 0
set_option maxRecDepth 100000
def an_memD (p : R → Int → Int) (r0 : R) : Nat → Ann
  | 0 => .mk (Nat × R × Cm.Mm) (fun a => ⟨[(0, .pb 0 0 []), (3, rf 0), (4, nn (a.1 : Int))], [rt 0 kP a.2.2], [(0, ⟨0, some (opnV kR a.2.1), false⟩)]⟩) (fun a => a.1)
    (fun a => (a.1 ≤ 25 ∧ Cm.shp a.2.2) ∧ rdOk a.2.1 (137438953472 + 4 * (26 - (a.1 : Int))) ∧ Cm.memA p r0 = Cm.memGo1 p a.1 a.2) fun _ _ => .none
  | _ => .mk (Nat × R × Cm.Mm) (fun a => ⟨[(0, .pb 0 0 []), (3, rf 0), (5, nn (a.1 : Int))], [rt 0 kP a.2.2], [(0, ⟨0, some (opnV kR a.2.1), false⟩)]⟩) (fun a => a.1)
    (fun a => (a.1 ≤ 6 ∧ Cm.shp a.2.2) ∧ rdOk a.2.1 (137438953472 + 110 + 4 * (26 - (a.1 : Int))) ∧ Cm.memD p r0 = Cm.memGo2 p a.1 a.2) fun _ _ => .none
variable (p : R → Int → Int) (act : R → Int → R × Cm.A) (mf : R → R × Cm.Mm) (D : List Int → Cm.Mm × Cm.A)
def Em : Env := En (Go.Am.look [] [(103, [sMemNew]), (105, [sPick p]), (128, [sWord (Cm.wordM p)])])
def Eo : Env := En (Go.Am.look [] [(105, [sPick p]), (127, [sMemD mf])])
def Ed : Env := En (Go.Am.look [] [(69, [sOpen]), (79, [sMemD mf]), (80, [sAct act])])
def E8 : Env := En (Go.Am.look [] [(24, [sFDo]), (27, [sFDo]), (31, [sDrawFlat D]), (32, [sEqM]), (33, [sFRead]), (34, [sFWrite]), (35, [sFReadIn]), (36, [sFWriteIn])])
theorem vc127 (r : R) : (FGA (Em p) Try.f127 (sMemD (Cm.memD p)) [⟨kR, r⟩] (an_memD p r)) = (
 True ∧
 rdOk r (1099511627776 : Int) ∧
 (∃ (a : Nat × R × Cm.Mm),
 ((a.1 ≤ (25 : Nat) ∧ Cm.shp a.2.2) ∧
 rdOk a.2.1 ((137438953472 : Int) + (4 : Int) * ((26 : Int) - (↑a.1 : Int))) ∧
 Cm.memA p r = Cm.memGo1 p a.1 a.2) ∧
 (([] : Go.Am.Pth) = [] ∧ ([] : Go.Am.Pth) = [] ∧ (↑a.1 : Int) = p r (26 : Int)) ∧
 a.2.2 = Cm.memNew (6 : Int) ∧ a.2.1.1 = r.1 ∧ a.2.1.2 = Cm.inc r.2) ∧
 ∀ (a : Nat × R × Cm.Mm),
 (a.1 ≤ (25 : Nat) ∧ Cm.shp a.2.2) ∧
 rdOk a.2.1 ((137438953472 : Int) + (4 : Int) * ((26 : Int) - (↑a.1 : Int))) ∧
 Cm.memA p r = Cm.memGo1 p a.1 a.2 →
 ifb (decide ((↑a.1 : Int) > (0 : Int)))
 (rdOk a.2.1 (1099511627776 : Int) ∧
 ((0 : Int) ≤ p a.2.1 (6 : Int) ∧ p a.2.1 (6 : Int) < (↑(List.length a.2.2) : Int)) ∧
 rdOk (a.2.1.1, Cm.inc a.2.1.2) (1099511627776 : Int) ∧
 rdOk (a.2.1.1, Cm.inc (Cm.inc a.2.1.2)) (549755813888 : Int) ∧
 ((0 : Int) ≤ p (a.2.1.1, Cm.inc a.2.1.2) (4 : Int) ∧
 p (a.2.1.1, Cm.inc a.2.1.2) (4 : Int) <
 (↑(List.length (List.getD a.2.2 (Int.toNat (p a.2.1 (6 : Int))) [])) : Int)) ∧
 ∃ (a' : Nat × R × Cm.Mm),
 (((a'.1 ≤ (25 : Nat) ∧ Cm.shp a'.2.2) ∧
 rdOk a'.2.1 ((137438953472 : Int) + (4 : Int) * ((26 : Int) - (↑a'.1 : Int))) ∧
 Cm.memA p r = Cm.memGo1 p a'.1 a'.2) ∧
 a'.1 < a.1) ∧
 (([] : Go.Am.Pth) = [] ∧ ([] : Go.Am.Pth) = [] ∧ (↑a'.1 : Int) = IntKind.wrap IntKind.i64 ((↑a.1 : Int) - (1 : Int))) ∧
 a'.2.2 =
 List.set a.2.2 (Int.toNat (p a.2.1 (6 : Int)))
 (List.set (List.getD a.2.2 (Int.toNat (p a.2.1 (6 : Int))) [])
 (Int.toNat (p (a.2.1.1, Cm.inc a.2.1.2) (4 : Int)))
 (Cm.wordM p (a.2.1.1, Cm.inc (Cm.inc a.2.1.2)))) ∧
 a'.2.1.1 = a.2.1.1 ∧ a'.2.1.2 = Cm.inc (Cm.inc (Cm.inc (Cm.inc a.2.1.2))))
 (rdOk a.2.1 (1099511627776 : Int) ∧
 (∃ (a_1 : Nat × R × Cm.Mm),
 ((a_1.1 ≤ (6 : Nat) ∧ Cm.shp a_1.2.2) ∧
 rdOk a_1.2.1 ((137438953472 : Int) + (110 : Int) + (4 : Int) * ((26 : Int) - (↑a_1.1 : Int))) ∧
 Cm.memD p r = Cm.memGo2 p a_1.1 a_1.2) ∧
 (([] : Go.Am.Pth) = [] ∧ ([] : Go.Am.Pth) = [] ∧ (↑a_1.1 : Int) = p a.2.1 (7 : Int)) ∧
 a_1.2.2 = a.2.2 ∧ a_1.2.1.1 = a.2.1.1 ∧ a_1.2.1.2 = Cm.inc a.2.1.2) ∧
 ∀ (a : Nat × R × Cm.Mm),
 (a.1 ≤ (6 : Nat) ∧ Cm.shp a.2.2) ∧
 rdOk a.2.1 ((137438953472 : Int) + (110 : Int) + (4 : Int) * ((26 : Int) - (↑a.1 : Int))) ∧
 Cm.memD p r = Cm.memGo2 p a.1 a.2 →
 ifb (decide ((↑a.1 : Int) > (0 : Int)))
 (rdOk a.2.1 (1099511627776 : Int) ∧
 (4 : Int) ≠ (0 : Int) ∧
 ((0 : Int) ≤ IntKind.wrap IntKind.i64 (Int.tdiv (p a.2.1 (6 : Int)) (4 : Int)) ∧
 IntKind.wrap IntKind.i64 (Int.tdiv (p a.2.1 (6 : Int)) (4 : Int)) <
 (↑(List.length a.2.2) : Int)) ∧
 (4 : Int) ≠ (0 : Int) ∧
 rdOk (a.2.1.1, Cm.inc a.2.1.2) (1099511627776 : Int) ∧
 ((0 : Int) ≤ Int.tmod (p a.2.1 (6 : Int)) (4 : Int) ∧
 Int.tmod (p a.2.1 (6 : Int)) (4 : Int) <
 (↑(List.length
 (List.getD a.2.2
 (Int.toNat
 (IntKind.wrap IntKind.i64 (Int.tdiv (p a.2.1 (6 : Int)) (4 : Int))))
 [])) :
 Int)) ∧
 ∃ (a' : Nat × R × Cm.Mm),
 (((a'.1 ≤ (6 : Nat) ∧ Cm.shp a'.2.2) ∧
 rdOk a'.2.1
 ((137438953472 : Int) + (110 : Int) +
 (4 : Int) * ((26 : Int) - (↑a'.1 : Int))) ∧
 Cm.memD p r = Cm.memGo2 p a'.1 a'.2) ∧
 a'.1 < a.1) ∧
 (([] : Go.Am.Pth) = [] ∧
 ([] : Go.Am.Pth) = [] ∧
 (↑a'.1 : Int) = IntKind.wrap IntKind.i64 ((↑a.1 : Int) - (1 : Int))) ∧
 a'.2.2 =
 List.set a.2.2
 (Int.toNat
 (IntKind.wrap IntKind.i64 (Int.tdiv (p a.2.1 (6 : Int)) (4 : Int))))
 (List.set
 (List.getD a.2.2
 (Int.toNat
 (IntKind.wrap IntKind.i64 (Int.tdiv (p a.2.1 (6 : Int)) (4 : Int))))
 [])
 (Int.toNat (Int.tmod (p a.2.1 (6 : Int)) (4 : Int)))
 (IntKind.wrap IntKind.i64
 ((5 : Int) + p (a.2.1.1, Cm.inc a.2.1.2) (8 : Int)))) ∧
 a'.2.1.1 = a.2.1.1 ∧ a'.2.1.2 = Cm.inc (Cm.inc a.2.1.2))
 (a.2.2 = (Cm.memD p r).2 ∧ a.2.1 = (Cm.memD p r).1 ∧ True))) := by kernel_rfl
theorem vc79 (F : R → R × Cm.Mm) (r : R) : (FGA (Eo p mf) Try.f79 (sMemD F) [⟨kR, r⟩] no) = (
 rdOk r (137438953472 : Int) ∧
 rdOk (mf r).1 (1099511627776 : Int) ∧
 ifb (p (mf r).1 (20 : Int) == (0 : Int))
 (((0 : Int) ≤ (1 : Int) ∧
 (1 : Int) ≤ (↑(List.length (mf r).2) : Int) ∧
 (↑(List.length (mf r).2) : Int) ≤ (↑(List.length (mf r).2) : Int)) ∧
 ((1 : Nat) ≤ List.length (mf r).2 ∧ List.length (mf r).2 = List.length (mf r).2) ∧
 List.drop (1 : Nat) (mf r).2 = (F r).2 ∧ ((mf r).1.1, Cm.inc (mf r).1.2) = (F r).1 ∧ True)
 (ifb (p (mf r).1 (20 : Int) == (1 : Int))
 (rdOk ((mf r).1.1, Cm.inc (mf r).1.2) (1099511627776 : Int) ∧
 ((0 : Int) ≤ p ((mf r).1.1, Cm.inc (mf r).1.2) (↑(List.length (mf r).2) : Int) ∧
 p ((mf r).1.1, Cm.inc (mf r).1.2) (↑(List.length (mf r).2) : Int) < (↑(List.length (mf r).2) : Int)) ∧
 List.set (mf r).2 (Int.toNat (p ((mf r).1.1, Cm.inc (mf r).1.2) (↑(List.length (mf r).2) : Int)))
 [(1 : Int), (2 : Int)] =
 (F r).2 ∧
 ((mf r).1.1, Cm.inc (Cm.inc (mf r).1.2)) = (F r).1 ∧ True)
 (ifb (p (mf r).1 (20 : Int) == (2 : Int))
 (rdOk ((mf r).1.1, Cm.inc (mf r).1.2) (1099511627776 : Int) ∧
 ((0 : Int) ≤ p ((mf r).1.1, Cm.inc (mf r).1.2) (↑(List.length (mf r).2) : Int) ∧
 p ((mf r).1.1, Cm.inc (mf r).1.2) (↑(List.length (mf r).2) : Int) < (↑(List.length (mf r).2) : Int)) ∧
 rdOk ((mf r).1.1, Cm.inc (Cm.inc (mf r).1.2)) (1099511627776 : Int) ∧
 ((0 : Int) ≤ p ((mf r).1.1, Cm.inc (Cm.inc (mf r).1.2)) (2 : Int) ∧
 p ((mf r).1.1, Cm.inc (Cm.inc (mf r).1.2)) (2 : Int) < (↑(2 : Nat) : Int)) ∧
 ((0 : Int) ≤ (0 : Int) ∧
 (0 : Int) <
 (↑(List.length
 (List.getD (mf r).2
 (Int.toNat (p ((mf r).1.1, Cm.inc (mf r).1.2) (↑(List.length (mf r).2) : Int))) [])) :
 Int)) ∧
 List.set (mf r).2 (Int.toNat (p ((mf r).1.1, Cm.inc (mf r).1.2) (↑(List.length (mf r).2) : Int)))
 (List.set
 (List.getD (mf r).2
 (Int.toNat (p ((mf r).1.1, Cm.inc (mf r).1.2) (↑(List.length (mf r).2) : Int))) [])
 (0 : Nat)
 (List.getD [(-1 : Int), (64 : Int)]
 (Int.toNat (p ((mf r).1.1, Cm.inc (Cm.inc (mf r).1.2)) (2 : Int))) (0 : Int))) =
 (F r).2 ∧
 ((mf r).1.1, Cm.inc (Cm.inc (Cm.inc (mf r).1.2))) = (F r).1 ∧ True)
 ((mf r).2 = (F r).2 ∧ ((mf r).1.1, Cm.inc (mf r).1.2) = (F r).1 ∧ True)))) := by kernel_rfl
theorem vc31 (b : List Int) : (FGA (Ed act mf) Try.f31 (sDrawFlat D) [⟨kU, b⟩] no) = (
 True ∧
 rdOk (Cm.cut2 b, (0 : Int)) (137438953472 : Int) ∧
 (rdOk (mf (Cm.cut2 b, (0 : Int))).1 (274877906944 : Int) ∧ (1 : Int) ≤ (2 : Int) ∧ (2 : Int) ≤ (100 : Int)) ∧
 (mf (Cm.cut2 b, (0 : Int))).2 = (D b).1 ∧ (act (mf (Cm.cut2 b, (0 : Int))).1 (2 : Int)).2 = (D b).2 ∧ True) := by kernel_rfl
theorem vc8 (b : List Int) : (FGA (E8 D) Try.f8 sLawB [⟨kU, b⟩] no) = (
 ifb (decide ((↑(List.length b) : Int) > (1048576 : Int))) (true = true ∧ True)
 (Cm.bytes b ∧
 Cm.bd (D b).1 ∧
 Cm.bd (D b).1 ∧
 ((!(Cm.fDo (D b).1 (D b).2).2 != (Cm.fDo (D b).1 (D b).2).2) = true →
 (!(Cm.fDo (D b).1 (D b).2).2 != (Cm.fDo (D b).1 (D b).2).2) = true) ∧
 ((!(Cm.fDo (D b).1 (D b).2).2 != (Cm.fDo (D b).1 (D b).2).2) = true →
 (!(Cm.fDo (D b).1 (D b).2).2 != (Cm.fDo (D b).1 (D b).2).2) = true) ∧
 ((!(Cm.fDo (D b).1 (D b).2).2 != (Cm.fDo (D b).1 (D b).2).2) = true → Cm.bd (Cm.fDo (D b).1 (D b).2).1) ∧
 ((!(Cm.fDo (D b).1 (D b).2).2 != (Cm.fDo (D b).1 (D b).2).2) = true →
 (!(Cm.fDo (D b).1 (D b).2).2 != (Cm.fDo (D b).1 (D b).2).2) = true) ∧
 (((Cm.fDo (D b).1 (D b).2).2 != (Cm.fDo (D b).1 (D b).2).2) = false →
 (!(Cm.fDo (D b).1 (D b).2).2 != (Cm.fDo (D b).1 (D b).2).2) = true) ∧
 ifb
 ((Cm.fDo (D b).1 (D b).2).2 != (Cm.fDo (D b).1 (D b).2).2 ||
 !Cm.eqM (Cm.fDo (D b).1 (D b).2).1 (Cm.fDo (D b).1 (D b).2).1)
 (false = true ∧ True)
 (ifb ((D b).2.1 == (1 : Int))
 (Cm.bd (D b).1 ∧
 ((Cm.fRead (D b).1 (D b).2.2.2.1 (D b).2.2.2.2.1 == (Cm.fDo (D b).1 (D b).2).2) = true →
 (Cm.fRead (D b).1 (D b).2.2.2.1 (D b).2.2.2.2.1 == (Cm.fDo (D b).1 (D b).2).2) = true) ∧
 ((Cm.fRead (D b).1 (D b).2.2.2.1 (D b).2.2.2.2.1 == (Cm.fDo (D b).1 (D b).2).2) = true →
 (Cm.fRead (D b).1 (D b).2.2.2.1 (D b).2.2.2.2.1 == (Cm.fDo (D b).1 (D b).2).2) = true) ∧
 ((Cm.fRead (D b).1 (D b).2.2.2.1 (D b).2.2.2.2.1 == (Cm.fDo (D b).1 (D b).2).2) = true →
 Cm.bd (Cm.fDo (D b).1 (D b).2).1) ∧
 ((Cm.fRead (D b).1 (D b).2.2.2.1 (D b).2.2.2.2.1 == (Cm.fDo (D b).1 (D b).2).2) = true →
 (Cm.fRead (D b).1 (D b).2.2.2.1 (D b).2.2.2.2.1 == (Cm.fDo (D b).1 (D b).2).2) =
 true) ∧
 (Cm.fRead (D b).1 (D b).2.2.2.1 (D b).2.2.2.2.1 == (Cm.fDo (D b).1 (D b).2).2 &&
 Cm.eqM (Cm.fDo (D b).1 (D b).2).1 (D b).1) =
 true ∧
 True)
 (ifb ((D b).2.1 == (2 : Int))
 (Cm.bd (D b).1 ∧
 (((Cm.fWrite (D b).1 (D b).2.2.2.1 (D b).2.2.2.2.1 (D b).2.2.2.2.2).2 ==
 (Cm.fDo (D b).1 (D b).2).2) =
 true →
 ((Cm.fWrite (D b).1 (D b).2.2.2.1 (D b).2.2.2.2.1 (D b).2.2.2.2.2).2 ==
 (Cm.fDo (D b).1 (D b).2).2) =
 true) ∧
 (((Cm.fWrite (D b).1 (D b).2.2.2.1 (D b).2.2.2.2.1 (D b).2.2.2.2.2).2 ==
 (Cm.fDo (D b).1 (D b).2).2) =
 true →
 ((Cm.fWrite (D b).1 (D b).2.2.2.1 (D b).2.2.2.2.1 (D b).2.2.2.2.2).2 ==
 (Cm.fDo (D b).1 (D b).2).2) =
 true) ∧
 (((Cm.fWrite (D b).1 (D b).2.2.2.1 (D b).2.2.2.2.1 (D b).2.2.2.2.2).2 ==
 (Cm.fDo (D b).1 (D b).2).2) =
 true →
 Cm.bd (Cm.fDo (D b).1 (D b).2).1) ∧
 (((Cm.fWrite (D b).1 (D b).2.2.2.1 (D b).2.2.2.2.1 (D b).2.2.2.2.2).2 ==
 (Cm.fDo (D b).1 (D b).2).2) =
 true →
 ((Cm.fWrite (D b).1 (D b).2.2.2.1 (D b).2.2.2.2.1 (D b).2.2.2.2.2).2 ==
 (Cm.fDo (D b).1 (D b).2).2) =
 true) ∧
 ((Cm.fWrite (D b).1 (D b).2.2.2.1 (D b).2.2.2.2.1 (D b).2.2.2.2.2).2 ==
 (Cm.fDo (D b).1 (D b).2).2 &&
 Cm.eqM (Cm.fDo (D b).1 (D b).2).1
 (Cm.fWrite (D b).1 (D b).2.2.2.1 (D b).2.2.2.2.1 (D b).2.2.2.2.2).1) =
 true ∧
 True)
 (ifb ((D b).2.1 == (3 : Int))
 (Cm.bd (D b).1 ∧
 ((Cm.fReadIn (D b).1 (D b).2.2.2.1 (D b).2.2.2.2.1 == (Cm.fDo (D b).1 (D b).2).2) = true →
 (Cm.fReadIn (D b).1 (D b).2.2.2.1 (D b).2.2.2.2.1 == (Cm.fDo (D b).1 (D b).2).2) =
 true) ∧
 ((Cm.fReadIn (D b).1 (D b).2.2.2.1 (D b).2.2.2.2.1 == (Cm.fDo (D b).1 (D b).2).2) = true →
 (Cm.fReadIn (D b).1 (D b).2.2.2.1 (D b).2.2.2.2.1 == (Cm.fDo (D b).1 (D b).2).2) =
 true) ∧
 ((Cm.fReadIn (D b).1 (D b).2.2.2.1 (D b).2.2.2.2.1 == (Cm.fDo (D b).1 (D b).2).2) =
 true →
 Cm.bd (Cm.fDo (D b).1 (D b).2).1) ∧
 ((Cm.fReadIn (D b).1 (D b).2.2.2.1 (D b).2.2.2.2.1 == (Cm.fDo (D b).1 (D b).2).2) =
 true →
 (Cm.fReadIn (D b).1 (D b).2.2.2.1 (D b).2.2.2.2.1 == (Cm.fDo (D b).1 (D b).2).2) =
 true) ∧
 (Cm.fReadIn (D b).1 (D b).2.2.2.1 (D b).2.2.2.2.1 == (Cm.fDo (D b).1 (D b).2).2 &&
 Cm.eqM (Cm.fDo (D b).1 (D b).2).1 (D b).1) =
 true ∧
 True)
 (ifb ((D b).2.1 == (4 : Int))
 (Cm.bd (D b).1 ∧
 (((Cm.fWriteIn (D b).1 (D b).2.2.2.1 (D b).2.2.2.2.1 (D b).2.2.2.2.2).2 ==
 (Cm.fDo (D b).1 (D b).2).2) =
 true →
 ((Cm.fWriteIn (D b).1 (D b).2.2.2.1 (D b).2.2.2.2.1 (D b).2.2.2.2.2).2 ==
 (Cm.fDo (D b).1 (D b).2).2) =
 true) ∧
 (((Cm.fWriteIn (D b).1 (D b).2.2.2.1 (D b).2.2.2.2.1 (D b).2.2.2.2.2).2 ==
 (Cm.fDo (D b).1 (D b).2).2) =
 true →
 ((Cm.fWriteIn (D b).1 (D b).2.2.2.1 (D b).2.2.2.2.1 (D b).2.2.2.2.2).2 ==
 (Cm.fDo (D b).1 (D b).2).2) =
 true) ∧
 (((Cm.fWriteIn (D b).1 (D b).2.2.2.1 (D b).2.2.2.2.1 (D b).2.2.2.2.2).2 ==
 (Cm.fDo (D b).1 (D b).2).2) =
 true →
 Cm.bd (Cm.fDo (D b).1 (D b).2).1) ∧
 (((Cm.fWriteIn (D b).1 (D b).2.2.2.1 (D b).2.2.2.2.1 (D b).2.2.2.2.2).2 ==
 (Cm.fDo (D b).1 (D b).2).2) =
 true →
 ((Cm.fWriteIn (D b).1 (D b).2.2.2.1 (D b).2.2.2.2.1 (D b).2.2.2.2.2).2 ==
 (Cm.fDo (D b).1 (D b).2).2) =
 true) ∧
 ((Cm.fWriteIn (D b).1 (D b).2.2.2.1 (D b).2.2.2.2.1 (D b).2.2.2.2.2).2 ==
 (Cm.fDo (D b).1 (D b).2).2 &&
 Cm.eqM (Cm.fDo (D b).1 (D b).2).1
 (Cm.fWriteIn (D b).1 (D b).2.2.2.1 (D b).2.2.2.2.1 (D b).2.2.2.2.2).1) =
 true ∧
 True)
 ((((0 : Int) == (Cm.fDo (D b).1 (D b).2).2) = true →
 ((0 : Int) == (Cm.fDo (D b).1 (D b).2).2) = true) ∧
 (((0 : Int) == (Cm.fDo (D b).1 (D b).2).2) = true →
 ((0 : Int) == (Cm.fDo (D b).1 (D b).2).2) = true) ∧
 (((0 : Int) == (Cm.fDo (D b).1 (D b).2).2) = true → Cm.bd (Cm.fDo (D b).1 (D b).2).1) ∧
 (((0 : Int) == (Cm.fDo (D b).1 (D b).2).2) = true →
 ((0 : Int) == (Cm.fDo (D b).1 (D b).2).2) = true) ∧
 ((0 : Int) == (Cm.fDo (D b).1 (D b).2).2 &&
 Cm.eqM (Cm.fDo (D b).1 (D b).2).1 (D b).1) =
 true ∧
 True))))))) := by kernel_rfl
end Go.Proofs.Ytcfmelkegjpciaa.T

open Go Go.Am Go.Proofs
open Go.Cm (R rdOk)
namespace Go.Proofs.Ytcfmelkegjpciaa.T
set_option maxHeartbeats 0
set_option maxRecDepth 100000
def an_markA (a : List Cm.A) (k : Int) : Ann := .mk Nat (fun i => ⟨[(0, .rf 0 0 0 []), (1, nn (k + 5 * (i : Int))), (5, nn (i : Int))], [(0, ⟨0, 0, some ⟨kA, (Cm.markA (a.take i) k ++ a.drop i : List Cm.A), true⟩, none⟩)], []⟩) (fun i => a.length - i) (fun i => i ≤ a.length) fun _ _ => .none
def an_memNewI : Ann := .mk Nat (fun i => ⟨[(7, nn 6), (3, rf 0), (8, nn (i : Int))], [rt 0 kP (List.replicate i [(0 : Int), 0, 0, 0] : Cm.Mm)], []⟩) (fun i => 6 - i) (fun i => i ≤ 6) fun _ _ => .none
def an_playS (l : List Cm.A) (g : Int) : Ann := .mk (Nat × Cm.Pg × Cm.Mm) (fun a => ⟨[(0, .vsl kA l), (1, nn g), (6, rf 0), (7, rf 1), (8, nn (a.1 : Int))], [rt 0 kP a.2.2, rt 1 kI a.2.1], []⟩) (fun a => l.length - a.1)
  (fun a => (a.1 ≤ l.length ∧ a.2.1.length ≤ a.1 ∧ Cm.bd a.2.2) ∧ Cm.plays g l ([], Cm.memNew 6) = Cm.plays g (l.drop a.1) a.2) fun _ _ => .none
def an_playI (l : List Cm.A) (g : Int) : Ann := .mk (Nat × Cm.Pg × Cm.Mm) (fun a => ⟨[(1, nn g), (19, .vsl kA l), (20, nn l.length), (21, nn (a.1 : Int)), (7, rf 0), (6, rf 1)], [rt 0 kP a.2.2, rt 1 kI a.2.1], []⟩) (fun a => l.length - a.1)
  (fun a => (a.1 ≤ l.length ∧ a.2.1.length ≤ a.1 ∧ Cm.bd a.2.2) ∧ Cm.plays g l ([], Cm.memNew 6) = Cm.plays g (l.drop a.1) a.2) fun _ _ => .none
def E_laws_markActS : Env := En (Go.Am.look [] [])
theorem vc_laws_markActS (a : List Cm.A) (k : Int) : (FGA E_laws_markActS Try.f48 sMarkA [⟨kAs, a⟩,  ⟨kI, k⟩] (one (an_markA a k))) = (
 (∃ (a_1 : Nat),
 a_1 ≤ List.length a ∧
 (([] : Go.Am.Pth) = [] ∧ k + (5 : Int) * (↑a_1 : Int) = k ∧ (↑a_1 : Int) = (0 : Int)) ∧
 Cm.markA (List.take a_1 a) k ++ List.drop a_1 a = a ∧ True) ∧
 ∀ (a_1 : Nat),
 a_1 ≤ List.length a →
 ifb (decide ((↑a_1 : Int) < (↑(List.length (Cm.markA (List.take a_1 a) k ++ List.drop a_1 a)) : Int)))
 (((0 : Int) ≤ (↑a_1 : Int) ∧
 (↑a_1 : Int) < (↑(List.length (Cm.markA (List.take a_1 a) k ++ List.drop a_1 a)) : Int)) ∧
 ((0 : Int) ≤ (↑a_1 : Int) ∧
 (↑a_1 : Int) <
 (↑(List.length
 (Cm.modAt (Cm.markA (List.take a_1 a) k ++ List.drop a_1 a) a_1
 Cm.a0 fun (x : Int × Int × Int × Int × Int) =>
 (k + (5 : Int) * (↑a_1 : Int), x.2))) :
 Int)) ∧
 ((0 : Int) ≤ (↑a_1 : Int) ∧
 (↑a_1 : Int) <
 (↑(List.length
 (Cm.modAt
 (Cm.modAt (Cm.markA (List.take a_1 a) k ++ List.drop a_1 a) a_1
 Cm.a0
 fun (x : Int × Int × Int × Int × Int) => (k + (5 : Int) * (↑a_1 : Int), x.2))
 a_1 Cm.a0
 fun (x : Int × Int × Int × Int × Int) =>
 (x.1, IntKind.wrap IntKind.i64 (k + (5 : Int) * (↑a_1 : Int) + (1 : Int)), x.2.2))) :
 Int)) ∧
 ((0 : Int) ≤ (↑a_1 : Int) ∧
 (↑a_1 : Int) <
 (↑(List.length
 (Cm.modAt
 (Cm.modAt
 (Cm.modAt (Cm.markA (List.take a_1 a) k ++ List.drop a_1 a) a_1
 Cm.a0
 fun (x : Int × Int × Int × Int × Int) => (k + (5 : Int) * (↑a_1 : Int), x.2))
 a_1 Cm.a0
 fun (x : Int × Int × Int × Int × Int) =>
 (x.1, IntKind.wrap IntKind.i64 (k + (5 : Int) * (↑a_1 : Int) + (1 : Int)), x.2.2))
 a_1 Cm.a0
 fun (x : Int × Int × Int × Int × Int) =>
 (x.1, x.2.1,
 IntKind.wrap IntKind.i64
 (IntKind.wrap IntKind.i64 (k + (5 : Int) * (↑a_1 : Int) + (1 : Int)) + (1 : Int)),
 x.2.2.2))) :
 Int)) ∧
 ((0 : Int) ≤ (↑a_1 : Int) ∧
 (↑a_1 : Int) <
 (↑(List.length
 (Cm.modAt
 (Cm.modAt
 (Cm.modAt
 (Cm.modAt (Cm.markA (List.take a_1 a) k ++ List.drop a_1 a) a_1
 Cm.a0
 fun (x : Int × Int × Int × Int × Int) => (k + (5 : Int) * (↑a_1 : Int), x.2))
 a_1 Cm.a0
 fun (x : Int × Int × Int × Int × Int) =>
 (x.1, IntKind.wrap IntKind.i64 (k + (5 : Int) * (↑a_1 : Int) + (1 : Int)), x.2.2))
 a_1 Cm.a0
 fun (x : Int × Int × Int × Int × Int) =>
 (x.1, x.2.1,
 IntKind.wrap IntKind.i64
 (IntKind.wrap IntKind.i64 (k + (5 : Int) * (↑a_1 : Int) + (1 : Int)) + (1 : Int)),
 x.2.2.2))
 a_1 Cm.a0
 fun (x : Int × Int × Int × Int × Int) =>
 (x.1, x.2.1, x.2.2.1,
 IntKind.wrap IntKind.i64
 (IntKind.wrap IntKind.i64
 (IntKind.wrap IntKind.i64 (k + (5 : Int) * (↑a_1 : Int) + (1 : Int)) +
 (1 : Int)) +
 (1 : Int)),
 x.2.2.2.2))) :
 Int)) ∧
 ∃ (a' : Nat),
 (a' ≤ List.length a ∧ List.length a - a' < List.length a - a_1) ∧
 (([] : Go.Am.Pth) = [] ∧
 k + (5 : Int) * (↑a' : Int) =
 IntKind.wrap IntKind.i64
 (IntKind.wrap IntKind.i64
 (IntKind.wrap IntKind.i64
 (IntKind.wrap IntKind.i64
 (IntKind.wrap IntKind.i64 (k + (5 : Int) * (↑a_1 : Int) + (1 : Int)) +
 (1 : Int)) +
 (1 : Int)) +
 (1 : Int)) +
 (1 : Int)) ∧
 (↑a' : Int) = IntKind.wrap IntKind.i64 ((↑a_1 : Int) + (1 : Int))) ∧
 (Cm.markA (List.take a' a) k ++ List.drop a' a =
 Cm.modAt
 (Cm.modAt
 (Cm.modAt
 (Cm.modAt
 (Cm.modAt (Cm.markA (List.take a_1 a) k ++ List.drop a_1 a) a_1
 Cm.a0
 fun (x : Int × Int × Int × Int × Int) => (k + (5 : Int) * (↑a_1 : Int), x.2))
 a_1 Cm.a0
 fun (x : Int × Int × Int × Int × Int) =>
 (x.1, IntKind.wrap IntKind.i64 (k + (5 : Int) * (↑a_1 : Int) + (1 : Int)), x.2.2))
 a_1 Cm.a0
 fun (x : Int × Int × Int × Int × Int) =>
 (x.1, x.2.1,
 IntKind.wrap IntKind.i64
 (IntKind.wrap IntKind.i64 (k + (5 : Int) * (↑a_1 : Int) + (1 : Int)) + (1 : Int)),
 x.2.2.2))
 a_1 Cm.a0
 fun (x : Int × Int × Int × Int × Int) =>
 (x.1, x.2.1, x.2.2.1,
 IntKind.wrap IntKind.i64
 (IntKind.wrap IntKind.i64
 (IntKind.wrap IntKind.i64 (k + (5 : Int) * (↑a_1 : Int) + (1 : Int)) +
 (1 : Int)) +
 (1 : Int)),
 x.2.2.2.2))
 a_1 Cm.a0
 fun (x : Int × Int × Int × Int × Int) =>
 (x.1, x.2.1, x.2.2.1, x.2.2.2.1,
 IntKind.wrap IntKind.i64
 (IntKind.wrap IntKind.i64
 (IntKind.wrap IntKind.i64
 (IntKind.wrap IntKind.i64 (k + (5 : Int) * (↑a_1 : Int) + (1 : Int)) +
 (1 : Int)) +
 (1 : Int)) +
 (1 : Int)))) ∧
 True)
 (k + (5 : Int) * (↑a_1 : Int) = k + (5 : Int) * (↑(List.length a) : Int) ∧
 Cm.markA (List.take a_1 a) k ++ List.drop a_1 a = Cm.markA a k ∧ True)) := by kernel_rfl
def E_impl_MemNew : Env := En (Go.Am.look [] [])
theorem vc_impl_MemNew (n : Int) : (FGA E_impl_MemNew Try.f53 sMemNew6 [⟨kI, n⟩] (one an_memNewI)) = (
 (∃ (a : Nat),
 a ≤ (6 : Nat) ∧
 (((6 : Int) =
 if (7 : Int) < if (0 : Int) > n then (0 : Int) else n then (7 : Int)
 else if (0 : Int) > n then (0 : Int) else n) ∧
 ([] : Go.Am.Pth) = [] ∧ (↑a : Int) = (0 : Int)) ∧
 List.replicate a [(0 : Int), (0 : Int), (0 : Int), (0 : Int)] = [] ∧ True) ∧
 ∀ (a : Nat),
 a ≤ (6 : Nat) →
 ifb (decide ((↑a : Int) < (6 : Int)))
 (((4 : Int) = (4 : Int) ∧ (0 : Int) ≤ (4 : Int) ∧ (4 : Int) * (↑(nat_lit 8) : Int) ≤ (140737488355328 : Int)) ∧
 (List.length (List.replicate a [(0 : Int), (0 : Int), (0 : Int), (0 : Int)]) + (1 : Nat)) * nat_lit 24 ≤
 (140737488355328 : Nat) ∧
 ∃ (a' : Nat),
 (a' ≤ (6 : Nat) ∧ (6 : Nat) - a' < (6 : Nat) - a) ∧
 ((6 : Int) = (6 : Int) ∧ ([] : Go.Am.Pth) = [] ∧ (↑a' : Int) = IntKind.wrap IntKind.i64 ((↑a : Int) + (1 : Int))) ∧
 List.replicate a' [(0 : Int), (0 : Int), (0 : Int), (0 : Int)] =
 List.append (List.replicate a [(0 : Int), (0 : Int), (0 : Int), (0 : Int)])
 [List.replicate (4 : Nat) (0 : Int)] ∧
 True)
 (ifb
 (decide ((↑(List.length (List.replicate a [(0 : Int), (0 : Int), (0 : Int), (0 : Int)])) : Int) > (6 : Int)))
 ([] = Cm.memNew n ∧ True)
 (List.replicate a [(0 : Int), (0 : Int), (0 : Int), (0 : Int)] = Cm.memNew n ∧ True))) := by kernel_rfl
def E_spec_FlatPlay : Env := En (Go.Am.look [] [(24, [sFDo]), (103, [sMemNew]), (104, [sOwn])])
theorem vc_spec_FlatPlay (l : List Cm.A) (g : Int) : (FGA E_spec_FlatPlay Try.f45 sFPlay [⟨kAs, l⟩,  ⟨kI, g⟩] (one (an_playS l g))) = (
 True ∧
 ifb (decide ((↑(List.length l) : Int) > (60 : Int)))
 ([] = (Cm.fPlay l g).1 ∧ Cm.memNew (6 : Int) = (Cm.fPlay l g).2 ∧ True)
 ((∃ (a : Nat × Cm.Pg × Cm.Mm),
 ((a.1 ≤ List.length l ∧ List.length a.2.1 ≤ a.1 ∧ Cm.bd a.2.2) ∧
 Cm.plays g l ([], Cm.memNew (6 : Int)) = Cm.plays g (List.drop a.1 l) a.2) ∧
 (l = l ∧ g = g ∧ ([] : Go.Am.Pth) = [] ∧ ([] : Go.Am.Pth) = [] ∧ (↑a.1 : Int) = (0 : Int)) ∧
 (a.2.2 = Cm.memNew (6 : Int) ∧ a.2.1 = []) ∧ True) ∧
 ∀ (a : Nat × Cm.Pg × Cm.Mm),
 (a.1 ≤ List.length l ∧ List.length a.2.1 ≤ a.1 ∧ Cm.bd a.2.2) ∧
 Cm.plays g l ([], Cm.memNew (6 : Int)) = Cm.plays g (List.drop a.1 l) a.2 →
 ifb (decide ((↑a.1 : Int) < (↑(List.length l) : Int)))
 (((0 : Int) ≤ (↑a.1 : Int) ∧ (↑a.1 : Int) < (↑(List.length l) : Int)) ∧
 (((List.getD l a.1 Cm.a0).2.1 == g) = true →
 ((List.getD l a.1 Cm.a0).2.1 == g) = true) ∧
 (((List.getD l a.1 Cm.a0).2.1 == g) = true →
 ((List.getD l a.1 Cm.a0).2.1 == g) = true) ∧
 (((List.getD l a.1 Cm.a0).2.1 == g) = true →
 (0 : Int) ≤ (↑a.1 : Int) ∧ (↑a.1 : Int) < (↑(List.length l) : Int)) ∧
 (((List.getD l a.1 Cm.a0).2.1 == g) = true →
 ((List.getD l a.1 Cm.a0).2.1 == g) = true) ∧
 (((List.getD l a.1 Cm.a0).2.1 == g) = true →
 ((List.getD l a.1 Cm.a0).2.1 == g) = true) ∧
 (((List.getD l a.1 Cm.a0).2.1 == g) = true →
 True) ∧
 (((List.getD l a.1 Cm.a0).2.1 == g) = true →
 ((List.getD l a.1 Cm.a0).2.1 == g) =
 true) ∧
 ifb
 ((List.getD l a.1 Cm.a0).2.1 == g &&
 Cm.own (List.getD l a.1 Cm.a0))
 (((0 : Int) ≤ (↑a.1 : Int) ∧ (↑a.1 : Int) < (↑(List.length l) : Int)) ∧
 Cm.bd a.2.2 ∧
 (List.length a.2.1 + (1 : Nat)) * nat_lit 8 ≤ (140737488355328 : Nat) ∧
 ∃ (a' : Nat × Cm.Pg × Cm.Mm),
 (((a'.1 ≤ List.length l ∧ List.length a'.2.1 ≤ a'.1 ∧ Cm.bd a'.2.2) ∧
 Cm.plays g l ([], Cm.memNew (6 : Int)) =
 Cm.plays g (List.drop a'.1 l) a'.2) ∧
 List.length l - a'.1 < List.length l - a.1) ∧
 (l = l ∧
 g = g ∧
 ([] : Go.Am.Pth) = [] ∧
 ([] : Go.Am.Pth) = [] ∧
 (↑a'.1 : Int) = IntKind.wrap IntKind.i64 ((↑a.1 : Int) + (1 : Int))) ∧
 (a'.2.2 =
 (Cm.fDo a.2.2
 (List.getD l a.1
 Cm.a0)).1 ∧
 a'.2.1 =
 List.append a.2.1
 [(Cm.fDo a.2.2
 (List.getD l a.1
 Cm.a0)).2]) ∧
 True)
 (∃ (a' : Nat × Cm.Pg × Cm.Mm),
 (((a'.1 ≤ List.length l ∧ List.length a'.2.1 ≤ a'.1 ∧ Cm.bd a'.2.2) ∧
 Cm.plays g l ([], Cm.memNew (6 : Int)) = Cm.plays g (List.drop a'.1 l) a'.2) ∧
 List.length l - a'.1 < List.length l - a.1) ∧
 (l = l ∧
 g = g ∧
 ([] : Go.Am.Pth) = [] ∧
 ([] : Go.Am.Pth) = [] ∧
 (↑a'.1 : Int) = IntKind.wrap IntKind.i64 ((↑a.1 : Int) + (1 : Int))) ∧
 (a'.2.2 = a.2.2 ∧ a'.2.1 = a.2.1) ∧ True))
 (a.2.1 = (Cm.fPlay l g).1 ∧ a.2.2 = (Cm.fPlay l g).2 ∧ True))) := by kernel_rfl
def E_impl_FlatPlay : Env := En (Go.Am.look [] [(27, [sFDo]), (53, [sMemNew6]), (67, [sOfGuest])])
theorem vc_impl_FlatPlay (l : List Cm.A) (g : Int) : (FGA E_impl_FlatPlay Try.f46 sFPlay [⟨kAs, l⟩,  ⟨kI, g⟩] (one (an_playI l g))) = (
 (6 : Int) = (6 : Int) ∧
 ifb (decide ((↑(List.length l) : Int) > (60 : Int)))
 ([] = (Cm.fPlay l g).1 ∧ Cm.memNew (6 : Int) = (Cm.fPlay l g).2 ∧ True)
 ((∃ (a : Nat × Cm.Pg × Cm.Mm),
 ((a.1 ≤ List.length l ∧ List.length a.2.1 ≤ a.1 ∧ Cm.bd a.2.2) ∧
 Cm.plays g l ([], Cm.memNew (6 : Int)) = Cm.plays g (List.drop a.1 l) a.2) ∧
 (g = g ∧
 l = l ∧
 (↑(List.length l) : Int) = (↑(List.length l) : Int) ∧ (↑a.1 : Int) = (0 : Int) ∧ ([] : Go.Am.Pth) = [] ∧ ([] : Go.Am.Pth) = []) ∧
 (a.2.2 = Cm.memNew (6 : Int) ∧ a.2.1 = []) ∧ True) ∧
 ∀ (a : Nat × Cm.Pg × Cm.Mm),
 (a.1 ≤ List.length l ∧ List.length a.2.1 ≤ a.1 ∧ Cm.bd a.2.2) ∧
 Cm.plays g l ([], Cm.memNew (6 : Int)) = Cm.plays g (List.drop a.1 l) a.2 →
 ifb (decide ((↑a.1 : Int) < (↑(List.length l) : Int)))
 (((0 : Int) ≤ (↑a.1 : Int) ∧ (↑a.1 : Int) < (↑(List.length l) : Int)) ∧
 True ∧
 ifb (Cm.ofGuest (List.getD l a.1 Cm.a0) g)
 (Cm.bd a.2.2 ∧
 (List.length a.2.1 + (1 : Nat)) * nat_lit 8 ≤ (140737488355328 : Nat) ∧
 ∃ (a' : Nat × Cm.Pg × Cm.Mm),
 (((a'.1 ≤ List.length l ∧ List.length a'.2.1 ≤ a'.1 ∧ Cm.bd a'.2.2) ∧
 Cm.plays g l ([], Cm.memNew (6 : Int)) = Cm.plays g (List.drop a'.1 l) a'.2) ∧
 List.length l - a'.1 < List.length l - a.1) ∧
 (g = g ∧
 l = l ∧
 (↑(List.length l) : Int) = (↑(List.length l) : Int) ∧
 (↑a'.1 : Int) = IntKind.wrap IntKind.i64 ((↑a.1 : Int) + (1 : Int)) ∧
 ([] : Go.Am.Pth) = [] ∧ ([] : Go.Am.Pth) = []) ∧
 (a'.2.2 =
 (Cm.fDo a.2.2
 (List.getD l a.1 Cm.a0)).1 ∧
 a'.2.1 =
 List.append a.2.1
 [(Cm.fDo a.2.2
 (List.getD l a.1
 Cm.a0)).2]) ∧
 True)
 (∃ (a' : Nat × Cm.Pg × Cm.Mm),
 (((a'.1 ≤ List.length l ∧ List.length a'.2.1 ≤ a'.1 ∧ Cm.bd a'.2.2) ∧
 Cm.plays g l ([], Cm.memNew (6 : Int)) = Cm.plays g (List.drop a'.1 l) a'.2) ∧
 List.length l - a'.1 < List.length l - a.1) ∧
 (g = g ∧
 l = l ∧
 (↑(List.length l) : Int) = (↑(List.length l) : Int) ∧
 (↑a'.1 : Int) = IntKind.wrap IntKind.i64 ((↑a.1 : Int) + (1 : Int)) ∧ ([] : Go.Am.Pth) = [] ∧ ([] : Go.Am.Pth) = []) ∧
 (a'.2.2 = a.2.2 ∧ a'.2.1 = a.2.1) ∧ True))
 (a.2.1 = (Cm.fPlay l g).1 ∧ a.2.2 = (Cm.fPlay l g).2 ∧ True))) := by kernel_rfl
def E_laws_FnExactFlatPlay : Env := En (Go.Am.look [] [(15, [(sSz kA)]), (17, [(sTo kA fun l => l.length ≤ 16777216)]), (19, [(sEqL kA Cm.eqA)]), (28, [sEqM]), (29, [sMarkM]), (30, [sHeldM]), (45, [sFPlay]), (46, [sFPlay]), (47, [sEqP]), (48, [sMarkA]), (49, [sMarkP]), (50, [sHeldP])])
theorem vc_laws_FnExactFlatPlay (l : List Cm.A) (g : Int) : (FGA E_laws_FnExactFlatPlay Try.f10 sLawAI [⟨kAs, l⟩,  ⟨kI, g⟩] no) = (
 True ∧
 ifb (decide (Cm.szL l (1048576 : Int) < (0 : Int))) (true = true ∧ True)
 (List.length l ≤ (16777216 : Nat) ∧
 List.length l ≤ (16777216 : Nat) ∧
 List.length l ≤ (16777216 : Nat) ∧
 List.length l ≤ (16777216 : Nat) ∧
 List.length (Cm.fPlay l g).1 ≤ (1048576 : Nat) ∧
 ((!!Cm.eqI (Cm.fPlay l g).1 (Cm.fPlay l g).1) = true →
 (!!Cm.eqI (Cm.fPlay l g).1 (Cm.fPlay l g).1) = true) ∧
 ((!!Cm.eqI (Cm.fPlay l g).1 (Cm.fPlay l g).1) = true →
 (!!Cm.eqI (Cm.fPlay l g).1 (Cm.fPlay l g).1) = true) ∧
 ((!!Cm.eqI (Cm.fPlay l g).1 (Cm.fPlay l g).1) = true → Cm.bd (Cm.fPlay l g).2) ∧
 ((!!Cm.eqI (Cm.fPlay l g).1 (Cm.fPlay l g).1) = true →
 (!!Cm.eqI (Cm.fPlay l g).1 (Cm.fPlay l g).1) = true) ∧
 ((!Cm.eqI (Cm.fPlay l g).1 (Cm.fPlay l g).1) = false →
 (!!Cm.eqI (Cm.fPlay l g).1 (Cm.fPlay l g).1) = true) ∧
 ifb (!Cm.eqI (Cm.fPlay l g).1 (Cm.fPlay l g).1 || !Cm.eqM (Cm.fPlay l g).2 (Cm.fPlay l g).2)
 (false = true ∧ True)
 (List.length l ≤ (16777216 : Nat) ∧
 List.length l ≤ (16777216 : Nat) ∧
 ifb (!Cm.eqL Cm.eqA l l) (false = true ∧ True)
 ((List.length l ≤ (1048576 : Nat) ∧
 (0 : Int) ≤ (1 : Int) ∧ (1 : Int) ≤ (1048576 : Int)) ∧
 ((!decide ((1 : Int) + (5 : Int) * (↑(List.length l) : Int) < (0 : Int))) = true →
 (!decide ((1 : Int) + (5 : Int) * (↑(List.length l) : Int) < (0 : Int))) = true) ∧
 ((!decide ((1 : Int) + (5 : Int) * (↑(List.length l) : Int) < (0 : Int))) = true →
 (!decide ((1 : Int) + (5 : Int) * (↑(List.length l) : Int) < (0 : Int))) =
 true) ∧
 ((!decide ((1 : Int) + (5 : Int) * (↑(List.length l) : Int) < (0 : Int))) = true →
 List.length (Cm.fPlay l g).1 ≤ (1048576 : Nat)) ∧
 ((!decide ((1 : Int) + (5 : Int) * (↑(List.length l) : Int) < (0 : Int))) =
 true →
 (!decide ((1 : Int) + (5 : Int) * (↑(List.length l) : Int) < (0 : Int))) =
 true) ∧
 (decide ((1 : Int) + (5 : Int) * (↑(List.length l) : Int) < (0 : Int)) =
 false →
 (!decide ((1 : Int) + (5 : Int) * (↑(List.length l) : Int) < (0 : Int))) =
 true) ∧
 ((!(decide ((1 : Int) + (5 : Int) * (↑(List.length l) : Int) < (0 : Int)) ||
 !Cm.eqI (Cm.fPlay l g).1 (Cm.fPlay l g).1)) =
 true →
 (!(decide
 ((1 : Int) + (5 : Int) * (↑(List.length l) : Int) <
 (0 : Int)) ||
 !Cm.eqI (Cm.fPlay l g).1 (Cm.fPlay l g).1)) =
 true) ∧
 ((!(decide
 ((1 : Int) + (5 : Int) * (↑(List.length l) : Int) <
 (0 : Int)) ||
 !Cm.eqI (Cm.fPlay l g).1 (Cm.fPlay l g).1)) =
 true →
 (!(decide
 ((1 : Int) + (5 : Int) * (↑(List.length l) : Int) <
 (0 : Int)) ||
 !Cm.eqI (Cm.fPlay l g).1 (Cm.fPlay l g).1)) =
 true) ∧
 ((!(decide
 ((1 : Int) + (5 : Int) * (↑(List.length l) : Int) <
 (0 : Int)) ||
 !Cm.eqI (Cm.fPlay l g).1 (Cm.fPlay l g).1)) =
 true →
 Cm.bd (Cm.fPlay l g).2) ∧
 ((!(decide
 ((1 : Int) + (5 : Int) * (↑(List.length l) : Int) <
 (0 : Int)) ||
 !Cm.eqI (Cm.fPlay l g).1 (Cm.fPlay l g).1)) =
 true →
 (!(decide
 ((1 : Int) + (5 : Int) * (↑(List.length l) : Int) <
 (0 : Int)) ||
 !Cm.eqI (Cm.fPlay l g).1 (Cm.fPlay l g).1)) =
 true) ∧
 ((decide
 ((1 : Int) + (5 : Int) * (↑(List.length l) : Int) <
 (0 : Int)) ||
 !Cm.eqI (Cm.fPlay l g).1 (Cm.fPlay l g).1) =
 false →
 (!(decide
 ((1 : Int) + (5 : Int) * (↑(List.length l) : Int) <
 (0 : Int)) ||
 !Cm.eqI (Cm.fPlay l g).1 (Cm.fPlay l g).1)) =
 true) ∧
 ifb
 (decide
 ((1 : Int) + (5 : Int) * (↑(List.length l) : Int) <
 (0 : Int)) ||
 !Cm.eqI (Cm.fPlay l g).1 (Cm.fPlay l g).1 ||
 !Cm.eqM (Cm.fPlay l g).2 (Cm.fPlay l g).2)
 (false = true ∧ True)
 ((List.length (Cm.fPlay l g).1 ≤ (1048576 : Nat) ∧
 (0 : Int) ≤ (1 : Int) ∧
 (1 : Int) ≤ (1152921504606846976 : Int)) ∧
 (Cm.bd (Cm.fPlay l g).2 ∧
 (0 : Int) ≤
 (1 : Int) + (↑(List.length (Cm.fPlay l g).1) : Int) ∧
 (1 : Int) + (↑(List.length (Cm.fPlay l g).1) : Int) ≤
 (1099511627776 : Int)) ∧
 (List.length
 (Cm.upFrom (1 : Int)
 (List.length (Cm.fPlay l g).1)) ≤
 (1048576 : Nat) ∧
 (0 : Int) ≤ (1 : Int) ∧
 (1 : Int) ≤ (1152921504606846976 : Int)) ∧
 ifb
 (decide
 (Cm.heldI
 (Cm.upFrom (1 : Int)
 (List.length (Cm.fPlay l g).1))
 (1 : Int) <
 (0 : Int)))
 (false = true ∧ True)
 ((Cm.bd
 (Cm.markM (Cm.fPlay l g).2
 ((1 : Int) +
 (↑(List.length (Cm.fPlay l g).1) : Int))) ∧
 (0 : Int) ≤
 Cm.heldI
 (Cm.upFrom (1 : Int)
 (List.length (Cm.fPlay l g).1))
 (1 : Int) ∧
 Cm.heldI
 (Cm.upFrom (1 : Int)
 (List.length (Cm.fPlay l g).1))
 (1 : Int) ≤
 (1099511627776 : Int)) ∧
 ifb
 (decide
 (Cm.heldM
 (Cm.markM (Cm.fPlay l g).2
 ((1 : Int) +
 (↑(List.length (Cm.fPlay l g).1) : Int)))
 (Cm.heldI
 (Cm.upFrom (1 : Int)
 (List.length (Cm.fPlay l g).1))
 (1 : Int)) <
 (0 : Int)))
 (false = true ∧ True)
 (ifb
 (Cm.heldM
 (Cm.markM (Cm.fPlay l g).2
 ((1 : Int) +
 (↑(List.length (Cm.fPlay l g).1) : Int)))
 (Cm.heldI
 (Cm.upFrom (1 : Int)
 (List.length (Cm.fPlay l g).1))
 (1 : Int)) !=
 (1 : Int) +
 (↑(List.length (Cm.fPlay l g).1) : Int) +
 Cm.cnt (Cm.fPlay l g).2)
 (false = true ∧ True)
 (List.length l ≤ (16777216 : Nat) ∧
 List.length l ≤ (16777216 : Nat) ∧
 List.length (Cm.fPlay l g).1 ≤
 (1048576 : Nat) ∧
 ((!!Cm.eqI (Cm.fPlay l g).1
 (Cm.fPlay l g).1) =
 true →
 (!!Cm.eqI (Cm.fPlay l g).1
 (Cm.fPlay l g).1) =
 true) ∧
 ((!!Cm.eqI (Cm.fPlay l g).1
 (Cm.fPlay l g).1) =
 true →
 (!!Cm.eqI (Cm.fPlay l g).1
 (Cm.fPlay l g).1) =
 true) ∧
 ((!!Cm.eqI (Cm.fPlay l g).1
 (Cm.fPlay l g).1) =
 true →
 Cm.bd (Cm.fPlay l g).2) ∧
 ((!!Cm.eqI (Cm.fPlay l g).1
 (Cm.fPlay l g).1) =
 true →
 (!!Cm.eqI (Cm.fPlay l g).1
 (Cm.fPlay l g).1) =
 true) ∧
 ((!Cm.eqI (Cm.fPlay l g).1
 (Cm.fPlay l g).1) =
 false →
 (!!Cm.eqI (Cm.fPlay l g).1
 (Cm.fPlay l g).1) =
 true) ∧
 ifb
 (!Cm.eqI (Cm.fPlay l g).1
 (Cm.fPlay l g).1 ||
 !Cm.eqM (Cm.fPlay l g).2
 (Cm.fPlay l g).2)
 (false = true ∧ True)
 ((List.length
 (Cm.upFrom (1 : Int)
 (List.length
 (Cm.fPlay l g).1)) ≤
 (1048576 : Nat) ∧
 (0 : Int) ≤ (1 : Int) ∧
 (1 : Int) ≤
 (1152921504606846976 :
 Int)) ∧
 ifb
 (decide
 (Cm.heldI
 (Cm.upFrom (1 : Int)
 (List.length
 (Cm.fPlay l g).1))
 (1 : Int) <
 (0 : Int)))
 (false = true ∧ True)
 ((Cm.bd
 (Cm.markM
 (Cm.fPlay l g).2
 ((1 : Int) +
 (↑(List.length
 (Cm.fPlay l
 g).1) :
 Int))) ∧
 (0 : Int) ≤
 Cm.heldI
 (Cm.upFrom
 (1 : Int)
 (List.length
 (Cm.fPlay l
 g).1))
 (1 : Int) ∧
 Cm.heldI
 (Cm.upFrom
 (1 : Int)
 (List.length
 (Cm.fPlay l
 g).1))
 (1 : Int) ≤
 (1099511627776 :
 Int)) ∧
 ifb
 (decide
 (Cm.heldM
 (Cm.markM
 (Cm.fPlay l g).2
 ((1 : Int) +
 (↑(List.length
 (Cm.fPlay
 l
 g).1) :
 Int)))
 (Cm.heldI
 (Cm.upFrom
 (1 : Int)
 (List.length
 (Cm.fPlay l
 g).1))
 (1 : Int)) <
 (0 : Int)))
 (false = true ∧ True)
 (ifb
 (Cm.heldM
 (Cm.markM
 (Cm.fPlay l g).2
 ((1 : Int) +
 (↑(List.length
 (Cm.fPlay
 l
 g).1) :
 Int)))
 (Cm.heldI
 (Cm.upFrom
 (1 : Int)
 (List.length
 (Cm.fPlay l
 g).1))
 (1 : Int)) !=
 (1 : Int) +
 (↑(List.length
 (Cm.fPlay
 l
 g).1) :
 Int) +
 Cm.cnt
 (Cm.fPlay l
 g).2)
 (false = true ∧ True)
 (true = true ∧
 True)))))))))))) := by kernel_rfl
def an_drawFP (pl : R → R × Int × List Cm.A) (r : R) : Ann := .mk (List Cm.A) (fun l => ⟨[(4, pb 0), (6, rf 0)], [rt 0 kA l], [bxv 0 kR (((pl r).1.1, Cm.inc (pl r).1.2) : R)]⟩) (fun l => 61 - l.length)
  (fun l => l.length ≤ 61 ∧ Cm.padA (pl r).2.2 = Cm.padA l) fun _ _ => .none
def an_F11 (g : Int) (got : Cm.Pg) (mem : Cm.Mm) (mine : List Cm.A) : Ann := .mk (Nat × Cm.Mm) (fun a => ⟨[(7, rf 0), (8, rf 1), (9, rf 2), (10, rf 3), (11, nn (a.1 : Int))], [rt 0 kI got, rt 1 kP mem, rt 2 kP a.2, rt 3 kA mine], []⟩) (fun a => mine.length - a.1)
  (fun a => (a.1 ≤ mine.length ∧ Cm.bd a.2) ∧ (got, mem) = Cm.runs (mine.drop a.1) (got.take a.1, a.2)) fun _ _ => .none
variable (p : R → Int → Int) (pl : R → R × Int × List Cm.A) (D : List Int → List Cm.A × Int)
def Efp : Env := En (Go.Am.look [] [(69, [sOpen]), (70, [sPlay pl]), (105, [sPick p])])
def E11 : Env := En (Go.Am.look [] [(21, [sJust]), (27, [sFDo]), (32, [sEqM]), (45, [sFPlay]), (46, [sFPlay]), (51, [sDrawFP D]), (52, [sEqP]), (53, [sMemNew6])])
theorem vc51 (F : List Int → List Cm.A × Int) (b : List Int) : (FGA (Efp p pl) Try.f51 (sDrawFP F) [⟨kU, b⟩] (one (an_drawFP pl (Cm.cut2 b, 0)))) = (
 True ∧
 rdOk (Cm.cut2 b, (0 : Int)) (137438953472 : Int) ∧
 rdOk (pl (Cm.cut2 b, (0 : Int))).1 (1099511627776 : Int) ∧
 ifb (p (pl (Cm.cut2 b, (0 : Int))).1 (40 : Int) == (0 : Int))
 ((∃ (a : List Cm.A),
 (List.length a ≤ (61 : Nat) ∧ Cm.padA (pl (Cm.cut2 b, (0 : Int))).2.2 = Cm.padA a) ∧
 (([] : Go.Am.Pth) = [] ∧ ([] : Go.Am.Pth) = []) ∧
 a = (pl (Cm.cut2 b, (0 : Int))).2.2 ∧
 (pl (Cm.cut2 b, (0 : Int))).1.1 = (pl (Cm.cut2 b, (0 : Int))).1.1 ∧
 Cm.inc (pl (Cm.cut2 b, (0 : Int))).1.2 = Cm.inc (pl (Cm.cut2 b, (0 : Int))).1.2) ∧
 ∀ (a : List Cm.A),
 List.length a ≤ (61 : Nat) ∧ Cm.padA (pl (Cm.cut2 b, (0 : Int))).2.2 = Cm.padA a →
 ifb (decide ((↑(List.length a) : Int) ≤ (60 : Int)))
 ((List.length a + (1 : Nat)) * nat_lit 40 ≤ (140737488355328 : Nat) ∧
 ∃ (a' : List Cm.A),
 ((List.length a' ≤ (61 : Nat) ∧ Cm.padA (pl (Cm.cut2 b, (0 : Int))).2.2 = Cm.padA a') ∧
 (61 : Nat) - List.length a' < (61 : Nat) - List.length a) ∧
 (([] : Go.Am.Pth) = [] ∧ ([] : Go.Am.Pth) = []) ∧
 a' = List.append a [((7 : Int), (0 : Int), (0 : Int), (0 : Int), (0 : Int))] ∧
 (pl (Cm.cut2 b, (0 : Int))).1.1 = (pl (Cm.cut2 b, (0 : Int))).1.1 ∧
 Cm.inc (pl (Cm.cut2 b, (0 : Int))).1.2 = Cm.inc (pl (Cm.cut2 b, (0 : Int))).1.2)
 (rdOk ((pl (Cm.cut2 b, (0 : Int))).1.1, Cm.inc (pl (Cm.cut2 b, (0 : Int))).1.2) (1099511627776 : Int) ∧
 rdOk ((pl (Cm.cut2 b, (0 : Int))).1.1, Cm.inc (Cm.inc (pl (Cm.cut2 b, (0 : Int))).1.2))
 (1099511627776 : Int) ∧
 (23 : Int) ≠ (0 : Int) ∧
 a = (F b).1 ∧
 IntKind.wrap IntKind.i64
 (p ((pl (Cm.cut2 b, (0 : Int))).1.1, Cm.inc (pl (Cm.cut2 b, (0 : Int))).1.2) (2 : Int) +
 IntKind.wrap IntKind.i64
 (Int.tdiv
 (p
 ((pl (Cm.cut2 b, (0 : Int))).1.1, Cm.inc (Cm.inc (pl (Cm.cut2 b, (0 : Int))).1.2))
 (24 : Int))
 (23 : Int))) =
 (F b).2 ∧
 True))
 (rdOk ((pl (Cm.cut2 b, (0 : Int))).1.1, Cm.inc (pl (Cm.cut2 b, (0 : Int))).1.2) (1099511627776 : Int) ∧
 rdOk ((pl (Cm.cut2 b, (0 : Int))).1.1, Cm.inc (Cm.inc (pl (Cm.cut2 b, (0 : Int))).1.2))
 (1099511627776 : Int) ∧
 (23 : Int) ≠ (0 : Int) ∧
 (pl (Cm.cut2 b, (0 : Int))).2.2 = (F b).1 ∧
 IntKind.wrap IntKind.i64
 (p ((pl (Cm.cut2 b, (0 : Int))).1.1, Cm.inc (pl (Cm.cut2 b, (0 : Int))).1.2) (2 : Int) +
 IntKind.wrap IntKind.i64
 (Int.tdiv
 (p ((pl (Cm.cut2 b, (0 : Int))).1.1, Cm.inc (Cm.inc (pl (Cm.cut2 b, (0 : Int))).1.2))
 (24 : Int))
 (23 : Int))) =
 (F b).2 ∧
 True)) := by kernel_rfl
theorem vc11 (b : List Int) : (FGA (E11 D) Try.f11 sLawB [⟨kU, b⟩] (one (an_F11 (D b).2 (Cm.fPlay (D b).1 (D b).2).1 (Cm.fPlay (D b).1 (D b).2).2 (Cm.ownL (Cm.justL (D b).2 (D b).1))))) = (
 ifb (decide ((↑(List.length b) : Int) > (1048576 : Int))) (true = true ∧ True)
 (Cm.bytes b ∧
 List.length (D b).1 ≤ (16777216 : Nat) ∧
 List.length (D b).1 ≤ (16777216 : Nat) ∧
 List.length (Cm.fPlay (D b).1 (D b).2).1 ≤ (1048576 : Nat) ∧
 ((!!Cm.eqI (Cm.fPlay (D b).1 (D b).2).1 (Cm.fPlay (D b).1 (D b).2).1) = true →
 (!!Cm.eqI (Cm.fPlay (D b).1 (D b).2).1 (Cm.fPlay (D b).1 (D b).2).1) = true) ∧
 ((!!Cm.eqI (Cm.fPlay (D b).1 (D b).2).1 (Cm.fPlay (D b).1 (D b).2).1) = true →
 (!!Cm.eqI (Cm.fPlay (D b).1 (D b).2).1 (Cm.fPlay (D b).1 (D b).2).1) = true) ∧
 ((!!Cm.eqI (Cm.fPlay (D b).1 (D b).2).1 (Cm.fPlay (D b).1 (D b).2).1) = true →
 Cm.bd (Cm.fPlay (D b).1 (D b).2).2) ∧
 ((!!Cm.eqI (Cm.fPlay (D b).1 (D b).2).1 (Cm.fPlay (D b).1 (D b).2).1) = true →
 (!!Cm.eqI (Cm.fPlay (D b).1 (D b).2).1 (Cm.fPlay (D b).1 (D b).2).1) = true) ∧
 ((!Cm.eqI (Cm.fPlay (D b).1 (D b).2).1 (Cm.fPlay (D b).1 (D b).2).1) = false →
 (!!Cm.eqI (Cm.fPlay (D b).1 (D b).2).1 (Cm.fPlay (D b).1 (D b).2).1) = true) ∧
 ((!(!Cm.eqI (Cm.fPlay (D b).1 (D b).2).1 (Cm.fPlay (D b).1 (D b).2).1 ||
 !Cm.eqM (Cm.fPlay (D b).1 (D b).2).2 (Cm.fPlay (D b).1 (D b).2).2)) =
 true →
 (!(!Cm.eqI (Cm.fPlay (D b).1 (D b).2).1 (Cm.fPlay (D b).1 (D b).2).1 ||
 !Cm.eqM (Cm.fPlay (D b).1 (D b).2).2 (Cm.fPlay (D b).1 (D b).2).2)) =
 true) ∧
 ((!(!Cm.eqI (Cm.fPlay (D b).1 (D b).2).1 (Cm.fPlay (D b).1 (D b).2).1 ||
 !Cm.eqM (Cm.fPlay (D b).1 (D b).2).2 (Cm.fPlay (D b).1 (D b).2).2)) =
 true →
 (!(!Cm.eqI (Cm.fPlay (D b).1 (D b).2).1 (Cm.fPlay (D b).1 (D b).2).1 ||
 !Cm.eqM (Cm.fPlay (D b).1 (D b).2).2 (Cm.fPlay (D b).1 (D b).2).2)) =
 true) ∧
 ((!Cm.eqI (Cm.fPlay (D b).1 (D b).2).1 (Cm.fPlay (D b).1 (D b).2).1 ||
 !Cm.eqM (Cm.fPlay (D b).1 (D b).2).2 (Cm.fPlay (D b).1 (D b).2).2) =
 false →
 (!(!Cm.eqI (Cm.fPlay (D b).1 (D b).2).1 (Cm.fPlay (D b).1 (D b).2).1 ||
 !Cm.eqM (Cm.fPlay (D b).1 (D b).2).2 (Cm.fPlay (D b).1 (D b).2).2)) =
 true) ∧
 ifb
 (!Cm.eqI (Cm.fPlay (D b).1 (D b).2).1 (Cm.fPlay (D b).1 (D b).2).1 ||
 !Cm.eqM (Cm.fPlay (D b).1 (D b).2).2 (Cm.fPlay (D b).1 (D b).2).2 ||
 decide ((↑(List.length (D b).1) : Int) > (60 : Int)))
 (List.length (Cm.fPlay (D b).1 (D b).2).1 ≤ (1048576 : Nat) ∧
 (Cm.eqI (Cm.fPlay (D b).1 (D b).2).1 (Cm.fPlay (D b).1 (D b).2).1 = true →
 Cm.eqI (Cm.fPlay (D b).1 (D b).2).1 (Cm.fPlay (D b).1 (D b).2).1 = true) ∧
 (Cm.eqI (Cm.fPlay (D b).1 (D b).2).1 (Cm.fPlay (D b).1 (D b).2).1 = true →
 Cm.eqI (Cm.fPlay (D b).1 (D b).2).1 (Cm.fPlay (D b).1 (D b).2).1 = true) ∧
 (Cm.eqI (Cm.fPlay (D b).1 (D b).2).1 (Cm.fPlay (D b).1 (D b).2).1 = true →
 Cm.bd (Cm.fPlay (D b).1 (D b).2).2) ∧
 (Cm.eqI (Cm.fPlay (D b).1 (D b).2).1 (Cm.fPlay (D b).1 (D b).2).1 = true →
 Cm.eqI (Cm.fPlay (D b).1 (D b).2).1 (Cm.fPlay (D b).1 (D b).2).1 = true) ∧
 (Cm.eqI (Cm.fPlay (D b).1 (D b).2).1 (Cm.fPlay (D b).1 (D b).2).1 &&
 Cm.eqM (Cm.fPlay (D b).1 (D b).2).2 (Cm.fPlay (D b).1 (D b).2).2) =
 true ∧
 True)
 ((6 : Int) = (6 : Int) ∧
 List.length (D b).1 ≤ (16777216 : Nat) ∧
 (∃ (a : Nat × Cm.Mm),
 ((a.1 ≤ List.length (Cm.ownL (Cm.justL (D b).2 (D b).1)) ∧ Cm.bd a.2) ∧
 Cm.fPlay (D b).1 (D b).2 =
 Cm.runs (List.drop a.1 (Cm.ownL (Cm.justL (D b).2 (D b).1)))
 (List.take a.1 (Cm.fPlay (D b).1 (D b).2).1, a.2)) ∧
 (([] : Go.Am.Pth) = [] ∧ ([] : Go.Am.Pth) = [] ∧ ([] : Go.Am.Pth) = [] ∧ ([] : Go.Am.Pth) = [] ∧ (↑a.1 : Int) = (0 : Int)) ∧
 ((Cm.fPlay (D b).1 (D b).2).1 = (Cm.fPlay (D b).1 (D b).2).1 ∧
 (Cm.fPlay (D b).1 (D b).2).2 = (Cm.fPlay (D b).1 (D b).2).2 ∧
 a.2 = Cm.memNew (6 : Int) ∧
 Cm.ownL (Cm.justL (D b).2 (D b).1) =
 Cm.ownL (Cm.justL (D b).2 (D b).1)) ∧
 True) ∧
 ∀ (a : Nat × Cm.Mm),
 (a.1 ≤ List.length (Cm.ownL (Cm.justL (D b).2 (D b).1)) ∧ Cm.bd a.2) ∧
 Cm.fPlay (D b).1 (D b).2 =
 Cm.runs (List.drop a.1 (Cm.ownL (Cm.justL (D b).2 (D b).1)))
 (List.take a.1 (Cm.fPlay (D b).1 (D b).2).1, a.2) →
 ifb
 (decide
 ((↑a.1 : Int) < (↑(List.length (Cm.ownL (Cm.justL (D b).2 (D b).1))) : Int)))
 (((0 : Int) ≤ (↑a.1 : Int) ∧
 (↑a.1 : Int) <
 (↑(List.length (Cm.ownL (Cm.justL (D b).2 (D b).1))) : Int)) ∧
 Cm.bd a.2 ∧
 ((!decide
 ((↑a.1 : Int) ≥
 (↑(List.length (Cm.fPlay (D b).1 (D b).2).1) : Int))) =
 true →
 (!decide
 ((↑a.1 : Int) ≥
 (↑(List.length (Cm.fPlay (D b).1 (D b).2).1) : Int))) =
 true) ∧
 ((!decide
 ((↑a.1 : Int) ≥
 (↑(List.length (Cm.fPlay (D b).1 (D b).2).1) : Int))) =
 true →
 (!decide
 ((↑a.1 : Int) ≥
 (↑(List.length (Cm.fPlay (D b).1 (D b).2).1) : Int))) =
 true) ∧
 ((!decide
 ((↑a.1 : Int) ≥
 (↑(List.length (Cm.fPlay (D b).1 (D b).2).1) : Int))) =
 true →
 (0 : Int) ≤ (↑a.1 : Int) ∧
 (↑a.1 : Int) <
 (↑(List.length (Cm.fPlay (D b).1 (D b).2).1) : Int)) ∧
 ((!decide
 ((↑a.1 : Int) ≥
 (↑(List.length (Cm.fPlay (D b).1 (D b).2).1) : Int))) =
 true →
 (!decide
 ((↑a.1 : Int) ≥
 (↑(List.length (Cm.fPlay (D b).1 (D b).2).1) : Int))) =
 true) ∧
 ((!decide
 ((↑a.1 : Int) ≥
 (↑(List.length (Cm.fPlay (D b).1 (D b).2).1) : Int))) =
 true →
 (!decide
 ((↑a.1 : Int) ≥
 (↑(List.length (Cm.fPlay (D b).1 (D b).2).1) : Int))) =
 true) ∧
 ((!decide
 ((↑a.1 : Int) ≥
 (↑(List.length (Cm.fPlay (D b).1 (D b).2).1) :
 Int))) =
 true →
 (!decide
 ((↑a.1 : Int) ≥
 (↑(List.length (Cm.fPlay (D b).1 (D b).2).1) :
 Int))) =
 true) ∧
 (decide
 ((↑a.1 : Int) ≥
 (↑(List.length (Cm.fPlay (D b).1 (D b).2).1) : Int)) =
 false →
 (!decide
 ((↑a.1 : Int) ≥
 (↑(List.length (Cm.fPlay (D b).1 (D b).2).1) :
 Int))) =
 true) ∧
 ifb
 (decide
 ((↑a.1 : Int) ≥
 (↑(List.length (Cm.fPlay (D b).1 (D b).2).1) :
 Int)) ||
 List.getD (Cm.fPlay (D b).1 (D b).2).1 a.1 (0 : Int) !=
 (Cm.fDo a.2
 (List.getD (Cm.ownL (Cm.justL (D b).2 (D b).1)) a.1
 Cm.a0)).2)
 (false = true ∧ True)
 (∃ (a' : Nat × Cm.Mm),
 (((a'.1 ≤
 List.length
 (Cm.ownL (Cm.justL (D b).2 (D b).1)) ∧
 Cm.bd a'.2) ∧
 Cm.fPlay (D b).1 (D b).2 =
 Cm.runs
 (List.drop a'.1
 (Cm.ownL (Cm.justL (D b).2 (D b).1)))
 (List.take a'.1 (Cm.fPlay (D b).1 (D b).2).1,
 a'.2)) ∧
 List.length (Cm.ownL (Cm.justL (D b).2 (D b).1)) -
 a'.1 <
 List.length (Cm.ownL (Cm.justL (D b).2 (D b).1)) -
 a.1) ∧
 (([] : Go.Am.Pth) = [] ∧
 ([] : Go.Am.Pth) = [] ∧
 ([] : Go.Am.Pth) = [] ∧
 ([] : Go.Am.Pth) = [] ∧
 (↑a'.1 : Int) =
 IntKind.wrap IntKind.i64
 ((↑a.1 : Int) + (1 : Int))) ∧
 ((Cm.fPlay (D b).1 (D b).2).1 =
 (Cm.fPlay (D b).1 (D b).2).1 ∧
 (Cm.fPlay (D b).1 (D b).2).2 =
 (Cm.fPlay (D b).1 (D b).2).2 ∧
 a'.2 =
 (Cm.fDo a.2
 (List.getD
 (Cm.ownL (Cm.justL (D b).2 (D b).1))
 a.1
 Cm.a0)).1 ∧
 Cm.ownL (Cm.justL (D b).2 (D b).1) =
 Cm.ownL (Cm.justL (D b).2 (D b).1)) ∧
 True))
 (Cm.bd a.2 ∧
 (Cm.eqM a.2 (Cm.fPlay (D b).1 (D b).2).2 = true →
 Cm.eqM a.2 (Cm.fPlay (D b).1 (D b).2).2 = true) ∧
 (Cm.eqM a.2 (Cm.fPlay (D b).1 (D b).2).2 = true →
 Cm.eqM a.2 (Cm.fPlay (D b).1 (D b).2).2 = true) ∧
 (Cm.eqM a.2 (Cm.fPlay (D b).1 (D b).2).2 = true →
 Cm.eqM a.2 (Cm.fPlay (D b).1 (D b).2).2 = true) ∧
 (Cm.eqM a.2 (Cm.fPlay (D b).1 (D b).2).2 = true →
 Cm.eqM a.2 (Cm.fPlay (D b).1 (D b).2).2 = true) ∧
 (Cm.eqM a.2 (Cm.fPlay (D b).1 (D b).2).2 = true →
 Cm.eqM a.2 (Cm.fPlay (D b).1 (D b).2).2 = true) ∧
 (Cm.eqM a.2 (Cm.fPlay (D b).1 (D b).2).2 &&
 (↑(List.length (Cm.fPlay (D b).1 (D b).2).1) : Int) ==
 (↑(List.length (Cm.ownL (Cm.justL (D b).2 (D b).1))) :
 Int)) =
 true ∧
 True)))) := by kernel_rfl
end Go.Proofs.Ytcfmelkegjpciaa.T

