/-
  For each function: what the machine asks of it, written out; no condition.
-/
import Derived.Test.YtcfmelkegjpciaaTab
set_option linter.all false
open Go Go.Am Go.Proofs
namespace Go.Proofs.Ytcfmelkegjpciaa.T
set_option maxHeartbeats 0
set_option maxRecDepth 100000
def L0 : List (Nat × List FSpec) := []
def L1 : List (Nat × List FSpec) := (98, [sWithin]) :: (107, [sWithin]) :: (15, [(sSz kA)]) :: (26, [sToAct]) :: (68, [sEqA]) :: L0
def L2 : List (Nat × List FSpec) := (104, [sOwn]) :: (67, [sOfGuest]) :: (17, [(sTo kA fun l => l.length ≤ 16777216)]) :: (19, [(sEqL kA Cm.eqA)]) :: L1
def L3 : List (Nat × List FSpec) := (66, [sNext]) :: (18, [sTidy]) :: L2
def L4 : List (Nat × List FSpec) := (16, [sTidy]) :: L3
def E1 : Env := En (Go.Am.look [] L1)
def E2 : Env := En (Go.Am.look [] L2)
def E3 : Env := En (Go.Am.look [] L3)
def E4 : Env := En (Go.Am.look [] L4)
def anNext (l : List Cm.A) (i0 g : Int) : Ann := .mk Nat (fun i => ⟨[(0, .vsl kA l), (2, .int .i64 g), (7, .int .i64 (i : Int))], [], []⟩) (fun i => l.length - i)
  (fun i => i ≤ l.length ∧ Cm.next g (l.drop i0.toNat) = Cm.next g (l.drop i)) fun _ _ => .none
def anTidyS (l : List Cm.A) : Ann := .mk Nat (fun i => ⟨[(0, .vsl kA l), (3, .int .i64 (i : Int))], [], []⟩) (fun i => l.length - i)
  (fun i => i ≤ l.length ∧ Cm.tidy l = Cm.tidy (l.drop i)) fun _ _ => .none
def anTo (l : List Cm.A) : Ann := .mk Nat (fun i => ⟨[(0, .vsl kA l), (3, .rf 1000 0 0 []), (4, .int .i64 (i : Int))], [(1000, ⟨0, 0, some ⟨kA, Cm.fill kA.d l i, true⟩, none⟩)], []⟩) (fun i => l.length - i)
  (fun i => i ≤ l.length) fun _ _ => .none
def anEq (l m : List Cm.A) : Ann := .mk Nat (fun i => ⟨[(0, .vsl kA l), (1, .vsl kA m), (5, .int .i64 (i : Int))], [], []⟩) (fun i => l.length - i)
  (fun i => i ≤ l.length ∧ Cm.eqL Cm.eqA l m = Cm.eqL Cm.eqA (l.drop i) (m.drop i)) fun _ _ => .none
def anTidyI2 (l : List Cm.A) (k : Nat) : Ann := .mk Nat (fun j => ⟨[(0, .vsl kA l), (7, .vsl kA l), (8, .int .i64 l.length), (9, .int .i64 (k : Int)), (4, .pb 1004 0 []), (25, .vsl kA (l.drop (k + 1))), (26, .int .i64 (l.drop (k + 1)).length), (27, .int .i64 (j : Int))], [], [(1004, ⟨0, some (opnV kA (l.getD k kA.d)), false⟩)]⟩) (fun j => l.length - j)
  (fun j => j ≤ (l.drop (k + 1)).length ∧ Cm.next (l.getD k kA.d).2.1 (l.drop (k + 1)) = Cm.next (l.getD k kA.d).2.1 ((l.drop (k + 1)).drop j)) fun _ _ => .none
def anTidyI (l : List Cm.A) : Ann := .mk Nat (fun i => ⟨[(0, .vsl kA l), (7, .vsl kA l), (8, .int .i64 l.length), (9, .int .i64 (i : Int))], [], []⟩) (fun i => l.length - i)
  (fun i => i ≤ l.length ∧ Cm.tidy l = Cm.tidy (l.drop i)) fun k _ => anTidyI2 l k
def sLaw : FSpec := sp1 [ps kAs] kAs (fun l => l.length ≤ 9223372036854775807) fun _ => ⟨[], .vw .bool, [⟨.bool, true⟩]⟩
theorem vc98 (n lo hi : Int) : (FGA E0 Try.f98 sWithin [⟨kI, n⟩, ⟨kI, lo⟩, ⟨kI, hi⟩] no) = (
 (decide (n ≥ lo) = true → decide (n ≥ lo) = true) ∧
 (decide (n ≥ lo) = true → decide (n ≥ lo) = true) ∧
 (decide (n ≥ lo) = true → decide (n ≥ lo) = true) ∧ (decide (n ≥ lo) && decide (n ≤ hi)) = Cm.within n lo hi ∧ True) := by kernel_rfl
theorem vc107 (n lo hi : Int) : (FGA E0 Try.f107 sWithin [⟨kI, n⟩, ⟨kI, lo⟩, ⟨kI, hi⟩] no) = (
 (decide (n ≥ lo) = true → decide (n ≥ lo) = true) ∧
 (decide (n ≥ lo) = true → decide (n ≥ lo) = true) ∧
 (decide (n ≥ lo) = true → decide (n ≥ lo) = true) ∧ (decide (n ≥ lo) && decide (n ≤ hi)) = Cm.within n lo hi ∧ True) := by kernel_rfl
theorem vc15 (l : List Cm.A) (n : Int) : (FGA E0 Try.f15 (sSz kA) [⟨kAs, l⟩, ⟨kI, n⟩] no) = (
 ifb (decide (IntKind.wrap IntKind.i64 (n - (↑(List.length l) : Int)) < (0 : Int))) ((-1 : Int) = Cm.szL l n ∧ True)
 (IntKind.wrap IntKind.i64 (n - (↑(List.length l) : Int)) = Cm.szL l n ∧ True)) := by kernel_rfl
theorem vc26 (a : Cm.A) : (FGA E0 Try.f26 sToAct [⟨kA, a⟩] no) = (
 a = a ∧ True) := by kernel_rfl
theorem vc104 (a : Cm.A) : (FGA E1 Try.f104 sOwn [⟨kA, a⟩] no) = (
 True ∧ Cm.within a.1 (1 : Int) (5 : Int) = Cm.own a ∧ True) := by kernel_rfl
theorem vc67 (a : Cm.A) (g : Int) : (FGA E1 Try.f67 sOfGuest [⟨kA, a⟩, ⟨kI, g⟩] no) = (
 True ∧
 (Cm.within a.1 (1 : Int) (5 : Int) = true → Cm.within a.1 (1 : Int) (5 : Int) = true) ∧
 (Cm.within a.1 (1 : Int) (5 : Int) = true → Cm.within a.1 (1 : Int) (5 : Int) = true) ∧
 (Cm.within a.1 (1 : Int) (5 : Int) = true → Cm.within a.1 (1 : Int) (5 : Int) = true) ∧
 (Cm.within a.1 (1 : Int) (5 : Int) = true → Cm.within a.1 (1 : Int) (5 : Int) = true) ∧
 (Cm.within a.1 (1 : Int) (5 : Int) && a.2.1 == g) = Cm.ofGuest a g ∧ True) := by kernel_rfl
theorem vc68 (a b : Cm.A) : (FGA E0 Try.f68 sEqA [⟨kA, a⟩, ⟨kA, b⟩] no) = (
 ifb (a.1 != b.1) (false = Cm.eqA a b ∧ True)
 (ifb (a.2.1 != b.2.1) (false = Cm.eqA a b ∧ True)
 (ifb (a.2.2.1 != b.2.2.1) (false = Cm.eqA a b ∧ True)
 (ifb (a.2.2.2.1 != b.2.2.2.1) (false = Cm.eqA a b ∧ True)
 (ifb (a.2.2.2.2 != b.2.2.2.2) (false = Cm.eqA a b ∧ True) (true = Cm.eqA a b ∧ True)))))) := by kernel_rfl
theorem vc66 (l : List Cm.A) (i g : Int) : (FGA E2 Try.f66 sNext [⟨kAs, l⟩, ⟨kI, i⟩, ⟨kI, g⟩] (one (anNext l i g))) = (
 (∃ (a : Nat),
 (a ≤ List.length l ∧ Cm.next g (List.drop (Int.toNat i) l) = Cm.next g (List.drop a l)) ∧
 (l = l ∧ g = g ∧ (↑a : Int) = i) ∧ True ∧ True) ∧
 ∀ (a : Nat),
 a ≤ List.length l ∧ Cm.next g (List.drop (Int.toNat i) l) = Cm.next g (List.drop a l) →
 ifb (decide ((↑a : Int) < (↑(List.length l) : Int)))
 (((0 : Int) ≤ (↑a : Int) ∧ (↑a : Int) < (↑(List.length l) : Int)) ∧
 (((List.getD l a Cm.a0).2.1 == g) = true →
 ((List.getD l a Cm.a0).2.1 == g) = true) ∧
 (((List.getD l a Cm.a0).2.1 == g) = true →
 ((List.getD l a Cm.a0).2.1 == g) = true) ∧
 (((List.getD l a Cm.a0).2.1 == g) = true →
 (0 : Int) ≤ (↑a : Int) ∧ (↑a : Int) < (↑(List.length l) : Int)) ∧
 (((List.getD l a Cm.a0).2.1 == g) = true →
 ((List.getD l a Cm.a0).2.1 == g) = true) ∧
 (((List.getD l a Cm.a0).2.1 == g) = true →
 ((List.getD l a Cm.a0).2.1 == g) = true) ∧
 (((List.getD l a Cm.a0).2.1 == g) = true → True) ∧
 (((List.getD l a Cm.a0).2.1 == g) = true →
 ((List.getD l a Cm.a0).2.1 == g) = true) ∧
 ifb
 ((List.getD l a Cm.a0).2.1 == g &&
 Cm.own (List.getD l a Cm.a0))
 (((0 : Int) ≤ (↑a : Int) ∧ (↑a : Int) < (↑(List.length l) : Int)) ∧
 ((List.getD l a Cm.a0).1 == (5 : Int)) =
 Cm.next g (List.drop (Int.toNat i) l) ∧
 True)
 (∃ (a' : Nat),
 ((a' ≤ List.length l ∧ Cm.next g (List.drop (Int.toNat i) l) = Cm.next g (List.drop a' l)) ∧
 List.length l - a' < List.length l - a) ∧
 (l = l ∧ g = g ∧ (↑a' : Int) = IntKind.wrap IntKind.i64 ((↑a : Int) + (1 : Int))) ∧
 True ∧ True))
 (true = Cm.next g (List.drop (Int.toNat i) l) ∧ True)) := by kernel_rfl
theorem vc16 (l : List Cm.A) : (FGA E3 Try.f16 sTidy [⟨kAs, l⟩] (one (anTidyS l))) = (
 (∃ (a : Nat),
 (a ≤ List.length l ∧ Cm.tidy l = Cm.tidy (List.drop a l)) ∧ (l = l ∧ (↑a : Int) = (0 : Int)) ∧ True ∧ True) ∧
 ∀ (a : Nat),
 a ≤ List.length l ∧ Cm.tidy l = Cm.tidy (List.drop a l) →
 ifb (decide ((↑a : Int) < (↑(List.length l) : Int)))
 (((0 : Int) ≤ (↑a : Int) ∧ (↑a : Int) < (↑(List.length l) : Int)) ∧
 (((List.getD l a Cm.a0).1 == (2 : Int)) = true →
 ((List.getD l a Cm.a0).1 == (2 : Int)) = true) ∧
 (((List.getD l a Cm.a0).1 == (2 : Int)) = true →
 ((List.getD l a Cm.a0).1 == (2 : Int)) = true) ∧
 (((List.getD l a Cm.a0).1 == (2 : Int)) = true →
 (0 : Int) ≤ (↑a : Int) ∧ (↑a : Int) < (↑(List.length l) : Int)) ∧
 (((List.getD l a Cm.a0).1 == (2 : Int)) = true →
 ((List.getD l a Cm.a0).1 == (2 : Int)) = true) ∧
 (((List.getD l a Cm.a0).1 == (2 : Int)) = true →
 ((List.getD l a Cm.a0).1 == (2 : Int)) = true) ∧
 (((List.getD l a Cm.a0).1 == (2 : Int)) = true →
 ((List.getD l a Cm.a0).1 == (2 : Int)) =
 true) ∧
 (((List.getD l a Cm.a0).1 == (2 : Int)) = true →
 ((List.getD l a Cm.a0).1 == (2 : Int)) =
 true) ∧
 (((List.getD l a Cm.a0).1 == (2 : Int) &&
 decide
 ((List.getD l a Cm.a0).2.2.1 <
 (2 : Int))) =
 true →
 ((List.getD l a Cm.a0).1 == (2 : Int) &&
 decide
 ((List.getD l a Cm.a0).2.2.1 <
 (2 : Int))) =
 true) ∧
 (((List.getD l a Cm.a0).1 == (2 : Int) &&
 decide
 ((List.getD l a Cm.a0).2.2.1 <
 (2 : Int))) =
 true →
 ((List.getD l a Cm.a0).1 == (2 : Int) &&
 decide
 ((List.getD l a Cm.a0).2.2.1 <
 (2 : Int))) =
 true) ∧
 (((List.getD l a Cm.a0).1 == (2 : Int) &&
 decide
 ((List.getD l a Cm.a0).2.2.1 <
 (2 : Int))) =
 true →
 ((List.getD l a Cm.a0).1 ==
 (2 : Int) &&
 decide
 ((List.getD l a Cm.a0).2.2.1 <
 (2 : Int))) =
 true) ∧
 (((List.getD l a Cm.a0).1 ==
 (2 : Int) &&
 decide
 ((List.getD l a Cm.a0).2.2.1 <
 (2 : Int))) =
 true →
 (0 : Int) ≤ (↑a : Int) ∧ (↑a : Int) < (↑(List.length l) : Int)) ∧
 (((List.getD l a Cm.a0).1 ==
 (2 : Int) &&
 decide
 ((List.getD l a
 Cm.a0).2.2.1 <
 (2 : Int))) =
 true →
 ((List.getD l a Cm.a0).1 ==
 (2 : Int) &&
 decide
 ((List.getD l a
 Cm.a0).2.2.1 <
 (2 : Int))) =
 true) ∧
 (((List.getD l a Cm.a0).1 ==
 (2 : Int) &&
 decide
 ((List.getD l a
 Cm.a0).2.2.1 <
 (2 : Int))) =
 true →
 ((List.getD l a Cm.a0).1 ==
 (2 : Int) &&
 decide
 ((List.getD l a
 Cm.a0).2.2.1 <
 (2 : Int))) =
 true) ∧
 (((List.getD l a Cm.a0).1 ==
 (2 : Int) &&
 decide
 ((List.getD l a
 Cm.a0).2.2.1 <
 (2 : Int))) =
 true →
 ((List.getD l a Cm.a0).1 ==
 (2 : Int) &&
 decide
 ((List.getD l a
 Cm.a0).2.2.1 <
 (2 : Int))) =
 true) ∧
 (((List.getD l a Cm.a0).1 ==
 (2 : Int) &&
 decide
 ((List.getD l a
 Cm.a0).2.2.1 <
 (2 : Int))) =
 true →
 ((List.getD l a Cm.a0).1 ==
 (2 : Int) &&
 decide
 ((List.getD l a
 Cm.a0).2.2.1 <
 (2 : Int))) =
 true) ∧
 (((List.getD l a Cm.a0).1 ==
 (2 : Int) &&
 decide
 ((List.getD l a
 Cm.a0).2.2.1 <
 (2 : Int))) =
 true →
 ((List.getD l a
 Cm.a0).1 ==
 (2 : Int) &&
 decide
 ((List.getD l a
 Cm.a0).2.2.1 <
 (2 : Int))) =
 true) ∧
 (((List.getD l a Cm.a0).1 ==
 (2 : Int) &&
 decide
 ((List.getD l a
 Cm.a0).2.2.1 <
 (2 : Int))) =
 true →
 ((0 : K.T kI) ≤ IntKind.wrap IntKind.i64 ((↑a : Int) + (1 : Int)) ∧
 IntKind.wrap IntKind.i64 ((↑a : Int) + (1 : Int)) ≤
 (↑(List.length l) : Int)) ∧
 List.length l ≤ (16777216 : Nat)) ∧
 (((List.getD l a
 Cm.a0).1 ==
 (2 : Int) &&
 decide
 ((List.getD l a
 Cm.a0).2.2.1 <
 (2 : Int))) =
 true →
 ((List.getD l a
 Cm.a0).1 ==
 (2 : Int) &&
 decide
 ((List.getD l a
 Cm.a0).2.2.1 <
 (2 : Int))) =
 true) ∧
 (((List.getD l a
 Cm.a0).1 ==
 (2 : Int) &&
 decide
 ((List.getD l a
 Cm.a0).2.2.1 <
 (2 : Int))) =
 true →
 ((List.getD l a
 Cm.a0).1 ==
 (2 : Int) &&
 decide
 ((List.getD l a
 Cm.a0).2.2.1 <
 (2 : Int))) =
 true) ∧
 ifb
 ((List.getD l a
 Cm.a0).1 ==
 (2 : Int) &&
 decide
 ((List.getD l a
 Cm.a0).2.2.1 <
 (2 : Int)) &&
 !Cm.next
 (List.getD l a
 Cm.a0).2.1
 (List.drop
 (Int.toNat
 (IntKind.wrap IntKind.i64 ((↑a : Int) + (1 : Int))))
 l))
 (false = Cm.tidy l ∧ True)
 (∃ (a' : Nat),
 ((a' ≤ List.length l ∧ Cm.tidy l = Cm.tidy (List.drop a' l)) ∧
 List.length l - a' < List.length l - a) ∧
 (l = l ∧
 (↑a' : Int) =
 IntKind.wrap IntKind.i64 ((↑a : Int) + (1 : Int))) ∧
 True ∧ True))
 (true = Cm.tidy l ∧ True)) := by kernel_rfl
theorem vc17 (l : List Cm.A) : (FGA E1 Try.f17 (sTo kA fun l => l.length ≤ 16777216) [⟨kAs, l⟩] (one (anTo l))) = (
 ((↑(List.length l) : Int) = (↑(List.length l) : Int) ∧
 (0 : Int) ≤ (↑(List.length l) : Int) ∧ (↑(List.length l) : Int) * (↑(nat_lit 40) : Int) ≤ (140737488355328 : Int)) ∧
 (∃ (a : Nat),
 a ≤ List.length l ∧
 (l = l ∧ ([] : Go.Am.Pth) = [] ∧ (↑a : Int) = (0 : Int)) ∧
 Cm.fill Cm.a0 l a =
 List.replicate (List.length l) Cm.a0 ∧
 True) ∧
 ∀ (a : Nat),
 a ≤ List.length l →
 ifb (decide ((↑a : Int) < (↑(List.length l) : Int)))
 (((0 : Int) ≤ (↑a : Int) ∧ (↑a : Int) < (↑(List.length l) : Int)) ∧
 True ∧
 ((0 : Int) ≤ (↑a : Int) ∧
 (↑a : Int) <
 (↑(List.length (Cm.fill Cm.a0 l a)) : Int)) ∧
 ∃ (a' : Nat),
 (a' ≤ List.length l ∧ List.length l - a' < List.length l - a) ∧
 (l = l ∧ ([] : Go.Am.Pth) = [] ∧ (↑a' : Int) = IntKind.wrap IntKind.i64 ((↑a : Int) + (1 : Int))) ∧
 Cm.fill Cm.a0 l a' =
 List.set (Cm.fill Cm.a0 l a) a
 (List.getD l a Cm.a0) ∧
 True)
 (Cm.fill Cm.a0 l a = l ∧ True)) := by kernel_rfl
theorem vc19 (l m : List Cm.A) : (FGA E1 Try.f19 (sEqL kA Cm.eqA) [⟨kAs, l⟩, ⟨kAs, m⟩] (one (anEq l m))) = (
 ifb ((↑(List.length l) : Int) != (↑(List.length m) : Int)) (false = Cm.eqL Cm.eqA l m ∧ True)
 ((∃ (a : Nat),
 (a ≤ List.length l ∧ Cm.eqL Cm.eqA l m = Cm.eqL Cm.eqA (List.drop a l) (List.drop a m)) ∧
 (l = l ∧ m = m ∧ (↑a : Int) = (0 : Int)) ∧ True ∧ True) ∧
 ∀ (a : Nat),
 a ≤ List.length l ∧ Cm.eqL Cm.eqA l m = Cm.eqL Cm.eqA (List.drop a l) (List.drop a m) →
 ifb (decide ((↑a : Int) < (↑(List.length l) : Int)))
 (((0 : Int) ≤ (↑a : Int) ∧ (↑a : Int) < (↑(List.length l) : Int)) ∧
 ((0 : Int) ≤ (↑a : Int) ∧ (↑a : Int) < (↑(List.length m) : Int)) ∧
 True ∧
 ifb
 (!Cm.eqA (List.getD l a Cm.a0)
 (List.getD m a Cm.a0))
 (false = Cm.eqL Cm.eqA l m ∧ True)
 (∃ (a' : Nat),
 ((a' ≤ List.length l ∧ Cm.eqL Cm.eqA l m = Cm.eqL Cm.eqA (List.drop a' l) (List.drop a' m)) ∧
 List.length l - a' < List.length l - a) ∧
 (l = l ∧ m = m ∧ (↑a' : Int) = IntKind.wrap IntKind.i64 ((↑a : Int) + (1 : Int))) ∧ True ∧ True))
 (true = Cm.eqL Cm.eqA l m ∧ True))) := by kernel_rfl
theorem vc18 (l : List Cm.A) : (FGA E2 Try.f18 sTidy [⟨kAs, l⟩] (one (anTidyI l))) = (
 (∃ (a : Nat),
 (a ≤ List.length l ∧ Cm.tidy l = Cm.tidy (List.drop a l)) ∧
 (l = l ∧ l = l ∧ (↑(List.length l) : Int) = (↑(List.length l) : Int) ∧ (↑a : Int) = (0 : Int)) ∧ True ∧ True) ∧
 ∀ (a : Nat),
 a ≤ List.length l ∧ Cm.tidy l = Cm.tidy (List.drop a l) →
 ifb (decide ((↑a : Int) < (↑(List.length l) : Int)))
 (((0 : Int) ≤ (↑a : Int) ∧ (↑a : Int) < (↑(List.length l) : Int)) ∧
 ((!(List.getD l a Cm.a0).1 != (2 : Int)) = true →
 (!(List.getD l a Cm.a0).1 != (2 : Int)) = true) ∧
 ((!(List.getD l a Cm.a0).1 != (2 : Int)) = true →
 (!(List.getD l a Cm.a0).1 != (2 : Int)) = true) ∧
 (((List.getD l a Cm.a0).1 != (2 : Int)) = false →
 (!(List.getD l a Cm.a0).1 != (2 : Int)) = true) ∧
 ifb
 ((List.getD l a Cm.a0).1 != (2 : Int) ||
 decide ((List.getD l a Cm.a0).2.2.1 ≥ (2 : Int)))
 (∃ (a' : Nat),
 ((a' ≤ List.length l ∧ Cm.tidy l = Cm.tidy (List.drop a' l)) ∧
 List.length l - a' < List.length l - a) ∧
 (l = l ∧
 l = l ∧
 (↑(List.length l) : Int) = (↑(List.length l) : Int) ∧
 (↑a' : Int) = IntKind.wrap IntKind.i64 ((↑a : Int) + (1 : Int))) ∧
 True ∧ True)
 (((0 : Int) ≤ IntKind.wrap IntKind.i64 ((↑a : Int) + (1 : Int)) ∧
 IntKind.wrap IntKind.i64 ((↑a : Int) + (1 : Int)) ≤ (↑(List.length l) : Int) ∧
 (↑(List.length l) : Int) ≤ (↑(List.length l) : Int)) ∧
 (∃ (a_1 : Nat),
 (a_1 ≤ List.length (List.drop (a + (1 : Nat)) l) ∧
 Cm.next (List.getD l a Cm.a0).2.1
 (List.drop (a + (1 : Nat)) l) =
 Cm.next (List.getD l a Cm.a0).2.1
 (List.drop a_1 (List.drop (a + (1 : Nat)) l))) ∧
 (l = l ∧
 l = l ∧
 (↑(List.length l) : Int) = (↑(List.length l) : Int) ∧
 (↑a : Int) = (↑a : Int) ∧
 ([] : Go.Am.Pth) = [] ∧
 List.drop (a + (1 : Nat)) l =
 List.drop (Int.toNat (IntKind.wrap IntKind.i64 ((↑a : Int) + (1 : Int))))
 (List.take (List.length l) l) ∧
 (↑(List.length (List.drop (a + (1 : Nat)) l)) : Int) =
 (↑(List.length
 (List.drop
 (Int.toNat (IntKind.wrap IntKind.i64 ((↑a : Int) + (1 : Int))))
 (List.take (List.length l) l))) :
 Int) ∧
 (↑a_1 : Int) = (0 : Int)) ∧
 True ∧
 (List.getD l a Cm.a0).1 =
 (List.getD l a Cm.a0).1 ∧
 (List.getD l a Cm.a0).2.1 =
 (List.getD l a Cm.a0).2.1 ∧
 (List.getD l a Cm.a0).2.2.1 =
 (List.getD l a Cm.a0).2.2.1 ∧
 (List.getD l a Cm.a0).2.2.2.1 =
 (List.getD l a
 Cm.a0).2.2.2.1 ∧
 (List.getD l a Cm.a0).2.2.2.2 =
 (List.getD l a
 Cm.a0).2.2.2.2) ∧
 ∀ (a_1 : Nat),
 a_1 ≤ List.length (List.drop (a + (1 : Nat)) l) ∧
 Cm.next (List.getD l a Cm.a0).2.1
 (List.drop (a + (1 : Nat)) l) =
 Cm.next (List.getD l a Cm.a0).2.1
 (List.drop a_1 (List.drop (a + (1 : Nat)) l)) →
 ifb (decide ((↑a_1 : Int) < (↑(List.length (List.drop (a + (1 : Nat)) l)) : Int)))
 (((0 : Int) ≤ (↑a_1 : Int) ∧
 (↑a_1 : Int) < (↑(List.length (List.drop (a + (1 : Nat)) l)) : Int)) ∧
 True ∧
 ifb
 (!Cm.ofGuest
 (List.getD (List.drop (a + (1 : Nat)) l) a_1
 Cm.a0)
 (List.getD l a Cm.a0).2.1)
 (∃ (a' : Nat),
 ((a' ≤ List.length (List.drop (a + (1 : Nat)) l) ∧
 Cm.next
 (List.getD l a
 Cm.a0).2.1
 (List.drop (a + (1 : Nat)) l) =
 Cm.next
 (List.getD l a
 Cm.a0).2.1
 (List.drop a' (List.drop (a + (1 : Nat)) l))) ∧
 List.length l - a' < List.length l - a_1) ∧
 (l = l ∧
 l = l ∧
 (↑(List.length l) : Int) = (↑(List.length l) : Int) ∧
 (↑a : Int) = (↑a : Int) ∧
 ([] : Go.Am.Pth) = [] ∧
 List.drop (a + (1 : Nat)) l = List.drop (a + (1 : Nat)) l ∧
 (↑(List.length (List.drop (a + (1 : Nat)) l)) : Int) =
 (↑(List.length (List.drop (a + (1 : Nat)) l)) : Int) ∧
 (↑a' : Int) =
 IntKind.wrap IntKind.i64 ((↑a_1 : Int) + (1 : Int))) ∧
 True ∧
 (List.getD l a Cm.a0).1 =
 (List.getD l a
 Cm.a0).1 ∧
 (List.getD l a
 Cm.a0).2.1 =
 (List.getD l a
 Cm.a0).2.1 ∧
 (List.getD l a
 Cm.a0).2.2.1 =
 (List.getD l a
 Cm.a0).2.2.1 ∧
 (List.getD l a
 Cm.a0).2.2.2.1 =
 (List.getD l a
 Cm.a0).2.2.2.1 ∧
 (List.getD l a
 Cm.a0).2.2.2.2 =
 (List.getD l a
 Cm.a0).2.2.2.2)
 (ifb
 ((List.getD (List.drop (a + (1 : Nat)) l) a_1
 Cm.a0).1 !=
 (5 : Int))
 (false = Cm.tidy l ∧ True)
 (∃ (a' : Nat),
 ((a' ≤ List.length l ∧ Cm.tidy l = Cm.tidy (List.drop a' l)) ∧
 List.length l - a' < List.length l - a) ∧
 (l = l ∧
 l = l ∧
 (↑(List.length l) : Int) = (↑(List.length l) : Int) ∧
 (↑a' : Int) = IntKind.wrap IntKind.i64 ((↑a : Int) + (1 : Int))) ∧
 True ∧ True)))
 (∃ (a' : Nat),
 ((a' ≤ List.length l ∧ Cm.tidy l = Cm.tidy (List.drop a' l)) ∧
 List.length l - a' < List.length l - a) ∧
 (l = l ∧
 l = l ∧
 (↑(List.length l) : Int) = (↑(List.length l) : Int) ∧
 (↑a' : Int) = IntKind.wrap IntKind.i64 ((↑a : Int) + (1 : Int))) ∧
 True ∧ True)))
 (true = Cm.tidy l ∧ True)) := by kernel_rfl
theorem vc3 (l : List Cm.A) : (FGA E4 Try.f3 sLaw [⟨kAs, l⟩] no) = (
 True ∧
 ifb (decide (Cm.szL l (1048576 : Int) < (0 : Int))) (true = true ∧ True)
 (List.length l ≤ (16777216 : Nat) ∧
 List.length l ≤ (16777216 : Nat) ∧
 List.length l ≤ (16777216 : Nat) ∧
 List.length l ≤ (16777216 : Nat) ∧
 ifb (!Cm.tidy l == Cm.tidy l) (false = true ∧ True)
 (List.length l ≤ (16777216 : Nat) ∧
 List.length l ≤ (16777216 : Nat) ∧ ifb (!Cm.eqL Cm.eqA l l) (false = true ∧ True) (true = true ∧ True)))) := by kernel_rfl
end Go.Proofs.Ytcfmelkegjpciaa.T

open Go Go.Am Go.Proofs
open Go.Cm (R rdOk)
namespace Go.Proofs.Ytcfmelkegjpciaa.T
set_option maxHeartbeats 0
set_option maxRecDepth 100000
def anTab (p : R → Int → Int) (r0 : R) (g : Int) : Ann := .mk (Nat × R × List Cm.A) (fun a => ⟨[(0, .pb 0 0 []), (1, .int .i64 g), (5, .rf 1000 0 0 []), (6, .int .i64 (a.1 : Int))], [(1000, ⟨0, 0, some ⟨kA, a.2.2, true⟩, none⟩)], [(0, ⟨0, some (opnV kR a.2.1), false⟩)]⟩) (fun a => 6 - a.1)
  (fun a => (a.1 ≤ 6 ∧ a.2.2.length ≤ 2 * a.1) ∧ rdOk a.2.1 (274877906944 + 2 * a.1) ∧ Cm.tabGo p g 6 0 (r0, []) = Cm.tabGo p g (6 - a.1) a.1 a.2) fun _ _ => .none
variable (p : R → Int → Int) (act : R → Int → R × Cm.A) (tb : R → Int → R × List Cm.A)
def Ep : Env := En (Go.Am.look [] [(105, [sPick p])])
def Ew : Env := En (Go.Am.look [] [(105, [sPick p]), (128, [sWord (Cm.wordM p)])])
theorem vc105 (F : R → Int → Int) (r : R) (n : Int) : (FGA E0 Try.f105 (sPick F) [⟨kR, r⟩, ⟨kI, n⟩] no) = (
 ((!decide (n < (1 : Int))) = true → (!decide (n < (1 : Int))) = true) ∧
 ((!decide (n < (1 : Int))) = true → (!decide (n < (1 : Int))) = true) ∧
 ((!decide (n < (1 : Int))) = true → (!decide (n < (1 : Int))) = true) ∧
 ((!decide (n < (1 : Int))) = true → (!decide (n < (1 : Int))) = true) ∧
 ((!decide (n < (1 : Int))) = true → (!decide (n < (1 : Int))) = true) ∧
 (decide (n < (1 : Int)) = false → (!decide (n < (1 : Int))) = true) ∧
 ifb (decide (n < (1 : Int)) || (↑(List.length r.1) : Int) == (0 : Int))
 ((0 : Int) = F r n ∧ (r.1, IntKind.wrap IntKind.i64 (r.2 + (1 : Int))) = (r.1, Cm.inc r.2) ∧ True)
 (ifb
 (decide
 (IntKind.wrap IntKind.i64 (IntKind.wrap IntKind.i64 (r.2 + (1 : Int)) - (1 : Int)) <
 (↑(List.length r.1) : Int)))
 (((0 : Int) ≤ IntKind.wrap IntKind.i64 (IntKind.wrap IntKind.i64 (r.2 + (1 : Int)) - (1 : Int)) ∧
 IntKind.wrap IntKind.i64 (IntKind.wrap IntKind.i64 (r.2 + (1 : Int)) - (1 : Int)) <
 (↑(List.length r.1) : Int)) ∧
 n ≠ (0 : Int) ∧
 Int.tmod
 (IntKind.wrap IntKind.i64
 (List.getD r.1
 (Int.toNat
 (IntKind.wrap IntKind.i64 (IntKind.wrap IntKind.i64 (r.2 + (1 : Int)) - (1 : Int))))
 (0 : Int)))
 n =
 F r n ∧
 (r.1, IntKind.wrap IntKind.i64 (r.2 + (1 : Int))) = (r.1, Cm.inc r.2) ∧ True)
 ((↑(List.length r.1) : Int) ≠ (0 : Int) ∧
 ((0 : Int) ≤
 Int.tmod (IntKind.wrap IntKind.i64 (IntKind.wrap IntKind.i64 (r.2 + (1 : Int)) - (1 : Int)))
 (↑(List.length r.1) : Int) ∧
 Int.tmod (IntKind.wrap IntKind.i64 (IntKind.wrap IntKind.i64 (r.2 + (1 : Int)) - (1 : Int)))
 (↑(List.length r.1) : Int) <
 (↑(List.length r.1) : Int)) ∧
 (↑(List.length r.1) : Int) ≠ (0 : Int) ∧
 ((0 : Int) ≤
 Int.tmod
 (IntKind.wrap IntKind.i64
 (IntKind.wrap IntKind.i64
 (IntKind.wrap IntKind.i64 (IntKind.wrap IntKind.i64 (r.2 + (1 : Int)) - (1 : Int)) *
 (7 : Int)) +
 (3 : Int)))
 (↑(List.length r.1) : Int) ∧
 Int.tmod
 (IntKind.wrap IntKind.i64
 (IntKind.wrap IntKind.i64
 (IntKind.wrap IntKind.i64 (IntKind.wrap IntKind.i64 (r.2 + (1 : Int)) - (1 : Int)) *
 (7 : Int)) +
 (3 : Int)))
 (↑(List.length r.1) : Int) <
 (↑(List.length r.1) : Int)) ∧
 (↑(List.length r.1) : Int) ≠ (0 : Int) ∧
 (64 : Int) ≠ (0 : Int) ∧
 n ≠ (0 : Int) ∧
 Int.tmod
 (xorI IntKind.i64
 (IntKind.wrap IntKind.i64
 (IntKind.wrap IntKind.i64
 (IntKind.wrap IntKind.i64
 (IntKind.wrap IntKind.i64
 (IntKind.wrap IntKind.i64
 (List.getD r.1
 (Int.toNat
 (Int.tmod
 (IntKind.wrap IntKind.i64
 (IntKind.wrap IntKind.i64 (r.2 + (1 : Int)) -
 (1 : Int)))
 (↑(List.length r.1) : Int)))
 (0 : Int)) *
 (131 : Int)) +
 IntKind.wrap IntKind.i64
 (IntKind.wrap IntKind.i64
 (List.getD r.1
 (Int.toNat
 (Int.tmod
 (IntKind.wrap IntKind.i64
 (IntKind.wrap IntKind.i64
 (IntKind.wrap IntKind.i64
 (IntKind.wrap IntKind.i64 (r.2 + (1 : Int)) -
 (1 : Int)) *
 (7 : Int)) +
 (3 : Int)))
 (↑(List.length r.1) : Int)))
 (0 : Int)) *
 (1117 : Int))) +
 IntKind.wrap IntKind.i64
 (IntKind.wrap IntKind.i64
 (IntKind.wrap IntKind.i64 (r.2 + (1 : Int)) - (1 : Int)) *
 (29 : Int))) +
 IntKind.wrap IntKind.i64
 (IntKind.wrap IntKind.i64
 (Int.tdiv
 (IntKind.wrap IntKind.i64
 (IntKind.wrap IntKind.i64 (r.2 + (1 : Int)) - (1 : Int)))
 (↑(List.length r.1) : Int)) *
 (53 : Int))))
 (IntKind.wrap IntKind.i64
 (Int.tdiv
 (IntKind.wrap IntKind.i64
 (IntKind.wrap IntKind.i64
 (IntKind.wrap IntKind.i64
 (IntKind.wrap IntKind.i64
 (IntKind.wrap IntKind.i64
 (List.getD r.1
 (Int.toNat
 (Int.tmod
 (IntKind.wrap IntKind.i64
 (IntKind.wrap IntKind.i64 (r.2 + (1 : Int)) -
 (1 : Int)))
 (↑(List.length r.1) : Int)))
 (0 : Int)) *
 (131 : Int)) +
 IntKind.wrap IntKind.i64
 (IntKind.wrap IntKind.i64
 (List.getD r.1
 (Int.toNat
 (Int.tmod
 (IntKind.wrap IntKind.i64
 (IntKind.wrap IntKind.i64
 (IntKind.wrap IntKind.i64
 (IntKind.wrap IntKind.i64
 (r.2 + (1 : Int)) -
 (1 : Int)) *
 (7 : Int)) +
 (3 : Int)))
 (↑(List.length r.1) : Int)))
 (0 : Int)) *
 (1117 : Int))) +
 IntKind.wrap IntKind.i64
 (IntKind.wrap IntKind.i64
 (IntKind.wrap IntKind.i64 (r.2 + (1 : Int)) - (1 : Int)) *
 (29 : Int))) +
 IntKind.wrap IntKind.i64
 (IntKind.wrap IntKind.i64
 (Int.tdiv
 (IntKind.wrap IntKind.i64
 (IntKind.wrap IntKind.i64 (r.2 + (1 : Int)) - (1 : Int)))
 (↑(List.length r.1) : Int)) *
 (53 : Int))))
 (64 : Int))))
 n =
 F r n ∧
 (r.1, IntKind.wrap IntKind.i64 (r.2 + (1 : Int))) = (r.1, Cm.inc r.2) ∧ True))) := by kernel_rfl
theorem vc69 (b : List Int) : (FGA E0 Try.f69 sOpen [⟨.sl (.int .u8), b⟩] no) = (
 ifb (decide ((↑(List.length b) : Int) > (2000 : Int)))
 (((0 : Int) ≤ (0 : Int) ∧ (0 : Int) ≤ (2000 : Int) ∧ (2000 : Int) ≤ (↑(List.length b) : Int)) ∧
 (List.take (2000 : Nat) b, (0 : Int)) = (Cm.cut2 b, (0 : K.T kI)) ∧ True)
 ((b, (0 : Int)) = (Cm.cut2 b, (0 : K.T kI)) ∧ True)) := by kernel_rfl
theorem vc128 (r : R) : (FGA (Ep p) Try.f128 (sWord (Cm.wordM p)) [⟨kR, r⟩] no) = (
 rdOk r (1099511627776 : Int) ∧
 ifb (p r (3 : Int) == (0 : Int))
 (rdOk (r.1, Cm.inc r.2) (1099511627776 : Int) ∧
 p (r.1, Cm.inc r.2) (64 : Int) = Cm.wordM p r ∧ (r.1, Cm.inc (Cm.inc r.2)) = (r.1, Cm.inc (Cm.inc r.2)) ∧ True)
 (rdOk (r.1, Cm.inc r.2) (1099511627776 : Int) ∧
 p (r.1, Cm.inc r.2) (14 : Int) = Cm.wordM p r ∧ (r.1, Cm.inc (Cm.inc r.2)) = (r.1, Cm.inc (Cm.inc r.2)) ∧ True)) := by kernel_rfl
theorem vc123 (r : R) (g : Int) : (FGA (Ep p) Try.f123 (sTables fun r g => Cm.tabGo p g 6 0 (r, [])) [⟨kR, r⟩, ⟨kI, g⟩] (fun _ => anTab p r g)) = (
 (∃ (a : Nat × R × List Cm.A),
 ((a.1 ≤ (6 : Nat) ∧ List.length a.2.2 ≤ (2 : Nat) * a.1) ∧
 rdOk a.2.1 ((274877906944 : Int) + (2 : Int) * (↑a.1 : Int)) ∧
 Cm.tabGo p g (6 : Nat) (0 : Nat) (r, []) = Cm.tabGo p g ((6 : Nat) - a.1) a.1 a.2) ∧
 (([] : Go.Am.Pth) = [] ∧ g = g ∧ ([] : Go.Am.Pth) = [] ∧ (↑a.1 : Int) = (0 : Int)) ∧ a.2.2 = [] ∧ a.2.1.1 = r.1 ∧ a.2.1.2 = r.2) ∧
 ∀ (a : Nat × R × List Cm.A),
 (a.1 ≤ (6 : Nat) ∧ List.length a.2.2 ≤ (2 : Nat) * a.1) ∧
 rdOk a.2.1 ((274877906944 : Int) + (2 : Int) * (↑a.1 : Int)) ∧
 Cm.tabGo p g (6 : Nat) (0 : Nat) (r, []) = Cm.tabGo p g ((6 : Nat) - a.1) a.1 a.2 →
 ifb (decide ((↑a.1 : Int) < (6 : Int)))
 (rdOk a.2.1 (1099511627776 : Int) ∧
 ifb (decide (p a.2.1 (4 : Int) > (0 : Int)))
 ((4 : Int) ≠ (0 : Int) ∧
 (4 : Int) ≠ (0 : Int) ∧
 rdOk (a.2.1.1, Cm.inc a.2.1.2) (1099511627776 : Int) ∧
 (List.length a.2.2 + (2 : Nat)) * nat_lit 40 ≤ (140737488355328 : Nat) ∧
 ∃ (a' : Nat × R × List Cm.A),
 (((a'.1 ≤ (6 : Nat) ∧ List.length a'.2.2 ≤ (2 : Nat) * a'.1) ∧
 rdOk a'.2.1 ((274877906944 : Int) + (2 : Int) * (↑a'.1 : Int)) ∧
 Cm.tabGo p g (6 : Nat) (0 : Nat) (r, []) = Cm.tabGo p g ((6 : Nat) - a'.1) a'.1 a'.2) ∧
 (6 : Nat) - a'.1 < (6 : Nat) - a.1) ∧
 (([] : Go.Am.Pth) = [] ∧
 g = g ∧ ([] : Go.Am.Pth) = [] ∧ (↑a'.1 : Int) = IntKind.wrap IntKind.i64 ((↑a.1 : Int) + (1 : Int))) ∧
 a'.2.2 =
 List.append a.2.2
 [((2 : Int), g, IntKind.wrap IntKind.i64 (Int.tdiv (↑a.1 : Int) (4 : Int)),
 Int.tmod (↑a.1 : Int) (4 : Int),
 IntKind.wrap IntKind.i64 ((5 : Int) + p (a.2.1.1, Cm.inc a.2.1.2) (8 : Int))),
 ((5 : Int), g, (0 : Int), (0 : Int), (0 : Int))] ∧
 a'.2.1.1 = a.2.1.1 ∧ a'.2.1.2 = Cm.inc (Cm.inc a.2.1.2))
 (∃ (a' : Nat × R × List Cm.A),
 (((a'.1 ≤ (6 : Nat) ∧ List.length a'.2.2 ≤ (2 : Nat) * a'.1) ∧
 rdOk a'.2.1 ((274877906944 : Int) + (2 : Int) * (↑a'.1 : Int)) ∧
 Cm.tabGo p g (6 : Nat) (0 : Nat) (r, []) = Cm.tabGo p g ((6 : Nat) - a'.1) a'.1 a'.2) ∧
 (6 : Nat) - a'.1 < (6 : Nat) - a.1) ∧
 (([] : Go.Am.Pth) = [] ∧ g = g ∧ ([] : Go.Am.Pth) = [] ∧ (↑a'.1 : Int) = IntKind.wrap IntKind.i64 ((↑a.1 : Int) + (1 : Int))) ∧
 a'.2.2 = a.2.2 ∧ a'.2.1.1 = a.2.1.1 ∧ a'.2.1.2 = Cm.inc a.2.1.2))
 (a.2.2 = (Cm.tabGo p g (6 : Nat) (0 : Nat) (r, [])).2 ∧
 a.2.1 = (Cm.tabGo p g (6 : Nat) (0 : Nat) (r, [])).1 ∧ True)) := by kernel_rfl
def Ea : Env := En (Go.Am.look [] [(105, [sPick p]), (128, [sWord (Cm.wordM p)]), (80, [sAct act]), (123, [sTables tb])])
def anPlay (r : R) : Ann := .mk (Nat × R × List Cm.A) (fun a => ⟨[(0, .pb 0 0 []), (4, .int .i64 (Cm.playG p r)), (5, .rf 1000 0 0 []), (6, .bool (Cm.playT p tb r)), (7, .int .i64 (a.1 : Int))], [(1000, ⟨0, 0, some ⟨kA, a.2.2, true⟩, none⟩)], [(0, ⟨0, some (opnV kR a.2.1), false⟩)]⟩) (fun a => a.1)
  (fun a => (a.1 ≤ 52 ∧ a.2.2.length ≤ 60) ∧ rdOk a.2.1 (137438953472 + 100 + 20 * (52 - a.1)) ∧ Cm.playE p act tb r = Cm.playGo act (Cm.playG p r) (Cm.playT p tb r) a.1 a.2) fun _ _ => .none
def Es : Env := En (Go.Am.look [] [(69, [sOpen]), (70, [sPlay (Cm.playM p act tb)])])
theorem vc80 (r : R) (g : Int) : (FGA (Ew p) Try.f80 (sAct act) [⟨kR, r⟩, ⟨kI, g⟩] no) = (
 rdOk r (1099511627776 : Int) ∧
 rdOk (r.1, Cm.inc r.2) (1099511627776 : Int) ∧
 rdOk (r.1, Cm.inc (Cm.inc r.2)) (1099511627776 : Int) ∧
 rdOk (r.1, Cm.inc (Cm.inc (Cm.inc r.2))) (549755813888 : Int) ∧
 rdOk (r.1, Cm.inc (Cm.inc (Cm.inc (Cm.inc (Cm.inc r.2))))) (1099511627776 : Int) ∧
 ifb (p (r.1, Cm.inc (Cm.inc (Cm.inc (Cm.inc (Cm.inc r.2))))) (20 : Int) == (0 : Int))
 (((1 : Int), p r g, p (r.1, Cm.inc r.2) (6 : Int), p (r.1, Cm.inc (Cm.inc r.2)) (4 : Int),
 Cm.wordM p (r.1, Cm.inc (Cm.inc (Cm.inc r.2)))) =
 (act r g).2 ∧
 (r.1, Cm.inc (Cm.inc (Cm.inc (Cm.inc (Cm.inc (Cm.inc r.2)))))) = (act r g).1 ∧ True)
 (ifb (p (r.1, Cm.inc (Cm.inc (Cm.inc (Cm.inc (Cm.inc r.2))))) (20 : Int) == (1 : Int))
 (((1 : Int), p r g, p (r.1, Cm.inc r.2) (6 : Int), p (r.1, Cm.inc (Cm.inc r.2)) (4 : Int),
 Cm.wordM p (r.1, Cm.inc (Cm.inc (Cm.inc r.2)))) =
 (act r g).2 ∧
 (r.1, Cm.inc (Cm.inc (Cm.inc (Cm.inc (Cm.inc (Cm.inc r.2)))))) = (act r g).1 ∧ True)
 (ifb (p (r.1, Cm.inc (Cm.inc (Cm.inc (Cm.inc (Cm.inc r.2))))) (20 : Int) == (2 : Int))
 (((2 : Int), p r g, p (r.1, Cm.inc r.2) (6 : Int), p (r.1, Cm.inc (Cm.inc r.2)) (4 : Int),
 Cm.wordM p (r.1, Cm.inc (Cm.inc (Cm.inc r.2)))) =
 (act r g).2 ∧
 (r.1, Cm.inc (Cm.inc (Cm.inc (Cm.inc (Cm.inc (Cm.inc r.2)))))) = (act r g).1 ∧ True)
 (ifb (p (r.1, Cm.inc (Cm.inc (Cm.inc (Cm.inc (Cm.inc r.2))))) (20 : Int) == (3 : Int))
 (((2 : Int), p r g, p (r.1, Cm.inc r.2) (6 : Int), p (r.1, Cm.inc (Cm.inc r.2)) (4 : Int),
 Cm.wordM p (r.1, Cm.inc (Cm.inc (Cm.inc r.2)))) =
 (act r g).2 ∧
 (r.1, Cm.inc (Cm.inc (Cm.inc (Cm.inc (Cm.inc (Cm.inc r.2)))))) = (act r g).1 ∧ True)
 (ifb (p (r.1, Cm.inc (Cm.inc (Cm.inc (Cm.inc (Cm.inc r.2))))) (20 : Int) == (4 : Int))
 (rdOk (r.1, Cm.inc (Cm.inc (Cm.inc (Cm.inc (Cm.inc (Cm.inc r.2)))))) (1099511627776 : Int) ∧
 (4 : Int) ≠ (0 : Int) ∧
 (4 : Int) ≠ (0 : Int) ∧
 rdOk (r.1, Cm.inc (Cm.inc (Cm.inc (Cm.inc (Cm.inc (Cm.inc (Cm.inc r.2)))))))
 (1099511627776 : Int) ∧
 ((2 : Int), p r g,
 IntKind.wrap IntKind.i64
 (Int.tdiv
 (p (r.1, Cm.inc (Cm.inc (Cm.inc (Cm.inc (Cm.inc (Cm.inc r.2)))))) (6 : Int))
 (4 : Int)),
 Int.tmod (p (r.1, Cm.inc (Cm.inc (Cm.inc (Cm.inc (Cm.inc (Cm.inc r.2)))))) (6 : Int))
 (4 : Int),
 IntKind.wrap IntKind.i64
 ((5 : Int) +
 p (r.1, Cm.inc (Cm.inc (Cm.inc (Cm.inc (Cm.inc (Cm.inc (Cm.inc r.2)))))))
 (8 : Int))) =
 (act r g).2 ∧
 (r.1, Cm.inc (Cm.inc (Cm.inc (Cm.inc (Cm.inc (Cm.inc (Cm.inc (Cm.inc r.2)))))))) =
 (act r g).1 ∧
 True)
 (ifb (p (r.1, Cm.inc (Cm.inc (Cm.inc (Cm.inc (Cm.inc r.2))))) (20 : Int) == (5 : Int))
 (rdOk (r.1, Cm.inc (Cm.inc (Cm.inc (Cm.inc (Cm.inc (Cm.inc r.2)))))) (1099511627776 : Int) ∧
 (4 : Int) ≠ (0 : Int) ∧
 (4 : Int) ≠ (0 : Int) ∧
 rdOk (r.1, Cm.inc (Cm.inc (Cm.inc (Cm.inc (Cm.inc (Cm.inc (Cm.inc r.2)))))))
 (1099511627776 : Int) ∧
 ((2 : Int), p r g,
 IntKind.wrap IntKind.i64
 (Int.tdiv
 (p (r.1, Cm.inc (Cm.inc (Cm.inc (Cm.inc (Cm.inc (Cm.inc r.2)))))) (6 : Int))
 (4 : Int)),
 Int.tmod
 (p (r.1, Cm.inc (Cm.inc (Cm.inc (Cm.inc (Cm.inc (Cm.inc r.2)))))) (6 : Int))
 (4 : Int),
 IntKind.wrap IntKind.i64
 ((5 : Int) +
 p (r.1, Cm.inc (Cm.inc (Cm.inc (Cm.inc (Cm.inc (Cm.inc (Cm.inc r.2)))))))
 (8 : Int))) =
 (act r g).2 ∧
 (r.1, Cm.inc (Cm.inc (Cm.inc (Cm.inc (Cm.inc (Cm.inc (Cm.inc (Cm.inc r.2)))))))) =
 (act r g).1 ∧
 True)
 (ifb (p (r.1, Cm.inc (Cm.inc (Cm.inc (Cm.inc (Cm.inc r.2))))) (20 : Int) == (6 : Int))
 (((3 : Int), p r g, p (r.1, Cm.inc r.2) (6 : Int), p (r.1, Cm.inc (Cm.inc r.2)) (4 : Int),
 Cm.wordM p (r.1, Cm.inc (Cm.inc (Cm.inc r.2)))) =
 (act r g).2 ∧
 (r.1, Cm.inc (Cm.inc (Cm.inc (Cm.inc (Cm.inc (Cm.inc r.2)))))) = (act r g).1 ∧ True)
 (ifb (p (r.1, Cm.inc (Cm.inc (Cm.inc (Cm.inc (Cm.inc r.2))))) (20 : Int) == (7 : Int))
 (((3 : Int), p r g, p (r.1, Cm.inc r.2) (6 : Int), p (r.1, Cm.inc (Cm.inc r.2)) (4 : Int),
 Cm.wordM p (r.1, Cm.inc (Cm.inc (Cm.inc r.2)))) =
 (act r g).2 ∧
 (r.1, Cm.inc (Cm.inc (Cm.inc (Cm.inc (Cm.inc (Cm.inc r.2)))))) = (act r g).1 ∧ True)
 (ifb (p (r.1, Cm.inc (Cm.inc (Cm.inc (Cm.inc (Cm.inc r.2))))) (20 : Int) == (8 : Int))
 (((3 : Int), p r g, p (r.1, Cm.inc r.2) (6 : Int), p (r.1, Cm.inc (Cm.inc r.2)) (4 : Int),
 Cm.wordM p (r.1, Cm.inc (Cm.inc (Cm.inc r.2)))) =
 (act r g).2 ∧
 (r.1, Cm.inc (Cm.inc (Cm.inc (Cm.inc (Cm.inc (Cm.inc r.2)))))) = (act r g).1 ∧ True)
 (ifb (p (r.1, Cm.inc (Cm.inc (Cm.inc (Cm.inc (Cm.inc r.2))))) (20 : Int) == (9 : Int))
 (((4 : Int), p r g, p (r.1, Cm.inc r.2) (6 : Int), p (r.1, Cm.inc (Cm.inc r.2)) (4 : Int),
 Cm.wordM p (r.1, Cm.inc (Cm.inc (Cm.inc r.2)))) =
 (act r g).2 ∧
 (r.1, Cm.inc (Cm.inc (Cm.inc (Cm.inc (Cm.inc (Cm.inc r.2)))))) = (act r g).1 ∧ True)
 (ifb (p (r.1, Cm.inc (Cm.inc (Cm.inc (Cm.inc (Cm.inc r.2))))) (20 : Int) == (10 : Int))
 (((4 : Int), p r g, p (r.1, Cm.inc r.2) (6 : Int),
 p (r.1, Cm.inc (Cm.inc r.2)) (4 : Int),
 Cm.wordM p (r.1, Cm.inc (Cm.inc (Cm.inc r.2)))) =
 (act r g).2 ∧
 (r.1, Cm.inc (Cm.inc (Cm.inc (Cm.inc (Cm.inc (Cm.inc r.2)))))) = (act r g).1 ∧ True)
 (ifb (p (r.1, Cm.inc (Cm.inc (Cm.inc (Cm.inc (Cm.inc r.2))))) (20 : Int) == (11 : Int))
 (((4 : Int), p r g, p (r.1, Cm.inc r.2) (6 : Int),
 p (r.1, Cm.inc (Cm.inc r.2)) (4 : Int),
 Cm.wordM p (r.1, Cm.inc (Cm.inc (Cm.inc r.2)))) =
 (act r g).2 ∧
 (r.1, Cm.inc (Cm.inc (Cm.inc (Cm.inc (Cm.inc (Cm.inc r.2)))))) = (act r g).1 ∧ True)
 (ifb
 (p (r.1, Cm.inc (Cm.inc (Cm.inc (Cm.inc (Cm.inc r.2))))) (20 : Int) == (12 : Int))
 (((5 : Int), p r g, p (r.1, Cm.inc r.2) (6 : Int),
 p (r.1, Cm.inc (Cm.inc r.2)) (4 : Int),
 Cm.wordM p (r.1, Cm.inc (Cm.inc (Cm.inc r.2)))) =
 (act r g).2 ∧
 (r.1, Cm.inc (Cm.inc (Cm.inc (Cm.inc (Cm.inc (Cm.inc r.2)))))) = (act r g).1 ∧
 True)
 (ifb
 (p (r.1, Cm.inc (Cm.inc (Cm.inc (Cm.inc (Cm.inc r.2))))) (20 : Int) == (13 : Int))
 (((5 : Int), p r g, p (r.1, Cm.inc r.2) (6 : Int),
 p (r.1, Cm.inc (Cm.inc r.2)) (4 : Int),
 Cm.wordM p (r.1, Cm.inc (Cm.inc (Cm.inc r.2)))) =
 (act r g).2 ∧
 (r.1, Cm.inc (Cm.inc (Cm.inc (Cm.inc (Cm.inc (Cm.inc r.2)))))) = (act r g).1 ∧
 True)
 (ifb
 (p (r.1, Cm.inc (Cm.inc (Cm.inc (Cm.inc (Cm.inc r.2))))) (20 : Int) ==
 (14 : Int))
 (((6 : Int), p r g, p (r.1, Cm.inc r.2) (6 : Int),
 p (r.1, Cm.inc (Cm.inc r.2)) (4 : Int),
 Cm.wordM p (r.1, Cm.inc (Cm.inc (Cm.inc r.2)))) =
 (act r g).2 ∧
 (r.1, Cm.inc (Cm.inc (Cm.inc (Cm.inc (Cm.inc (Cm.inc r.2)))))) = (act r g).1 ∧
 True)
 (ifb
 (p (r.1, Cm.inc (Cm.inc (Cm.inc (Cm.inc (Cm.inc r.2))))) (20 : Int) ==
 (15 : Int))
 (((7 : Int), p r g, p (r.1, Cm.inc r.2) (6 : Int),
 p (r.1, Cm.inc (Cm.inc r.2)) (4 : Int),
 Cm.wordM p (r.1, Cm.inc (Cm.inc (Cm.inc r.2)))) =
 (act r g).2 ∧
 (r.1, Cm.inc (Cm.inc (Cm.inc (Cm.inc (Cm.inc (Cm.inc r.2)))))) =
 (act r g).1 ∧
 True)
 (ifb
 (p (r.1, Cm.inc (Cm.inc (Cm.inc (Cm.inc (Cm.inc r.2))))) (20 : Int) ==
 (16 : Int))
 (((7 : Int), p r g, p (r.1, Cm.inc r.2) (6 : Int),
 p (r.1, Cm.inc (Cm.inc r.2)) (4 : Int),
 Cm.wordM p (r.1, Cm.inc (Cm.inc (Cm.inc r.2)))) =
 (act r g).2 ∧
 (r.1, Cm.inc (Cm.inc (Cm.inc (Cm.inc (Cm.inc (Cm.inc r.2)))))) =
 (act r g).1 ∧
 True)
 (ifb
 (p (r.1, Cm.inc (Cm.inc (Cm.inc (Cm.inc (Cm.inc r.2))))) (20 : Int) ==
 (17 : Int))
 (rdOk (r.1, Cm.inc (Cm.inc (Cm.inc (Cm.inc (Cm.inc (Cm.inc r.2))))))
 (1099511627776 : Int) ∧
 ((8 : Int), p r g,
 p (r.1, Cm.inc (Cm.inc (Cm.inc (Cm.inc (Cm.inc (Cm.inc r.2))))))
 (8 : Int),
 p (r.1, Cm.inc (Cm.inc r.2)) (4 : Int),
 Cm.wordM p (r.1, Cm.inc (Cm.inc (Cm.inc r.2)))) =
 (act r g).2 ∧
 (r.1,
 Cm.inc
 (Cm.inc (Cm.inc (Cm.inc (Cm.inc (Cm.inc (Cm.inc r.2))))))) =
 (act r g).1 ∧
 True)
 (ifb
 (p (r.1, Cm.inc (Cm.inc (Cm.inc (Cm.inc (Cm.inc r.2))))) (20 : Int) ==
 (18 : Int))
 (rdOk (r.1, Cm.inc (Cm.inc (Cm.inc (Cm.inc (Cm.inc (Cm.inc r.2))))))
 (1099511627776 : Int) ∧
 ((0 : Int) ≤
 p (r.1, Cm.inc (Cm.inc (Cm.inc (Cm.inc (Cm.inc (Cm.inc r.2))))))
 (3 : Int) ∧
 p (r.1, Cm.inc (Cm.inc (Cm.inc (Cm.inc (Cm.inc (Cm.inc r.2))))))
 (3 : Int) <
 (↑(3 : Nat) : Int)) ∧
 (List.getD [(9 : Int), (8 : Int), (6 : Int)]
 (Int.toNat
 (p
 (r.1,
 Cm.inc
 (Cm.inc (Cm.inc (Cm.inc (Cm.inc (Cm.inc r.2))))))
 (3 : Int)))
 (0 : Int),
 p r g, p (r.1, Cm.inc r.2) (6 : Int),
 p (r.1, Cm.inc (Cm.inc r.2)) (4 : Int),
 Cm.wordM p (r.1, Cm.inc (Cm.inc (Cm.inc r.2)))) =
 (act r g).2 ∧
 (r.1,
 Cm.inc
 (Cm.inc
 (Cm.inc (Cm.inc (Cm.inc (Cm.inc (Cm.inc r.2))))))) =
 (act r g).1 ∧
 True)
 (rdOk (r.1, Cm.inc (Cm.inc (Cm.inc (Cm.inc (Cm.inc (Cm.inc r.2))))))
 (1099511627776 : Int) ∧
 ifb
 (p (r.1, Cm.inc (Cm.inc (Cm.inc (Cm.inc (Cm.inc (Cm.inc r.2))))))
 (4 : Int) ==
 (0 : Int))
 (rdOk
 (r.1,
 Cm.inc
 (Cm.inc (Cm.inc (Cm.inc (Cm.inc (Cm.inc (Cm.inc r.2)))))))
 (1099511627776 : Int) ∧
 ifb
 (IntKind.wrap IntKind.i64
 (p
 (r.1,
 Cm.inc
 (Cm.inc
 (Cm.inc (Cm.inc (Cm.inc (Cm.inc (Cm.inc r.2)))))))
 (12 : Int) -
 (1 : Int)) ==
 (0 : Int))
 (rdOk
 (r.1,
 Cm.inc
 (Cm.inc
 (Cm.inc
 (Cm.inc (Cm.inc (Cm.inc (Cm.inc (Cm.inc r.2))))))))
 (1099511627776 : Int) ∧
 (IntKind.wrap IntKind.i64
 ((1 : Int) +
 p
 (r.1,
 Cm.inc
 (Cm.inc
 (Cm.inc
 (Cm.inc
 (Cm.inc
 (Cm.inc (Cm.inc (Cm.inc r.2))))))))
 (5 : Int)),
 p r g, p (r.1, Cm.inc r.2) (6 : Int),
 p (r.1, Cm.inc (Cm.inc r.2)) (4 : Int),
 Cm.wordM p (r.1, Cm.inc (Cm.inc (Cm.inc r.2)))) =
 (act r g).2 ∧
 (r.1,
 Cm.inc
 (Cm.inc
 (Cm.inc
 (Cm.inc
 (Cm.inc
 (Cm.inc
 (Cm.inc (Cm.inc (Cm.inc r.2))))))))) =
 (act r g).1 ∧
 True)
 ((IntKind.wrap IntKind.i64
 (p
 (r.1,
 Cm.inc
 (Cm.inc
 (Cm.inc
 (Cm.inc (Cm.inc (Cm.inc (Cm.inc r.2)))))))
 (12 : Int) -
 (1 : Int)),
 p r g, p (r.1, Cm.inc r.2) (6 : Int),
 p (r.1, Cm.inc (Cm.inc r.2)) (4 : Int),
 Cm.wordM p (r.1, Cm.inc (Cm.inc (Cm.inc r.2)))) =
 (act r g).2 ∧
 (r.1,
 Cm.inc
 (Cm.inc
 (Cm.inc
 (Cm.inc
 (Cm.inc (Cm.inc (Cm.inc (Cm.inc r.2)))))))) =
 (act r g).1 ∧
 True))
 (ifb
 (p (r.1, Cm.inc (Cm.inc (Cm.inc (Cm.inc (Cm.inc (Cm.inc r.2))))))
 (4 : Int) ==
 (1 : Int))
 (rdOk
 (r.1,
 Cm.inc
 (Cm.inc (Cm.inc (Cm.inc (Cm.inc (Cm.inc (Cm.inc r.2)))))))
 (1099511627776 : Int) ∧
 ((0 : Int) ≤
 p
 (r.1,
 Cm.inc
 (Cm.inc
 (Cm.inc (Cm.inc (Cm.inc (Cm.inc (Cm.inc r.2)))))))
 (2 : Int) ∧
 p
 (r.1,
 Cm.inc
 (Cm.inc
 (Cm.inc (Cm.inc (Cm.inc (Cm.inc (Cm.inc r.2)))))))
 (2 : Int) <
 (↑(2 : Nat) : Int)) ∧
 ifb ((0 : Int) == (0 : Int))
 (rdOk
 (r.1,
 Cm.inc
 (Cm.inc
 (Cm.inc
 (Cm.inc
 (Cm.inc (Cm.inc (Cm.inc (Cm.inc r.2))))))))
 (1099511627776 : Int) ∧
 (IntKind.wrap IntKind.i64
 ((1 : Int) +
 p
 (r.1,
 Cm.inc
 (Cm.inc
 (Cm.inc
 (Cm.inc
 (Cm.inc
 (Cm.inc
 (Cm.inc (Cm.inc r.2))))))))
 (5 : Int)),
 p r g,
 List.getD [(-1 : Int), (6 : Int)]
 (Int.toNat
 (p
 (r.1,
 Cm.inc
 (Cm.inc
 (Cm.inc
 (Cm.inc
 (Cm.inc (Cm.inc (Cm.inc r.2)))))))
 (2 : Int)))
 (0 : Int),
 p (r.1, Cm.inc (Cm.inc r.2)) (4 : Int),
 Cm.wordM p (r.1, Cm.inc (Cm.inc (Cm.inc r.2)))) =
 (act r g).2 ∧
 (r.1,
 Cm.inc
 (Cm.inc
 (Cm.inc
 (Cm.inc
 (Cm.inc
 (Cm.inc
 (Cm.inc (Cm.inc (Cm.inc r.2))))))))) =
 (act r g).1 ∧
 True)
 (((0 : Int), p r g,
 List.getD [(-1 : Int), (6 : Int)]
 (Int.toNat
 (p
 (r.1,
 Cm.inc
 (Cm.inc
 (Cm.inc
 (Cm.inc
 (Cm.inc (Cm.inc (Cm.inc r.2)))))))
 (2 : Int)))
 (0 : Int),
 p (r.1, Cm.inc (Cm.inc r.2)) (4 : Int),
 Cm.wordM p (r.1, Cm.inc (Cm.inc (Cm.inc r.2)))) =
 (act r g).2 ∧
 (r.1,
 Cm.inc
 (Cm.inc
 (Cm.inc
 (Cm.inc
 (Cm.inc
 (Cm.inc (Cm.inc (Cm.inc r.2)))))))) =
 (act r g).1 ∧
 True))
 (ifb
 (p
 (r.1,
 Cm.inc (Cm.inc (Cm.inc (Cm.inc (Cm.inc (Cm.inc r.2))))))
 (4 : Int) ==
 (2 : Int))
 (rdOk
 (r.1,
 Cm.inc
 (Cm.inc
 (Cm.inc (Cm.inc (Cm.inc (Cm.inc (Cm.inc r.2)))))))
 (1099511627776 : Int) ∧
 ((0 : Int) ≤
 p
 (r.1,
 Cm.inc
 (Cm.inc
 (Cm.inc
 (Cm.inc (Cm.inc (Cm.inc (Cm.inc r.2)))))))
 (2 : Int) ∧
 p
 (r.1,
 Cm.inc
 (Cm.inc
 (Cm.inc
 (Cm.inc (Cm.inc (Cm.inc (Cm.inc r.2)))))))
 (2 : Int) <
 (↑(2 : Nat) : Int)) ∧
 ifb ((0 : Int) == (0 : Int))
 (rdOk
 (r.1,
 Cm.inc
 (Cm.inc
 (Cm.inc
 (Cm.inc
 (Cm.inc (Cm.inc (Cm.inc (Cm.inc r.2))))))))
 (1099511627776 : Int) ∧
 (IntKind.wrap IntKind.i64
 ((1 : Int) +
 p
 (r.1,
 Cm.inc
 (Cm.inc
 (Cm.inc
 (Cm.inc
 (Cm.inc
 (Cm.inc
 (Cm.inc (Cm.inc r.2))))))))
 (5 : Int)),
 p r g, p (r.1, Cm.inc r.2) (6 : Int),
 List.getD [(-1 : Int), (4 : Int)]
 (Int.toNat
 (p
 (r.1,
 Cm.inc
 (Cm.inc
 (Cm.inc
 (Cm.inc
 (Cm.inc (Cm.inc (Cm.inc r.2)))))))
 (2 : Int)))
 (0 : Int),
 Cm.wordM p (r.1, Cm.inc (Cm.inc (Cm.inc r.2)))) =
 (act r g).2 ∧
 (r.1,
 Cm.inc
 (Cm.inc
 (Cm.inc
 (Cm.inc
 (Cm.inc
 (Cm.inc
 (Cm.inc
 (Cm.inc (Cm.inc r.2))))))))) =
 (act r g).1 ∧
 True)
 (((0 : Int), p r g, p (r.1, Cm.inc r.2) (6 : Int),
 List.getD [(-1 : Int), (4 : Int)]
 (Int.toNat
 (p
 (r.1,
 Cm.inc
 (Cm.inc
 (Cm.inc
 (Cm.inc
 (Cm.inc (Cm.inc (Cm.inc r.2)))))))
 (2 : Int)))
 (0 : Int),
 Cm.wordM p (r.1, Cm.inc (Cm.inc (Cm.inc r.2)))) =
 (act r g).2 ∧
 (r.1,
 Cm.inc
 (Cm.inc
 (Cm.inc
 (Cm.inc
 (Cm.inc
 (Cm.inc (Cm.inc (Cm.inc r.2)))))))) =
 (act r g).1 ∧
 True))
 (rdOk
 (r.1,
 Cm.inc
 (Cm.inc
 (Cm.inc (Cm.inc (Cm.inc (Cm.inc (Cm.inc r.2)))))))
 (1099511627776 : Int) ∧
 ((0 : Int) ≤
 p
 (r.1,
 Cm.inc
 (Cm.inc
 (Cm.inc
 (Cm.inc (Cm.inc (Cm.inc (Cm.inc r.2)))))))
 (2 : Int) ∧
 p
 (r.1,
 Cm.inc
 (Cm.inc
 (Cm.inc
 (Cm.inc (Cm.inc (Cm.inc (Cm.inc r.2)))))))
 (2 : Int) <
 (↑(2 : Nat) : Int)) ∧
 ifb ((0 : Int) == (0 : Int))
 (rdOk
 (r.1,
 Cm.inc
 (Cm.inc
 (Cm.inc
 (Cm.inc
 (Cm.inc (Cm.inc (Cm.inc (Cm.inc r.2))))))))
 (1099511627776 : Int) ∧
 (IntKind.wrap IntKind.i64
 ((1 : Int) +
 p
 (r.1,
 Cm.inc
 (Cm.inc
 (Cm.inc
 (Cm.inc
 (Cm.inc
 (Cm.inc
 (Cm.inc (Cm.inc r.2))))))))
 (5 : Int)),
 p r g, p (r.1, Cm.inc r.2) (6 : Int),
 p (r.1, Cm.inc (Cm.inc r.2)) (4 : Int),
 List.getD [(-1 : Int), (64 : Int)]
 (Int.toNat
 (p
 (r.1,
 Cm.inc
 (Cm.inc
 (Cm.inc
 (Cm.inc
 (Cm.inc (Cm.inc (Cm.inc r.2)))))))
 (2 : Int)))
 (0 : Int)) =
 (act r g).2 ∧
 (r.1,
 Cm.inc
 (Cm.inc
 (Cm.inc
 (Cm.inc
 (Cm.inc
 (Cm.inc
 (Cm.inc
 (Cm.inc (Cm.inc r.2))))))))) =
 (act r g).1 ∧
 True)
 (((0 : Int), p r g, p (r.1, Cm.inc r.2) (6 : Int),
 p (r.1, Cm.inc (Cm.inc r.2)) (4 : Int),
 List.getD [(-1 : Int), (64 : Int)]
 (Int.toNat
 (p
 (r.1,
 Cm.inc
 (Cm.inc
 (Cm.inc
 (Cm.inc
 (Cm.inc (Cm.inc (Cm.inc r.2)))))))
 (2 : Int)))
 (0 : Int)) =
 (act r g).2 ∧
 (r.1,
 Cm.inc
 (Cm.inc
 (Cm.inc
 (Cm.inc
 (Cm.inc
 (Cm.inc (Cm.inc (Cm.inc r.2)))))))) =
 (act r g).1 ∧
 True)))))))))))))))))))))))) := by kernel_rfl
theorem vc70 (r : R) : (FGA (Ea p act tb) Try.f70 (sPlay (Cm.playM p act tb)) [⟨kR, r⟩] (fun _ => anPlay p act tb r)) = (
 rdOk r (1099511627776 : Int) ∧
 rdOk (r.1, Cm.inc r.2) (1099511627776 : Int) ∧
 ifb (decide (p (r.1, Cm.inc r.2) (4 : Int) > (0 : Int)))
 (rdOk (r.1, Cm.inc (Cm.inc r.2)) (1099511627776 : Int) ∧
 rdOk (r.1, Cm.inc (Cm.inc (Cm.inc r.2))) (274877906944 : Int) ∧
 rdOk
 (tb (r.1, Cm.inc (Cm.inc (Cm.inc r.2)))
 (p (r.1, Cm.inc (Cm.inc r.2)) (IntKind.wrap IntKind.i64 ((1 : Int) + p r (2 : Int))))).1
 (1099511627776 : Int) ∧
 rdOk
 ((tb (r.1, Cm.inc (Cm.inc (Cm.inc r.2)))
 (p (r.1, Cm.inc (Cm.inc r.2)) (IntKind.wrap IntKind.i64 ((1 : Int) + p r (2 : Int))))).1.1,
 Cm.inc
 (tb (r.1, Cm.inc (Cm.inc (Cm.inc r.2)))
 (p (r.1, Cm.inc (Cm.inc r.2)) (IntKind.wrap IntKind.i64 ((1 : Int) + p r (2 : Int))))).1.2)
 (1099511627776 : Int) ∧
 (∃ (a : Nat × R × List Cm.A),
 ((a.1 ≤ (52 : Nat) ∧ List.length a.2.2 ≤ (60 : Nat)) ∧
 rdOk a.2.1 ((137438953472 : Int) + (100 : Int) + (20 : Int) * ((52 : Int) - (↑a.1 : Int))) ∧
 Cm.playE p act tb r = Cm.playGo act (Cm.playG p r) (Cm.playT p tb r) a.1 a.2) ∧
 (([] : Go.Am.Pth) = [] ∧
 Cm.playG p r = IntKind.wrap IntKind.i64 ((1 : Int) + p r (2 : Int)) ∧
 ([] : Go.Am.Pth) = [] ∧
 Cm.playT p tb r =
 decide
 (p
 (tb (r.1, Cm.inc (Cm.inc (Cm.inc r.2)))
 (p (r.1, Cm.inc (Cm.inc r.2))
 (IntKind.wrap IntKind.i64 ((1 : Int) + p r (2 : Int))))).1
 (4 : Int) >
 (0 : Int)) ∧
 (↑a.1 : Int) =
 p
 ((tb (r.1, Cm.inc (Cm.inc (Cm.inc r.2)))
 (p (r.1, Cm.inc (Cm.inc r.2))
 (IntKind.wrap IntKind.i64 ((1 : Int) + p r (2 : Int))))).1.1,
 Cm.inc
 (tb (r.1, Cm.inc (Cm.inc (Cm.inc r.2)))
 (p (r.1, Cm.inc (Cm.inc r.2))
 (IntKind.wrap IntKind.i64 ((1 : Int) + p r (2 : Int))))).1.2)
 (52 : Int)) ∧
 a.2.2 =
 (tb (r.1, Cm.inc (Cm.inc (Cm.inc r.2)))
 (p (r.1, Cm.inc (Cm.inc r.2)) (IntKind.wrap IntKind.i64 ((1 : Int) + p r (2 : Int))))).2 ∧
 a.2.1.1 =
 (tb (r.1, Cm.inc (Cm.inc (Cm.inc r.2)))
 (p (r.1, Cm.inc (Cm.inc r.2))
 (IntKind.wrap IntKind.i64 ((1 : Int) + p r (2 : Int))))).1.1 ∧
 a.2.1.2 =
 Cm.inc
 (Cm.inc
 (tb (r.1, Cm.inc (Cm.inc (Cm.inc r.2)))
 (p (r.1, Cm.inc (Cm.inc r.2))
 (IntKind.wrap IntKind.i64 ((1 : Int) + p r (2 : Int))))).1.2)) ∧
 ∀ (a : Nat × R × List Cm.A),
 (a.1 ≤ (52 : Nat) ∧ List.length a.2.2 ≤ (60 : Nat)) ∧
 rdOk a.2.1 ((137438953472 : Int) + (100 : Int) + (20 : Int) * ((52 : Int) - (↑a.1 : Int))) ∧
 Cm.playE p act tb r = Cm.playGo act (Cm.playG p r) (Cm.playT p tb r) a.1 a.2 →
 (decide ((↑a.1 : Int) > (0 : Int)) = true → decide ((↑a.1 : Int) > (0 : Int)) = true) ∧
 (decide ((↑a.1 : Int) > (0 : Int)) = true → decide ((↑a.1 : Int) > (0 : Int)) = true) ∧
 (decide ((↑a.1 : Int) > (0 : Int)) = true → decide ((↑a.1 : Int) > (0 : Int)) = true) ∧
 ifb (decide ((↑a.1 : Int) > (0 : Int)) && decide ((↑(List.length a.2.2) : Int) < (58 : Int)))
 ((rdOk a.2.1 (274877906944 : Int) ∧
 (1 : K.T kI) ≤ Cm.playG p r ∧ Cm.playG p r ≤ (100 : K.T kI)) ∧
 (List.length a.2.2 + (1 : Nat)) * nat_lit 40 ≤ (140737488355328 : Nat) ∧
 (Cm.playT p tb r = true → Cm.playT p tb r = true) ∧
 (Cm.playT p tb r = true → Cm.playT p tb r = true) ∧
 (Cm.playT p tb r = true → Cm.playT p tb r = true) ∧
 ((Cm.playT p tb r && (act a.2.1 (Cm.playG p r)).2.1 == (2 : Int)) = true →
 (Cm.playT p tb r && (act a.2.1 (Cm.playG p r)).2.1 == (2 : Int)) = true) ∧
 ((Cm.playT p tb r && (act a.2.1 (Cm.playG p r)).2.1 == (2 : Int)) = true →
 (Cm.playT p tb r && (act a.2.1 (Cm.playG p r)).2.1 == (2 : Int)) = true) ∧
 ((Cm.playT p tb r && (act a.2.1 (Cm.playG p r)).2.1 == (2 : Int)) = true →
 (Cm.playT p tb r && (act a.2.1 (Cm.playG p r)).2.1 == (2 : Int)) = true) ∧
 ifb
 (Cm.playT p tb r && (act a.2.1 (Cm.playG p r)).2.1 == (2 : Int) &&
 decide ((act a.2.1 (Cm.playG p r)).2.2.2.1 < (2 : Int)))
 ((List.length (List.append a.2.2 [(act a.2.1 (Cm.playG p r)).2]) +
 (1 : Nat)) *
 nat_lit 40 ≤
 (140737488355328 : Nat) ∧
 ∃ (a' : Nat × R × List Cm.A),
 (((a'.1 ≤ (52 : Nat) ∧ List.length a'.2.2 ≤ (60 : Nat)) ∧
 rdOk a'.2.1
 ((137438953472 : Int) + (100 : Int) +
 (20 : Int) * ((52 : Int) - (↑a'.1 : Int))) ∧
 Cm.playE p act tb r =
 Cm.playGo act (Cm.playG p r) (Cm.playT p tb r) a'.1 a'.2) ∧
 a'.1 < a.1) ∧
 (([] : Go.Am.Pth) = [] ∧
 Cm.playG p r = Cm.playG p r ∧
 ([] : Go.Am.Pth) = [] ∧
 Cm.playT p tb r = Cm.playT p tb r ∧
 (↑a'.1 : Int) =
 IntKind.wrap IntKind.i64 ((↑a.1 : Int) - (1 : Int))) ∧
 a'.2.2 =
 List.append (List.append a.2.2 [(act a.2.1 (Cm.playG p r)).2])
 [((5 : Int), (act a.2.1 (Cm.playG p r)).2.2.1, (0 : Int),
 (0 : Int), (0 : Int))] ∧
 a'.2.1.1 = (act a.2.1 (Cm.playG p r)).1.1 ∧
 a'.2.1.2 = (act a.2.1 (Cm.playG p r)).1.2)
 (∃ (a' : Nat × R × List Cm.A),
 (((a'.1 ≤ (52 : Nat) ∧ List.length a'.2.2 ≤ (60 : Nat)) ∧
 rdOk a'.2.1
 ((137438953472 : Int) + (100 : Int) +
 (20 : Int) * ((52 : Int) - (↑a'.1 : Int))) ∧
 Cm.playE p act tb r =
 Cm.playGo act (Cm.playG p r) (Cm.playT p tb r) a'.1 a'.2) ∧
 a'.1 < a.1) ∧
 (([] : Go.Am.Pth) = [] ∧
 Cm.playG p r = Cm.playG p r ∧
 ([] : Go.Am.Pth) = [] ∧
 Cm.playT p tb r = Cm.playT p tb r ∧
 (↑a'.1 : Int) =
 IntKind.wrap IntKind.i64 ((↑a.1 : Int) - (1 : Int))) ∧
 a'.2.2 = List.append a.2.2 [(act a.2.1 (Cm.playG p r)).2] ∧
 a'.2.1.1 = (act a.2.1 (Cm.playG p r)).1.1 ∧
 a'.2.1.2 = (act a.2.1 (Cm.playG p r)).1.2))
 (Cm.playG p r = (Cm.playM p act tb r).2.1 ∧
 a.2.2 = (Cm.playM p act tb r).2.2 ∧ a.2.1 = (Cm.playM p act tb r).1 ∧ True))
 (rdOk (r.1, Cm.inc (Cm.inc r.2)) (1099511627776 : Int) ∧
 rdOk (r.1, Cm.inc (Cm.inc (Cm.inc r.2))) (1099511627776 : Int) ∧
 (∃ (a : Nat × R × List Cm.A),
 ((a.1 ≤ (52 : Nat) ∧ List.length a.2.2 ≤ (60 : Nat)) ∧
 rdOk a.2.1 ((137438953472 : Int) + (100 : Int) + (20 : Int) * ((52 : Int) - (↑a.1 : Int))) ∧
 Cm.playE p act tb r = Cm.playGo act (Cm.playG p r) (Cm.playT p tb r) a.1 a.2) ∧
 (([] : Go.Am.Pth) = [] ∧
 Cm.playG p r = IntKind.wrap IntKind.i64 ((1 : Int) + p r (2 : Int)) ∧
 ([] : Go.Am.Pth) = [] ∧
 Cm.playT p tb r = decide (p (r.1, Cm.inc (Cm.inc r.2)) (4 : Int) > (0 : Int)) ∧
 (↑a.1 : Int) = p (r.1, Cm.inc (Cm.inc (Cm.inc r.2))) (52 : Int)) ∧
 a.2.2 = [] ∧ a.2.1.1 = r.1 ∧ a.2.1.2 = Cm.inc (Cm.inc (Cm.inc (Cm.inc r.2)))) ∧
 ∀ (a : Nat × R × List Cm.A),
 (a.1 ≤ (52 : Nat) ∧ List.length a.2.2 ≤ (60 : Nat)) ∧
 rdOk a.2.1 ((137438953472 : Int) + (100 : Int) + (20 : Int) * ((52 : Int) - (↑a.1 : Int))) ∧
 Cm.playE p act tb r = Cm.playGo act (Cm.playG p r) (Cm.playT p tb r) a.1 a.2 →
 (decide ((↑a.1 : Int) > (0 : Int)) = true → decide ((↑a.1 : Int) > (0 : Int)) = true) ∧
 (decide ((↑a.1 : Int) > (0 : Int)) = true → decide ((↑a.1 : Int) > (0 : Int)) = true) ∧
 (decide ((↑a.1 : Int) > (0 : Int)) = true → decide ((↑a.1 : Int) > (0 : Int)) = true) ∧
 ifb (decide ((↑a.1 : Int) > (0 : Int)) && decide ((↑(List.length a.2.2) : Int) < (58 : Int)))
 ((rdOk a.2.1 (274877906944 : Int) ∧
 (1 : K.T kI) ≤ Cm.playG p r ∧ Cm.playG p r ≤ (100 : K.T kI)) ∧
 (List.length a.2.2 + (1 : Nat)) * nat_lit 40 ≤ (140737488355328 : Nat) ∧
 (Cm.playT p tb r = true → Cm.playT p tb r = true) ∧
 (Cm.playT p tb r = true → Cm.playT p tb r = true) ∧
 (Cm.playT p tb r = true → Cm.playT p tb r = true) ∧
 ((Cm.playT p tb r && (act a.2.1 (Cm.playG p r)).2.1 == (2 : Int)) = true →
 (Cm.playT p tb r && (act a.2.1 (Cm.playG p r)).2.1 == (2 : Int)) = true) ∧
 ((Cm.playT p tb r && (act a.2.1 (Cm.playG p r)).2.1 == (2 : Int)) = true →
 (Cm.playT p tb r && (act a.2.1 (Cm.playG p r)).2.1 == (2 : Int)) = true) ∧
 ((Cm.playT p tb r && (act a.2.1 (Cm.playG p r)).2.1 == (2 : Int)) = true →
 (Cm.playT p tb r && (act a.2.1 (Cm.playG p r)).2.1 == (2 : Int)) = true) ∧
 ifb
 (Cm.playT p tb r && (act a.2.1 (Cm.playG p r)).2.1 == (2 : Int) &&
 decide ((act a.2.1 (Cm.playG p r)).2.2.2.1 < (2 : Int)))
 ((List.length (List.append a.2.2 [(act a.2.1 (Cm.playG p r)).2]) +
 (1 : Nat)) *
 nat_lit 40 ≤
 (140737488355328 : Nat) ∧
 ∃ (a' : Nat × R × List Cm.A),
 (((a'.1 ≤ (52 : Nat) ∧ List.length a'.2.2 ≤ (60 : Nat)) ∧
 rdOk a'.2.1
 ((137438953472 : Int) + (100 : Int) +
 (20 : Int) * ((52 : Int) - (↑a'.1 : Int))) ∧
 Cm.playE p act tb r =
 Cm.playGo act (Cm.playG p r) (Cm.playT p tb r) a'.1 a'.2) ∧
 a'.1 < a.1) ∧
 (([] : Go.Am.Pth) = [] ∧
 Cm.playG p r = Cm.playG p r ∧
 ([] : Go.Am.Pth) = [] ∧
 Cm.playT p tb r = Cm.playT p tb r ∧
 (↑a'.1 : Int) =
 IntKind.wrap IntKind.i64 ((↑a.1 : Int) - (1 : Int))) ∧
 a'.2.2 =
 List.append (List.append a.2.2 [(act a.2.1 (Cm.playG p r)).2])
 [((5 : Int), (act a.2.1 (Cm.playG p r)).2.2.1, (0 : Int),
 (0 : Int), (0 : Int))] ∧
 a'.2.1.1 = (act a.2.1 (Cm.playG p r)).1.1 ∧
 a'.2.1.2 = (act a.2.1 (Cm.playG p r)).1.2)
 (∃ (a' : Nat × R × List Cm.A),
 (((a'.1 ≤ (52 : Nat) ∧ List.length a'.2.2 ≤ (60 : Nat)) ∧
 rdOk a'.2.1
 ((137438953472 : Int) + (100 : Int) +
 (20 : Int) * ((52 : Int) - (↑a'.1 : Int))) ∧
 Cm.playE p act tb r =
 Cm.playGo act (Cm.playG p r) (Cm.playT p tb r) a'.1 a'.2) ∧
 a'.1 < a.1) ∧
 (([] : Go.Am.Pth) = [] ∧
 Cm.playG p r = Cm.playG p r ∧
 ([] : Go.Am.Pth) = [] ∧
 Cm.playT p tb r = Cm.playT p tb r ∧
 (↑a'.1 : Int) =
 IntKind.wrap IntKind.i64 ((↑a.1 : Int) - (1 : Int))) ∧
 a'.2.2 = List.append a.2.2 [(act a.2.1 (Cm.playG p r)).2] ∧
 a'.2.1.1 = (act a.2.1 (Cm.playG p r)).1.1 ∧
 a'.2.1.2 = (act a.2.1 (Cm.playG p r)).1.2))
 (Cm.playG p r = (Cm.playM p act tb r).2.1 ∧
 a.2.2 = (Cm.playM p act tb r).2.2 ∧ a.2.1 = (Cm.playM p act tb r).1 ∧ True))) := by kernel_rfl
theorem vc20 (b : List Int) : (FGA (Es p act tb) Try.f20 (sDrawTidy fun b => (Cm.playM p act tb (Cm.cut2 b, 0)).2.2) [⟨.sl (.int .u8), b⟩] no) = (
 True ∧
 rdOk (Cm.cut2 b, (0 : Int)) (137438953472 : Int) ∧
 (Cm.playM p act tb (Cm.cut2 b, (0 : Int))).2.2 = (Cm.playM p act tb (Cm.cut2 b, (0 : Int))).2.2 ∧ True) := by kernel_rfl
end Go.Proofs.Ytcfmelkegjpciaa.T

open Go Go.Am Go.Proofs
open Go.Cm (R rdOk)
namespace Go.Proofs.Ytcfmelkegjpciaa.T
set_option maxHeartbeats 0
set_option maxRecDepth 100000
variable (D : List Int → List Cm.A)
def Et : Env := En (Go.Am.look [] [(18, [sTidy]), (16, [sTidy]), (20, [sDrawTidy D])])
def E22 : Env := En (Go.Am.look [] [(22, [sWithout])])
def Ep6 : Env := En (Go.Am.look [] [(18, [sTidy]), (16, [sTidy]), (20, [sDrawTidy D]), (21, [sJust]), (22, [sWithout])])
def an22 (l : List Cm.A) : Ann := .mk Nat (fun i => ⟨[(0, .vsl kA l), (3, .rf 1000 0 0 []), (4, .int .i64 (i : Int))], [(1000, ⟨0, 0, some ⟨kA, Cm.ownL (l.take i), true⟩, none⟩)], []⟩) (fun i => l.length - i)
  (fun i => i ≤ l.length) fun _ _ => .none
def an21 (l : List Cm.A) (g : Int) : Ann := .mk Nat (fun i => ⟨[(0, .vsl kA l), (1, .int .i64 g), (5, .rf 1000 0 0 []), (6, .int .i64 (i : Int))], [(1000, ⟨0, 0, some ⟨kA, Cm.justL g (l.take i), true⟩, none⟩)], []⟩) (fun i => l.length - i)
  (fun i => i ≤ l.length) fun _ _ => .none
def an6 (l : List Cm.A) : Ann := .mk Nat (fun i => ⟨[(3, .rf 1001 0 0 []), (4, .bool (Cm.tidy l)), (5, .rf 1000 0 0 []), (6, .int .i64 (i : Int))], [(1001, ⟨0, 0, some ⟨kA, l, true⟩, none⟩), (1000, ⟨0, 0, some ⟨kA, Cm.madeL (l.take i), true⟩, none⟩)], []⟩) (fun i => l.length - i)
  (fun i => i ≤ l.length) fun _ _ => .none
theorem vc22 (l : List Cm.A) : (FGA E0 Try.f22 sWithout [⟨kAs, l⟩] (fun _ => an22 l)) = (
 (∃ (a : Nat), a ≤ List.length l ∧ (l = l ∧ ([] : Go.Am.Pth) = [] ∧ (↑a : Int) = (0 : Int)) ∧ Cm.ownL (List.take a l) = [] ∧ True) ∧
 ∀ (a : Nat),
 a ≤ List.length l →
 ifb (decide ((↑a : Int) < (↑(List.length l) : Int)))
 (((0 : Int) ≤ (↑a : Int) ∧ (↑a : Int) < (↑(List.length l) : Int)) ∧
 (decide ((List.getD l a Cm.a0).1 ≥ (1 : Int)) = true →
 decide ((List.getD l a Cm.a0).1 ≥ (1 : Int)) = true) ∧
 (decide ((List.getD l a Cm.a0).1 ≥ (1 : Int)) = true →
 decide ((List.getD l a Cm.a0).1 ≥ (1 : Int)) = true) ∧
 (decide ((List.getD l a Cm.a0).1 ≥ (1 : Int)) = true →
 (0 : Int) ≤ (↑a : Int) ∧ (↑a : Int) < (↑(List.length l) : Int)) ∧
 (decide ((List.getD l a Cm.a0).1 ≥ (1 : Int)) = true →
 decide ((List.getD l a Cm.a0).1 ≥ (1 : Int)) =
 true) ∧
 (decide ((List.getD l a Cm.a0).1 ≥ (1 : Int)) =
 true →
 decide ((List.getD l a Cm.a0).1 ≥ (1 : Int)) =
 true) ∧
 (decide ((List.getD l a Cm.a0).1 ≥ (1 : Int)) =
 true →
 decide ((List.getD l a Cm.a0).1 ≥ (1 : Int)) =
 true) ∧
 (decide ((List.getD l a Cm.a0).1 ≥ (1 : Int)) =
 true →
 decide
 ((List.getD l a Cm.a0).1 ≥ (1 : Int)) =
 true) ∧
 ifb
 (decide
 ((List.getD l a Cm.a0).1 ≥ (1 : Int)) &&
 decide
 ((List.getD l a Cm.a0).1 ≤ (5 : Int)))
 (((0 : Int) ≤ (↑a : Int) ∧ (↑a : Int) < (↑(List.length l) : Int)) ∧
 (List.length (Cm.ownL (List.take a l)) + (1 : Nat)) * nat_lit 40 ≤ (140737488355328 : Nat) ∧
 ∃ (a' : Nat),
 (a' ≤ List.length l ∧ List.length l - a' < List.length l - a) ∧
 (l = l ∧ ([] : Go.Am.Pth) = [] ∧ (↑a' : Int) = IntKind.wrap IntKind.i64 ((↑a : Int) + (1 : Int))) ∧
 Cm.ownL (List.take a' l) =
 List.append (Cm.ownL (List.take a l))
 [List.getD l a Cm.a0] ∧
 True)
 (∃ (a' : Nat),
 (a' ≤ List.length l ∧ List.length l - a' < List.length l - a) ∧
 (l = l ∧ ([] : Go.Am.Pth) = [] ∧ (↑a' : Int) = IntKind.wrap IntKind.i64 ((↑a : Int) + (1 : Int))) ∧
 Cm.ownL (List.take a' l) = Cm.ownL (List.take a l) ∧ True))
 (Cm.ownL (List.take a l) = Cm.ownL l ∧ True)) := by kernel_rfl
theorem vc21 (l : List Cm.A) (g : Int) : (FGA E22 Try.f21 sJust [⟨kAs, l⟩, ⟨kI, g⟩] (fun _ => an21 l g)) = (
 (∃ (a : Nat),
 a ≤ List.length l ∧ (l = l ∧ g = g ∧ ([] : Go.Am.Pth) = [] ∧ (↑a : Int) = (0 : Int)) ∧ Cm.justL g (List.take a l) = [] ∧ True) ∧
 ∀ (a : Nat),
 a ≤ List.length l →
 ifb (decide ((↑a : Int) < (↑(List.length l) : Int)))
 (((0 : Int) ≤ (↑a : Int) ∧ (↑a : Int) < (↑(List.length l) : Int)) ∧
 ifb ((List.getD l a Cm.a0).2.1 == g)
 (((0 : Int) ≤ (↑a : Int) ∧ (↑a : Int) < (↑(List.length l) : Int)) ∧
 (List.length (Cm.justL g (List.take a l)) + (1 : Nat)) * nat_lit 40 ≤ (140737488355328 : Nat) ∧
 ∃ (a' : Nat),
 (a' ≤ List.length l ∧ List.length l - a' < List.length l - a) ∧
 (l = l ∧ g = g ∧ ([] : Go.Am.Pth) = [] ∧ (↑a' : Int) = IntKind.wrap IntKind.i64 ((↑a : Int) + (1 : Int))) ∧
 Cm.justL g (List.take a' l) =
 List.append (Cm.justL g (List.take a l))
 [List.getD l a Cm.a0] ∧
 True)
 (∃ (a' : Nat),
 (a' ≤ List.length l ∧ List.length l - a' < List.length l - a) ∧
 (l = l ∧ g = g ∧ ([] : Go.Am.Pth) = [] ∧ (↑a' : Int) = IntKind.wrap IntKind.i64 ((↑a : Int) + (1 : Int))) ∧
 Cm.justL g (List.take a' l) = Cm.justL g (List.take a l) ∧ True))
 (List.length (Cm.justL g (List.take a l)) ≤ (16777216 : Nat) ∧
 Cm.ownL (Cm.justL g (List.take a l)) = Cm.ownL (Cm.justL g l) ∧ True)) := by kernel_rfl
theorem vc4 (b m : List Int) : (FGA (Et D) Try.f4 sLawBB [⟨kU, b⟩, ⟨kU, m⟩] no) = (
 ((!decide ((↑(List.length b) : Int) > (1048576 : Int))) = true →
 (!decide ((↑(List.length b) : Int) > (1048576 : Int))) = true) ∧
 ((!decide ((↑(List.length b) : Int) > (1048576 : Int))) = true →
 (!decide ((↑(List.length b) : Int) > (1048576 : Int))) = true) ∧
 (decide ((↑(List.length b) : Int) > (1048576 : Int)) = false →
 (!decide ((↑(List.length b) : Int) > (1048576 : Int))) = true) ∧
 ifb (decide ((↑(List.length b) : Int) > (1048576 : Int)) || decide ((↑(List.length m) : Int) > (1048576 : Int)))
 (true = true ∧ True)
 (Cm.bytes b ∧
 List.length (D b) ≤ (16777216 : Nat) ∧
 List.length (D b) ≤ (16777216 : Nat) ∧
 ((!!Cm.tidy (D b) == Cm.tidy (D b)) = true → (!!Cm.tidy (D b) == Cm.tidy (D b)) = true) ∧
 ((!Cm.tidy (D b) == Cm.tidy (D b)) = false → (!!Cm.tidy (D b) == Cm.tidy (D b)) = true) ∧
 ifb (!Cm.tidy (D b) == Cm.tidy (D b) || !Cm.tidy (D b))
 (List.length (D b) ≤ (16777216 : Nat) ∧ (Cm.tidy (D b) == Cm.tidy (D b)) = true ∧ True)
 (IntKind.wrap IntKind.i64 ((↑(List.length (D b)) : Int) + (1 : Int)) ≠ (0 : Int) ∧
 ((0 : Int) ≤ (0 : Int) ∧
 (0 : Int) ≤
 Int.tmod (↑(List.length m) : Int)
 (IntKind.wrap IntKind.i64 ((↑(List.length (D b)) : Int) + (1 : Int))) ∧
 Int.tmod (↑(List.length m) : Int)
 (IntKind.wrap IntKind.i64 ((↑(List.length (D b)) : Int) + (1 : Int))) ≤
 (↑(List.length (D b)) : Int)) ∧
 List.length
 (List.take
 (Int.toNat
 (Int.tmod (↑(List.length m) : Int)
 (IntKind.wrap IntKind.i64 ((↑(List.length (D b)) : Int) + (1 : Int)))))
 (D b)) ≤
 (16777216 : Nat) ∧
 (Cm.tidy
 (List.take
 (Int.toNat
 (Int.tmod (↑(List.length m) : Int)
 (IntKind.wrap IntKind.i64 ((↑(List.length (D b)) : Int) + (1 : Int)))))
 (D b)) =
 true →
 Cm.tidy
 (List.take
 (Int.toNat
 (Int.tmod (↑(List.length m) : Int)
 (IntKind.wrap IntKind.i64 ((↑(List.length (D b)) : Int) + (1 : Int)))))
 (D b)) =
 true) ∧
 (Cm.tidy
 (List.take
 (Int.toNat
 (Int.tmod (↑(List.length m) : Int)
 (IntKind.wrap IntKind.i64 ((↑(List.length (D b)) : Int) + (1 : Int)))))
 (D b)) =
 true →
 Cm.tidy
 (List.take
 (Int.toNat
 (Int.tmod (↑(List.length m) : Int)
 (IntKind.wrap IntKind.i64 ((↑(List.length (D b)) : Int) + (1 : Int)))))
 (D b)) =
 true) ∧
 (Cm.tidy
 (List.take
 (Int.toNat
 (Int.tmod (↑(List.length m) : Int)
 (IntKind.wrap IntKind.i64 ((↑(List.length (D b)) : Int) + (1 : Int)))))
 (D b)) =
 true →
 (0 : Int) ≤
 Int.tmod (↑(List.length m) : Int)
 (IntKind.wrap IntKind.i64 ((↑(List.length (D b)) : Int) + (1 : Int))) ∧
 Int.tmod (↑(List.length m) : Int)
 (IntKind.wrap IntKind.i64 ((↑(List.length (D b)) : Int) + (1 : Int))) ≤
 (↑(List.length (D b)) : Int) ∧
 (↑(List.length (D b)) : Int) ≤ (↑(List.length (D b)) : Int)) ∧
 (Cm.tidy
 (List.take
 (Int.toNat
 (Int.tmod (↑(List.length m) : Int)
 (IntKind.wrap IntKind.i64 ((↑(List.length (D b)) : Int) + (1 : Int)))))
 (D b)) =
 true →
 Cm.tidy
 (List.take
 (Int.toNat
 (Int.tmod (↑(List.length m) : Int)
 (IntKind.wrap IntKind.i64 ((↑(List.length (D b)) : Int) + (1 : Int)))))
 (D b)) =
 true) ∧
 (Cm.tidy
 (List.take
 (Int.toNat
 (Int.tmod (↑(List.length m) : Int)
 (IntKind.wrap IntKind.i64 ((↑(List.length (D b)) : Int) + (1 : Int)))))
 (D b)) =
 true →
 List.length
 (List.drop
 (Int.toNat
 (Int.tmod (↑(List.length m) : Int)
 (IntKind.wrap IntKind.i64 ((↑(List.length (D b)) : Int) + (1 : Int)))))
 (List.take (List.length (D b)) (D b))) ≤
 (16777216 : Nat)) ∧
 (Cm.tidy
 (List.take
 (Int.toNat
 (Int.tmod (↑(List.length m) : Int)
 (IntKind.wrap IntKind.i64
 ((↑(List.length (D b)) : Int) + (1 : Int)))))
 (D b)) =
 true →
 Cm.tidy
 (List.take
 (Int.toNat
 (Int.tmod (↑(List.length m) : Int)
 (IntKind.wrap IntKind.i64
 ((↑(List.length (D b)) : Int) + (1 : Int)))))
 (D b)) =
 true) ∧
 (Cm.tidy
 (List.take
 (Int.toNat
 (Int.tmod (↑(List.length m) : Int)
 (IntKind.wrap IntKind.i64
 ((↑(List.length (D b)) : Int) + (1 : Int)))))
 (D b)) &&
 Cm.tidy
 (List.drop
 (Int.toNat
 (Int.tmod (↑(List.length m) : Int)
 (IntKind.wrap IntKind.i64
 ((↑(List.length (D b)) : Int) + (1 : Int)))))
 (List.take (List.length (D b)) (D b)))) =
 true ∧
 True))) := by kernel_rfl
theorem vc5 (b m : List Int) : (FGA (Et D) Try.f5 sLawBB [⟨kU, b⟩, ⟨kU, m⟩] no) = (
 ((!decide ((↑(List.length b) : Int) > (1048576 : Int))) = true →
 (!decide ((↑(List.length b) : Int) > (1048576 : Int))) = true) ∧
 ((!decide ((↑(List.length b) : Int) > (1048576 : Int))) = true →
 (!decide ((↑(List.length b) : Int) > (1048576 : Int))) = true) ∧
 (decide ((↑(List.length b) : Int) > (1048576 : Int)) = false →
 (!decide ((↑(List.length b) : Int) > (1048576 : Int))) = true) ∧
 ifb (decide ((↑(List.length b) : Int) > (1048576 : Int)) || decide ((↑(List.length m) : Int) > (1048576 : Int)))
 (true = true ∧ True)
 (Cm.bytes b ∧
 List.length (D b) ≤ (16777216 : Nat) ∧
 List.length (D b) ≤ (16777216 : Nat) ∧
 ifb (!Cm.tidy (D b) == Cm.tidy (D b)) (false = true ∧ True)
 ((2 : Int) ≠ (0 : Int) ∧
 (2 : Int) ≠ (0 : Int) ∧
 ((0 : Nat) + List.length (D b)) * nat_lit 40 ≤ (140737488355328 : Nat) ∧
 (List.length (D b) + (2 : Nat)) * nat_lit 40 ≤ (140737488355328 : Nat) ∧
 ((0 : Nat) +
 List.length
 (List.append (D b)
 [((5 : Int), (0 : Int), (0 : Int), (0 : Int), (0 : Int)),
 ((5 : Int), (1 : Int), (0 : Int), (0 : Int), (0 : Int))])) *
 nat_lit 40 ≤
 (140737488355328 : Nat) ∧
 (List.length
 (List.append (D b)
 [((5 : Int), (0 : Int), (0 : Int), (0 : Int), (0 : Int)),
 ((5 : Int), (1 : Int), (0 : Int), (0 : Int), (0 : Int))]) +
 (2 : Nat)) *
 nat_lit 40 ≤
 (140737488355328 : Nat) ∧
 ((0 : Nat) +
 List.length
 (List.append (D b)
 [((5 : Int), (0 : Int), (0 : Int), (0 : Int), (0 : Int)),
 ((5 : Int), (1 : Int), (0 : Int), (0 : Int), (0 : Int))])) *
 nat_lit 40 ≤
 (140737488355328 : Nat) ∧
 (List.length
 (List.append (D b)
 [((5 : Int), (0 : Int), (0 : Int), (0 : Int), (0 : Int)),
 ((5 : Int), (1 : Int), (0 : Int), (0 : Int), (0 : Int))]) +
 (3 : Nat)) *
 nat_lit 40 ≤
 (140737488355328 : Nat) ∧
 List.length
 (List.append
 (List.append (D b)
 [((5 : Int), (0 : Int), (0 : Int), (0 : Int), (0 : Int)),
 ((5 : Int), (1 : Int), (0 : Int), (0 : Int), (0 : Int))])
 [((2 : Int), Int.tmod (↑(List.length m) : Int) (2 : Int),
 Int.tmod (↑(List.length m) : Int) (2 : Int), (0 : Int), (5 : Int)),
 ((3 : Int), Int.tmod (↑(List.length m) : Int) (2 : Int), (0 : Int), (0 : Int),
 (0 : Int))]) ≤
 (16777216 : Nat) ∧
 ((!Cm.tidy
 (List.append
 (List.append (D b)
 [((5 : Int), (0 : Int), (0 : Int), (0 : Int), (0 : Int)),
 ((5 : Int), (1 : Int), (0 : Int), (0 : Int), (0 : Int))])
 [((2 : Int), Int.tmod (↑(List.length m) : Int) (2 : Int),
 Int.tmod (↑(List.length m) : Int) (2 : Int), (0 : Int), (5 : Int)),
 ((3 : Int), Int.tmod (↑(List.length m) : Int) (2 : Int), (0 : Int),
 (0 : Int), (0 : Int))])) =
 true →
 (!Cm.tidy
 (List.append
 (List.append (D b)
 [((5 : Int), (0 : Int), (0 : Int), (0 : Int), (0 : Int)),
 ((5 : Int), (1 : Int), (0 : Int), (0 : Int), (0 : Int))])
 [((2 : Int), Int.tmod (↑(List.length m) : Int) (2 : Int),
 Int.tmod (↑(List.length m) : Int) (2 : Int), (0 : Int), (5 : Int)),
 ((3 : Int), Int.tmod (↑(List.length m) : Int) (2 : Int), (0 : Int),
 (0 : Int), (0 : Int))])) =
 true) ∧
 ((!Cm.tidy
 (List.append
 (List.append (D b)
 [((5 : Int), (0 : Int), (0 : Int), (0 : Int), (0 : Int)),
 ((5 : Int), (1 : Int), (0 : Int), (0 : Int), (0 : Int))])
 [((2 : Int), Int.tmod (↑(List.length m) : Int) (2 : Int),
 Int.tmod (↑(List.length m) : Int) (2 : Int), (0 : Int), (5 : Int)),
 ((3 : Int), Int.tmod (↑(List.length m) : Int) (2 : Int), (0 : Int),
 (0 : Int), (0 : Int))])) =
 true →
 List.length
 (List.append
 (List.append (D b)
 [((5 : Int), (0 : Int), (0 : Int), (0 : Int), (0 : Int)),
 ((5 : Int), (1 : Int), (0 : Int), (0 : Int), (0 : Int))])
 [((2 : Int), Int.tmod (↑(List.length m) : Int) (2 : Int),
 Int.tmod (↑(List.length m) : Int) (2 : Int), (0 : Int), (5 : Int)),
 ((5 : Int), Int.tmod (↑(List.length m) : Int) (2 : Int), (0 : Int),
 (0 : Int), (0 : Int)),
 ((3 : Int), Int.tmod (↑(List.length m) : Int) (2 : Int), (0 : Int),
 (0 : Int), (0 : Int))]) ≤
 (16777216 : Nat)) ∧
 ((!Cm.tidy
 (List.append
 (List.append (D b)
 [((5 : Int), (0 : Int), (0 : Int), (0 : Int), (0 : Int)),
 ((5 : Int), (1 : Int), (0 : Int), (0 : Int), (0 : Int))])
 [((2 : Int), Int.tmod (↑(List.length m) : Int) (2 : Int),
 Int.tmod (↑(List.length m) : Int) (2 : Int), (0 : Int),
 (5 : Int)),
 ((3 : Int), Int.tmod (↑(List.length m) : Int) (2 : Int), (0 : Int),
 (0 : Int), (0 : Int))])) =
 true →
 (!Cm.tidy
 (List.append
 (List.append (D b)
 [((5 : Int), (0 : Int), (0 : Int), (0 : Int), (0 : Int)),
 ((5 : Int), (1 : Int), (0 : Int), (0 : Int), (0 : Int))])
 [((2 : Int), Int.tmod (↑(List.length m) : Int) (2 : Int),
 Int.tmod (↑(List.length m) : Int) (2 : Int), (0 : Int),
 (5 : Int)),
 ((3 : Int), Int.tmod (↑(List.length m) : Int) (2 : Int), (0 : Int),
 (0 : Int), (0 : Int))])) =
 true) ∧
 ((!Cm.tidy
 (List.append
 (List.append (D b)
 [((5 : Int), (0 : Int), (0 : Int), (0 : Int), (0 : Int)),
 ((5 : Int), (1 : Int), (0 : Int), (0 : Int), (0 : Int))])
 [((2 : Int), Int.tmod (↑(List.length m) : Int) (2 : Int),
 Int.tmod (↑(List.length m) : Int) (2 : Int), (0 : Int),
 (5 : Int)),
 ((3 : Int), Int.tmod (↑(List.length m) : Int) (2 : Int),
 (0 : Int), (0 : Int), (0 : Int))])) =
 true →
 List.length
 (List.append (D b)
 [((5 : Int), (0 : Int), (0 : Int), (0 : Int), (0 : Int)),
 ((5 : Int), (1 : Int), (0 : Int), (0 : Int), (0 : Int))]) ≤
 (16777216 : Nat)) ∧
 ((!Cm.tidy
 (List.append
 (List.append (D b)
 [((5 : Int), (0 : Int), (0 : Int), (0 : Int), (0 : Int)),
 ((5 : Int), (1 : Int), (0 : Int), (0 : Int), (0 : Int))])
 [((2 : Int), Int.tmod (↑(List.length m) : Int) (2 : Int),
 Int.tmod (↑(List.length m) : Int) (2 : Int), (0 : Int),
 (5 : Int)),
 ((3 : Int), Int.tmod (↑(List.length m) : Int) (2 : Int),
 (0 : Int), (0 : Int), (0 : Int))])) =
 true →
 (!Cm.tidy
 (List.append
 (List.append (D b)
 [((5 : Int), (0 : Int), (0 : Int), (0 : Int), (0 : Int)),
 ((5 : Int), (1 : Int), (0 : Int), (0 : Int), (0 : Int))])
 [((2 : Int), Int.tmod (↑(List.length m) : Int) (2 : Int),
 Int.tmod (↑(List.length m) : Int) (2 : Int), (0 : Int),
 (5 : Int)),
 ((3 : Int), Int.tmod (↑(List.length m) : Int) (2 : Int),
 (0 : Int), (0 : Int), (0 : Int))])) =
 true) ∧
 ((!Cm.tidy
 (List.append
 (List.append (D b)
 [((5 : Int), (0 : Int), (0 : Int), (0 : Int), (0 : Int)),
 ((5 : Int), (1 : Int), (0 : Int), (0 : Int), (0 : Int))])
 [((2 : Int), Int.tmod (↑(List.length m) : Int) (2 : Int),
 Int.tmod (↑(List.length m) : Int) (2 : Int), (0 : Int),
 (5 : Int)),
 ((3 : Int), Int.tmod (↑(List.length m) : Int) (2 : Int),
 (0 : Int), (0 : Int), (0 : Int))])) =
 true →
 (!Cm.tidy
 (List.append
 (List.append (D b)
 [((5 : Int), (0 : Int), (0 : Int), (0 : Int), (0 : Int)),
 ((5 : Int), (1 : Int), (0 : Int), (0 : Int), (0 : Int))])
 [((2 : Int), Int.tmod (↑(List.length m) : Int) (2 : Int),
 Int.tmod (↑(List.length m) : Int) (2 : Int), (0 : Int),
 (5 : Int)),
 ((3 : Int), Int.tmod (↑(List.length m) : Int) (2 : Int),
 (0 : Int), (0 : Int), (0 : Int))])) =
 true) ∧
 ((!Cm.tidy
 (List.append
 (List.append (D b)
 [((5 : Int), (0 : Int), (0 : Int), (0 : Int), (0 : Int)),
 ((5 : Int), (1 : Int), (0 : Int), (0 : Int), (0 : Int))])
 [((2 : Int), Int.tmod (↑(List.length m) : Int) (2 : Int),
 Int.tmod (↑(List.length m) : Int) (2 : Int), (0 : Int),
 (5 : Int)),
 ((3 : Int), Int.tmod (↑(List.length m) : Int) (2 : Int),
 (0 : Int), (0 : Int), (0 : Int))])) =
 true →
 (!Cm.tidy
 (List.append
 (List.append (D b)
 [((5 : Int), (0 : Int), (0 : Int), (0 : Int), (0 : Int)),
 ((5 : Int), (1 : Int), (0 : Int), (0 : Int), (0 : Int))])
 [((2 : Int), Int.tmod (↑(List.length m) : Int) (2 : Int),
 Int.tmod (↑(List.length m) : Int) (2 : Int), (0 : Int),
 (5 : Int)),
 ((3 : Int), Int.tmod (↑(List.length m) : Int) (2 : Int),
 (0 : Int), (0 : Int), (0 : Int))])) =
 true) ∧
 (!Cm.tidy
 (List.append
 (List.append (D b)
 [((5 : Int), (0 : Int), (0 : Int), (0 : Int), (0 : Int)),
 ((5 : Int), (1 : Int), (0 : Int), (0 : Int),
 (0 : Int))])
 [((2 : Int), Int.tmod (↑(List.length m) : Int) (2 : Int),
 Int.tmod (↑(List.length m) : Int) (2 : Int), (0 : Int),
 (5 : Int)),
 ((3 : Int), Int.tmod (↑(List.length m) : Int) (2 : Int),
 (0 : Int), (0 : Int), (0 : Int))]) &&
 Cm.tidy
 (List.append
 (List.append (D b)
 [((5 : Int), (0 : Int), (0 : Int), (0 : Int), (0 : Int)),
 ((5 : Int), (1 : Int), (0 : Int), (0 : Int),
 (0 : Int))])
 [((2 : Int), Int.tmod (↑(List.length m) : Int) (2 : Int),
 Int.tmod (↑(List.length m) : Int) (2 : Int), (0 : Int),
 (5 : Int)),
 ((5 : Int), Int.tmod (↑(List.length m) : Int) (2 : Int),
 (0 : Int), (0 : Int), (0 : Int)),
 ((3 : Int), Int.tmod (↑(List.length m) : Int) (2 : Int),
 (0 : Int), (0 : Int), (0 : Int))]) ==
 Cm.tidy
 (List.append (D b)
 [((5 : Int), (0 : Int), (0 : Int), (0 : Int), (0 : Int)),
 ((5 : Int), (1 : Int), (0 : Int), (0 : Int),
 (0 : Int))])) =
 true ∧
 True))) := by kernel_rfl
theorem vc6 (b : List Int) : (FGA (Ep6 D) Try.f6 sLawB [⟨kU, b⟩] (fun _ => an6 (D b))) = (
 ifb (decide ((↑(List.length b) : Int) > (1048576 : Int))) (true = true ∧ True)
 (Cm.bytes b ∧
 List.length (D b) ≤ (16777216 : Nat) ∧
 List.length (D b) ≤ (16777216 : Nat) ∧
 ifb (!Cm.tidy (D b) == Cm.tidy (D b)) (false = true ∧ True)
 ((∃ (a : Nat),
 a ≤ List.length (D b) ∧
 (([] : Go.Am.Pth) = [] ∧ Cm.tidy (D b) = Cm.tidy (D b) ∧ ([] : Go.Am.Pth) = [] ∧ (↑a : Int) = (0 : Int)) ∧
 (D b = D b ∧ Cm.madeL (List.take a (D b)) = []) ∧ True) ∧
 ∀ (a : Nat),
 a ≤ List.length (D b) →
 ifb (decide ((↑a : Int) < (↑(List.length (D b)) : Int)))
 (((0 : Int) ≤ (↑a : Int) ∧ (↑a : Int) < (↑(List.length (D b)) : Int)) ∧
 ((0 : Int) ≤ (↑a : Int) ∧ (↑a : Int) < (↑(List.length (D b)) : Int)) ∧
 (List.length (Cm.madeL (List.take a (D b))) + (2 : Nat)) * nat_lit 40 ≤ (140737488355328 : Nat) ∧
 ∃ (a' : Nat),
 (a' ≤ List.length (D b) ∧ List.length (D b) - a' < List.length (D b) - a) ∧
 (([] : Go.Am.Pth) = [] ∧
 Cm.tidy (D b) = Cm.tidy (D b) ∧
 ([] : Go.Am.Pth) = [] ∧ (↑a' : Int) = IntKind.wrap IntKind.i64 ((↑a : Int) + (1 : Int))) ∧
 (D b = D b ∧
 Cm.madeL (List.take a' (D b)) =
 List.append (Cm.madeL (List.take a (D b)))
 [List.getD (D b) a Cm.a0,
 ((5 : Int),
 (List.getD (D b) a
 Cm.a0).2.1,
 (0 : Int), (0 : Int), (0 : Int))]) ∧
 True)
 (List.length (Cm.madeL (List.take a (D b))) ≤ (16777216 : Nat) ∧
 ((!!Cm.tidy (Cm.madeL (List.take a (D b)))) = true → (0 : Nat) ≤ (16777216 : Nat)) ∧
 ((!!Cm.tidy (Cm.madeL (List.take a (D b)))) = true →
 (!!Cm.tidy (Cm.madeL (List.take a (D b)))) = true) ∧
 ((!Cm.tidy (Cm.madeL (List.take a (D b)))) = false →
 (!!Cm.tidy (Cm.madeL (List.take a (D b)))) = true) ∧
 ifb (!Cm.tidy (Cm.madeL (List.take a (D b))) || !Cm.tidy []) (false = true ∧ True)
 (List.length (D b) ≤ (16777216 : Nat) ∧
 List.length (Cm.ownL (Cm.justL (0 : Int) (D b))) ≤ (16777216 : Nat) ∧
 (Cm.tidy (Cm.ownL (Cm.justL (0 : Int) (D b))) = true →
 Cm.tidy (Cm.ownL (Cm.justL (0 : Int) (D b))) = true) ∧
 (Cm.tidy (Cm.ownL (Cm.justL (0 : Int) (D b))) = true →
 List.length (D b) ≤ (16777216 : Nat)) ∧
 (Cm.tidy (Cm.ownL (Cm.justL (0 : Int) (D b))) = true →
 Cm.tidy (Cm.ownL (Cm.justL (0 : Int) (D b))) = true) ∧
 (Cm.tidy (Cm.ownL (Cm.justL (0 : Int) (D b))) = true →
 List.length (Cm.ownL (Cm.justL (1 : Int) (D b))) ≤ (16777216 : Nat)) ∧
 (Cm.tidy (Cm.ownL (Cm.justL (0 : Int) (D b))) = true →
 Cm.tidy (Cm.ownL (Cm.justL (0 : Int) (D b))) = true) ∧
 ((!!Cm.tidy (D b)) = true → (!!Cm.tidy (D b)) = true) ∧
 ((!!Cm.tidy (D b) &&
 (Cm.tidy (Cm.ownL (Cm.justL (0 : Int) (D b))) &&
 Cm.tidy (Cm.ownL (Cm.justL (1 : Int) (D b))))) =
 true →
 (!!Cm.tidy (D b) &&
 (Cm.tidy (Cm.ownL (Cm.justL (0 : Int) (D b))) &&
 Cm.tidy (Cm.ownL (Cm.justL (1 : Int) (D b))))) =
 true) ∧
 ((!!Cm.tidy (D b) &&
 (Cm.tidy (Cm.ownL (Cm.justL (0 : Int) (D b))) &&
 Cm.tidy (Cm.ownL (Cm.justL (1 : Int) (D b))))) =
 true →
 List.length (D b) ≤ (16777216 : Nat)) ∧
 ((!!Cm.tidy (D b) &&
 (Cm.tidy (Cm.ownL (Cm.justL (0 : Int) (D b))) &&
 Cm.tidy (Cm.ownL (Cm.justL (1 : Int) (D b))))) =
 true →
 (!!Cm.tidy (D b) &&
 (Cm.tidy (Cm.ownL (Cm.justL (0 : Int) (D b))) &&
 Cm.tidy (Cm.ownL (Cm.justL (1 : Int) (D b))))) =
 true) ∧
 ((!!Cm.tidy (D b) &&
 (Cm.tidy (Cm.ownL (Cm.justL (0 : Int) (D b))) &&
 Cm.tidy (Cm.ownL (Cm.justL (1 : Int) (D b))))) =
 true →
 List.length (Cm.ownL (D b)) ≤ (16777216 : Nat)) ∧
 ((!!Cm.tidy (D b)) = true → (!!Cm.tidy (D b)) = true) ∧
 ((!!Cm.tidy (D b)) = true →
 (Cm.tidy (Cm.ownL (Cm.justL (0 : Int) (D b))) &&
 Cm.tidy (Cm.ownL (Cm.justL (1 : Int) (D b)))) =
 true →
 (!!Cm.tidy (D b) &&
 (Cm.tidy (Cm.ownL (Cm.justL (0 : Int) (D b))) &&
 Cm.tidy (Cm.ownL (Cm.justL (1 : Int) (D b))))) =
 true) ∧
 ((!Cm.tidy (D b)) = false → (!!Cm.tidy (D b)) = true) ∧
 (!Cm.tidy (D b) ||
 Cm.tidy (Cm.ownL (Cm.justL (0 : Int) (D b))) &&
 Cm.tidy (Cm.ownL (Cm.justL (1 : Int) (D b))) &&
 Cm.tidy (Cm.ownL (D b))) =
 true ∧
 True))))) := by kernel_rfl
end Go.Proofs.Ytcfmelkegjpciaa.T

