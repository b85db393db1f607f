/-
  What the functions compute, in plain Lean, and small laws of that; no condition beside those that each law names.
-/
import Derived.Test.YtcfmelkegjpciaaAmC
/-! What the functions compute, in plain Lean. -/
namespace Go.Cm
abbrev A := Int × Int × Int × Int × Int
def szL {α : Type} (l : List α) (left : Int) : Int := if IntKind.i64.wrap (left - (l.length : Int)) < 0 then -1 else IntKind.i64.wrap (left - (l.length : Int))
def within (n lo hi : Int) : Bool := decide (lo ≤ n) && decide (n ≤ hi)
def own (a : A) : Bool := within a.1 1 5
def ofGuest (a : A) (g : Int) : Bool := within a.1 1 5 && decide (a.2.1 = g)
def next (g : Int) : List A → Bool
  | [] => true
  | a :: l => if a.2.1 = g ∧ own a = true then decide (a.1 = 5) else next g l
def tidy : List A → Bool
  | [] => true
  | a :: l => if (a.1 = 2 ∧ a.2.2.1 < 2) ∧ next a.2.1 l = false then false else tidy l
def eqL {α : Type} (e : α → α → Bool) : List α → List α → Bool
  | [], [] => true
  | a :: l, b :: m => e a b && eqL e l m
  | _, _ => false
def eqA (a b : A) : Bool := decide (a.1 = b.1) && decide (a.2.1 = b.2.1) && decide (a.2.2.1 = b.2.2.1) && decide (a.2.2.2.1 = b.2.2.2.1) && decide (a.2.2.2.2 = b.2.2.2.2)
def fill {α : Type} (d : α) (l : List α) (i : Nat) : List α := l.take i ++ List.replicate (l.length - i) d
end Go.Cm
namespace Go.Am
abbrev kI : K := .int .i64
abbrev kA : K := .pair kI (.pair kI (.pair kI (.pair kI kI)))
abbrev kAs : K := .sl kA
abbrev pv (k : K) : Pat := .q (.val k)
abbrev ps (k : K) : Pat := .q (.vs k)
abbrev yes1 {α : Type} (_ : α) : Prop := True
def sWithin : FSpec := sp3 [pv kI, pv kI, pv kI] kI kI kI (fun _ _ _ => True) fun n lo hi => ⟨[], .vw .bool, [⟨.bool, Cm.within n lo hi⟩]⟩
def sSz (k : K) : FSpec := sp2 [pv (.sl k), pv kI] (.sl k) kI (fun _ _ => True) fun l n => ⟨[], .vw kI, [⟨kI, Cm.szL l n⟩]⟩
def sToAct : FSpec := sp1 [pv kA] kA (fun _ => True) fun a => ⟨[], .vw kA, [⟨kA, a⟩]⟩
def sOwn : FSpec := sp1 [pv kA] kA (fun _ => True) fun a => ⟨[], .vw .bool, [⟨.bool, Cm.own a⟩]⟩
def sOfGuest : FSpec := sp2 [pv kA, pv kI] kA kI (fun _ _ => True) fun a g => ⟨[], .vw .bool, [⟨.bool, Cm.ofGuest a g⟩]⟩
def sEqA : FSpec := sp2 [pv kA, pv kA] kA kA (fun _ _ => True) fun a b => ⟨[], .vw .bool, [⟨.bool, Cm.eqA a b⟩]⟩
def sEqL (k : K) (e : k.T → k.T → Bool) : FSpec := sp2 [pv (.sl k), pv (.sl k)] (.sl k) (.sl k) (fun a _ => a.length ≤ 16777216) fun a b => ⟨[], .vw .bool, [⟨.bool, Cm.eqL e a b⟩]⟩
def sTo (k : K) (P : List k.T → Prop) : FSpec := sp1 [pv (.sl k)] (.sl k) P fun a => ⟨[], .own (.sl k), [⟨.sl k, a⟩]⟩
def sNext : FSpec := sp3 [pv kAs, pv kI, pv kI] kAs kI kI (fun l i _ => (0 ≤ i ∧ i ≤ (l.length : Int)) ∧ l.length ≤ 16777216) fun l i g => ⟨[], .vw .bool, [⟨.bool, Cm.next g (l.drop i.toNat)⟩]⟩
def sTidy : FSpec := sp1 [pv kAs] kAs (fun l => l.length ≤ 16777216) fun l => ⟨[], .vw .bool, [⟨.bool, Cm.tidy l⟩]⟩
end Go.Am

/-! Small laws for the conditions. -/
namespace Go.Cm
theorem wrap_id {x : Int} (h1 : -9223372036854775808 ≤ x) (h2 : x < 9223372036854775808) : IntKind.wrap .i64 x = x := by
  simp [IntKind.wrap, IntKind.signed, IntKind.bits]
  omega
theorem drop_getD {α : Type} {l : List α} {i : Nat} (d : α) (h : i < l.length) : l.drop i = l.getD i d :: l.drop (i + 1) := by
  rw [List.drop_eq_getElem_cons h]; simp [List.getD, h]
theorem fill_len {α : Type} (d : α) (l : List α) {i : Nat} (h : i ≤ l.length) : (fill d l i).length = l.length := by simp [fill]; omega
theorem fill_zero {α : Type} (d : α) (l : List α) : fill d l 0 = List.replicate l.length d := by simp [fill]
theorem fill_all {α : Type} (d : α) (l : List α) {i : Nat} (h : l.length ≤ i) : fill d l i = l := by simp [fill, List.take_of_length_le h, Nat.sub_eq_zero_of_le h]
theorem fill_set {α : Type} (d e : α) (l : List α) {i : Nat} (h : i < l.length) : (fill d l i).set i (l.getD i e) = fill d l (i + 1) := by
  apply List.ext_getElem?
  intro j
  simp only [fill, List.getElem?_set, List.getElem?_append, List.getElem?_take, List.getElem?_replicate, List.length_append, List.length_take, List.length_replicate, List.getD]
  repeat' split
  all_goals first | rfl | omega | (subst_vars; simp; try omega) | skip
  all_goals try (simp [*]; try omega)
  rw [List.getElem?_eq_getElem (by omega)]; simp
theorem eqL_ne {α : Type} {e : α → α → Bool} : ∀ {l m : List α}, l.length ≠ m.length → eqL e l m = false
  | [], [], h => (h rfl).elim
  | [], _ :: _, _ => rfl
  | _ :: _, [], _ => rfl
  | a :: l, b :: m, h => by
    rw [eqL, eqL_ne (l := l) (m := m) (fun h' => h (by simp [h']))]; simp
theorem eqL_refl {α : Type} {e : α → α → Bool} (he : ∀ a, e a a = true) : ∀ l : List α, eqL e l l = true
  | [] => rfl
  | a :: l => by rw [eqL, he, eqL_refl he l]; rfl
theorem eqA_refl (a : A) : eqA a a = true := by simp [eqA]
end Go.Cm

