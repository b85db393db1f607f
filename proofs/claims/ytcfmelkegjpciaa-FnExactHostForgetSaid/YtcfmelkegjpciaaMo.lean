/-
  What the functions compute, in plain Lean, and small laws of that; no condition beside those that each law names.
-/
import Derived.Test.YtcfmelkegjpciaaAmC
set_option linter.all false
/-! What the functions compute, in plain Lean. -/
namespace Go.Cm
abbrev A := Int × Int × Int × Int × Int
def a0 : A := (0, 0, 0, 0, 0)
def modAt {α : Type} (l : List α) (n : Nat) (d : α) (f : α → α) : List α := l.set n (f (l.getD n d))
def szL {α : Type} (l : List α) (left : Int) : Int := if IntKind.i64.wrap (left - (l.length : Int)) < 0 then -1 else IntKind.i64.wrap (left - (l.length : Int))
def within (n lo hi : Int) : Bool := decide (lo ≤ n) && decide (n ≤ hi)
def own (a : A) : Bool := within a.1 1 5
def ofGuest (a : A) (g : Int) : Bool := within a.1 1 5 && decide (a.2.1 = g)
def next (g : Int) : List A → Bool
  | [] => true
  | a :: l => if a.2.1 = g ∧ own a = true then decide (a.1 = 5) else next g l
def tidy : List A → Bool
  | [] => true
  | a :: l => if (a.1 = 2 ∧ a.2.2.1 < 2) ∧ next a.2.1 l = false then false else tidy l
def eqL {α : Type} (e : α → α → Bool) : List α → List α → Bool
  | [], [] => true
  | a :: l, b :: m => e a b && eqL e l m
  | _, _ => false
def eqA (a b : A) : Bool := decide (a.1 = b.1) && decide (a.2.1 = b.2.1) && decide (a.2.2.1 = b.2.2.1) && decide (a.2.2.2.1 = b.2.2.2.1) && decide (a.2.2.2.2 = b.2.2.2.2)
def fill {α : Type} (d : α) (l : List α) (i : Nat) : List α := l.take i ++ List.replicate (l.length - i) d
abbrev Rd := List Int × Int
abbrev R := Rd
def rdOk (r : R) (m : Int) : Prop := (r.1.length ≤ 2000 ∧ ∀ i, i < r.1.length → 0 ≤ r.1.getD i 0 ∧ r.1.getD i 0 ≤ 255) ∧ 0 ≤ r.2 ∧ r.2 ≤ m
def cut2 (b : List Int) : List Int := if b.length > 2000 then b.take 2000 else b
def bytes (b : List Int) : Prop := ∀ i, i < b.length → 0 ≤ b.getD i 0 ∧ b.getD i 0 ≤ 255
def inc (n : Int) : Int := n + 1
def adv (r : Rd) (n : Int) : Rd := (r.1, r.2 + n)
def wordM (p : Rd → Int → Int) (r : Rd) : Int := if p r 3 = 0 then p (r.1, inc r.2) 64 else p (r.1, inc r.2) 14
def tabStep (p : Rd → Int → Int) (g : Int) (k : Nat) (s : Rd × List A) : Rd × List A :=
  if p s.1 4 > 0 then (adv s.1 2, s.2 ++ [(2, g, ((k / 4 : Nat) : Int), ((k % 4 : Nat) : Int), 5 + p (adv s.1 1) 8), (5, g, 0, 0, 0)]) else (adv s.1 1, s.2)
def tabGo (p : Rd → Int → Int) (g : Int) : Nat → Nat → Rd × List A → Rd × List A
  | 0, _, s => s
  | n + 1, k, s => tabGo p g n (k + 1) (tabStep p g k s)
def playStep (act : Rd → Int → Rd × A) (g : Int) (t : Bool) (s : Rd × List A) : Rd × List A :=
  ((act s.1 g).1, if t = true ∧ (act s.1 g).2.1 = 2 ∧ (act s.1 g).2.2.2.1 < 2 then s.2 ++ [(act s.1 g).2] ++ [(5, (act s.1 g).2.2.1, 0, 0, 0)] else s.2 ++ [(act s.1 g).2])
def playGo (act : Rd → Int → Rd × A) (g : Int) (t : Bool) : Nat → Rd × List A → Rd × List A
  | 0, s => s
  | n + 1, s => if s.2.length < 58 then playGo act g t n (playStep act g t s) else s
def playG (p : Rd → Int → Int) (r : Rd) : Int := 1 + p r 2
def play0 (p : Rd → Int → Int) (tb : Rd → Int → Rd × List A) (r : Rd) : Rd × List A := if p (r.1, inc r.2) 4 > 0 then tb (r.1, inc (inc (inc r.2))) (p (r.1, inc (inc r.2)) (playG p r)) else ((r.1, inc (inc r.2)), [])
def playT (p : Rd → Int → Int) (tb : Rd → Int → Rd × List A) (r : Rd) : Bool := decide (p (play0 p tb r).1 4 > 0)
def playN (p : Rd → Int → Int) (tb : Rd → Int → Rd × List A) (r : Rd) : Nat := (p ((play0 p tb r).1.1, inc (play0 p tb r).1.2) 52).toNat
def playE (p : Rd → Int → Int) (act : Rd → Int → Rd × A) (tb : Rd → Int → Rd × List A) (r : Rd) : Rd × List A := playGo act (playG p r) (playT p tb r) (playN p tb r) (((play0 p tb r).1.1, inc (inc (play0 p tb r).1.2)), (play0 p tb r).2)
def playM (p : Rd → Int → Int) (act : Rd → Int → Rd × A) (tb : Rd → Int → Rd × List A) (r : Rd) : Rd × Int × List A := ((playE p act tb r).1, playG p r, (playE p act tb r).2)
def justL (g : Int) (l : List A) : List A := l.filter fun a => decide (a.2.1 = g)
def ownL (l : List A) : List A := l.filter own
def madeL (l : List A) : List A := l.flatMap fun a => [a, (5, a.2.1, 0, 0, 0)]
end Go.Cm
namespace Go.Am
open Go.Cm (R rdOk)
abbrev kI : K := .int .i64
abbrev kA : K := .pair kI (.pair kI (.pair kI (.pair kI kI)))
abbrev kAs : K := .sl kA
abbrev pv (k : K) : Pat := .q (.val k)
abbrev ps (k : K) : Pat := .q (.vs k)
abbrev yes1 {α : Type} (_ : α) : Prop := True
def sWithin : FSpec := sp3 [pv kI, pv kI, pv kI] kI kI kI (fun _ _ _ => True) fun n lo hi => ⟨[], .vw .bool, [⟨.bool, Cm.within n lo hi⟩]⟩
def sSz (k : K) : FSpec := sp2 [pv (.sl k), pv kI] (.sl k) kI (fun _ _ => True) fun l n => ⟨[], .vw kI, [⟨kI, Cm.szL l n⟩]⟩
def sToAct : FSpec := sp1 [pv kA] kA (fun _ => True) fun a => ⟨[], .vw kA, [⟨kA, a⟩]⟩
def sOwn : FSpec := sp1 [pv kA] kA (fun _ => True) fun a => ⟨[], .vw .bool, [⟨.bool, Cm.own a⟩]⟩
def sOfGuest : FSpec := sp2 [pv kA, pv kI] kA kI (fun _ _ => True) fun a g => ⟨[], .vw .bool, [⟨.bool, Cm.ofGuest a g⟩]⟩
def sEqA : FSpec := sp2 [pv kA, pv kA] kA kA (fun _ _ => True) fun a b => ⟨[], .vw .bool, [⟨.bool, Cm.eqA a b⟩]⟩
def sEqL (k : K) (e : k.T → k.T → Bool) : FSpec := sp2 [pv (.sl k), pv (.sl k)] (.sl k) (.sl k) (fun a _ => a.length ≤ 16777216) fun a b => ⟨[], .vw .bool, [⟨.bool, Cm.eqL e a b⟩]⟩
def sTo (k : K) (P : List k.T → Prop) : FSpec := sp1 [pv (.sl k)] (.sl k) P fun a => ⟨[], .own (.sl k), [⟨.sl k, a⟩]⟩
def sNext : FSpec := sp3 [pv kAs, pv kI, pv kI] kAs kI kI (fun l i _ => (0 ≤ i ∧ i ≤ (l.length : Int)) ∧ l.length ≤ 16777216) fun l i g => ⟨[], .vw .bool, [⟨.bool, Cm.next g (l.drop i.toNat)⟩]⟩
def sTidy : FSpec := sp1 [pv kAs] kAs (fun l => l.length ≤ 16777216) fun l => ⟨[], .vw .bool, [⟨.bool, Cm.tidy l⟩]⟩
abbrev kR : K := .pair (.sl (.int .u8)) kI
def sPick (F : R → Int → Int) : FSpec := sp2 [.box false kR, pv kI] kR kI (fun r _ => rdOk r 1099511627776) fun r n => ⟨[⟨kR, (r.1, Cm.inc r.2)⟩], .vw kI, [⟨kI, F r n⟩]⟩
def sOpen : FSpec := sp1 [ps (.sl (.int .u8))] (.sl (.int .u8)) (fun _ => True) fun b => ⟨[], .bx kR, [⟨kR, (Cm.cut2 b, 0)⟩]⟩
def sWord (F : R → Int) : FSpec := sp1 [.box false kR] kR (fun r => rdOk r 549755813888) fun r => ⟨[⟨kR, (r.1, Cm.inc (Cm.inc r.2))⟩], .vw kI, [⟨kI, F r⟩]⟩
def sAct (F : R → Int → R × Cm.A) : FSpec := sp2 [.box false kR, pv kI] kR kI (fun r g => rdOk r 274877906944 ∧ 1 ≤ g ∧ g ≤ 100) fun r g => ⟨[⟨kR, (F r g).1⟩], .vw kA, [⟨kA, (F r g).2⟩]⟩
def sTables (F : R → Int → R × List Cm.A) : FSpec := sp2 [.box false kR, pv kI] kR kI (fun r _ => rdOk r 274877906944) fun r g => ⟨[⟨kR, (F r g).1⟩], .own kAs, [⟨kAs, (F r g).2⟩]⟩
def sPlay (F : R → R × Int × List Cm.A) : FSpec := sp1 [.box false kR] kR (fun r => rdOk r 137438953472) fun r => ⟨[⟨kR, (F r).1⟩], .cons (.vw kI) (.cons (.own kAs) .nil), [⟨kI, (F r).2.1⟩, ⟨kAs, (F r).2.2⟩]⟩
def sDrawTidy (F : List Int → List Cm.A) : FSpec := sp1 [ps (.sl (.int .u8))] (.sl (.int .u8)) (fun b => Cm.bytes b) fun b => ⟨[], .own kAs, [⟨kAs, F b⟩]⟩
def sWithout : FSpec := sp1 [pv kAs] kAs (fun l => l.length ≤ 16777216) fun l => ⟨[], .own kAs, [⟨kAs, Cm.ownL l⟩]⟩
def sJust : FSpec := sp2 [pv kAs, pv kI] kAs kI (fun l _ => l.length ≤ 16777216) fun l g => ⟨[], .own kAs, [⟨kAs, Cm.ownL (Cm.justL g l)⟩]⟩
abbrev kU : K := .sl (.int .u8)
def sLawB : FSpec := sp1 [ps kU] kU (fun b => Cm.bytes b) fun _ => ⟨[], .vw .bool, [⟨.bool, true⟩]⟩
def sLawBB : FSpec := sp2 [ps kU, ps kU] kU kU (fun b _ => Cm.bytes b) fun _ _ => ⟨[], .vw .bool, [⟨.bool, true⟩]⟩
end Go.Am

/-! Small laws for the conditions. -/
namespace Go.Cm
theorem wrap_id {x : Int} (h1 : -9223372036854775808 ≤ x) (h2 : x < 9223372036854775808) : IntKind.wrap .i64 x = x := by
  simp [IntKind.wrap, IntKind.signed, IntKind.bits]
  omega
theorem drop_getD {α : Type} {l : List α} {i : Nat} (d : α) (h : i < l.length) : l.drop i = l.getD i d :: l.drop (i + 1) := by
  rw [List.drop_eq_getElem_cons h]; simp [List.getD, h]
theorem fill_len {α : Type} (d : α) (l : List α) {i : Nat} (h : i ≤ l.length) : (fill d l i).length = l.length := by simp [fill]; omega
theorem fill_zero {α : Type} (d : α) (l : List α) : fill d l 0 = List.replicate l.length d := by simp [fill]
theorem fill_all {α : Type} (d : α) (l : List α) {i : Nat} (h : l.length ≤ i) : fill d l i = l := by simp [fill, List.take_of_length_le h, Nat.sub_eq_zero_of_le h]
theorem fill_set {α : Type} (d e : α) (l : List α) {i : Nat} (h : i < l.length) : (fill d l i).set i (l.getD i e) = fill d l (i + 1) := by
  apply List.ext_getElem?
  intro j
  simp only [fill, List.getElem?_set, List.getElem?_append, List.getElem?_take, List.getElem?_replicate, List.length_append, List.length_take, List.length_replicate, List.getD]
  repeat' split
  all_goals first | rfl | omega | (subst_vars; simp; try omega) | skip
  all_goals try (simp [*]; try omega)
  rw [List.getElem?_eq_getElem (by omega)]; simp
theorem eqL_ne {α : Type} {e : α → α → Bool} : ∀ {l m : List α}, l.length ≠ m.length → eqL e l m = false
  | [], [], h => (h rfl).elim
  | [], _ :: _, _ => rfl
  | _ :: _, [], _ => rfl
  | a :: l, b :: m, h => by
    rw [eqL, eqL_ne (l := l) (m := m) (fun h' => h (by simp [h']))]; simp
theorem eqL_refl {α : Type} {e : α → α → Bool} (he : ∀ a, e a a = true) : ∀ l : List α, eqL e l l = true
  | [] => rfl
  | a :: l => by rw [eqL, he, eqL_refl he l]; rfl
theorem eqA_refl (a : A) : eqA a a = true := by simp [eqA]
theorem xor_nn {m n : Int} (h1 : 0 ≤ m) (h2 : m < 4611686018427387904) (h3 : 0 ≤ n) (h4 : n < 4611686018427387904) : 0 ≤ Am.xorI .i64 m n := by
  have e1 : (BitVec.ofInt 64 m).toNat = m.toNat := by rw [BitVec.toNat_ofInt]; simp; omega
  have e2 : (BitVec.ofInt 64 n).toNat = n.toNat := by rw [BitVec.toNat_ofInt]; simp; omega
  have e3 : (m.toNat ^^^ n.toNat) < 2 ^ 62 := Nat.xor_lt_two_pow (by omega) (by omega)
  show 0 ≤ IntKind.wrap .i64 (((BitVec.ofInt 64 m ^^^ BitVec.ofInt 64 n).toNat : Nat) : Int)
  rw [BitVec.toNat_xor, e1, e2, wrap_id (by omega) (by omega)]
  omega
theorem tmod_pos {x n : Int} (h1 : 0 ≤ x) (h2 : 0 < n) : 0 ≤ x.tmod n ∧ x.tmod n < n := ⟨Int.tmod_nonneg _ h1, Int.tmod_lt_of_pos _ h2⟩
theorem tdiv_bd {x n : Int} (h1 : 0 ≤ x) (h2 : 0 < n) : 0 ≤ x.tdiv n ∧ x.tdiv n ≤ x := ⟨Int.tdiv_nonneg h1 (by omega), Int.tdiv_le_self _ h1⟩
theorem modAt_len {α : Type} (l : List α) (n : Nat) (d : α) (f : α → α) : (modAt l n d f).length = l.length := by simp [modAt]
theorem modAt_mid {α : Type} {l r : List α} {i : Nat} (x d : α) (f : α → α) (h : l.length = i) : modAt (l ++ x :: r) i d f = l ++ f x :: r := by
  subst h; simp [modAt, List.getD]
theorem playGo_step {act : Rd → Int → Rd × A} {g : Int} {t : Bool} {k : Nat} {s : Rd × List A} (h : 0 < k) (h' : s.2.length < 58) : playGo act g t k s = playGo act g t (k - 1) (playStep act g t s) := by
  obtain ⟨n, rfl⟩ : ∃ n, k = n + 1 := ⟨k - 1, by omega⟩
  rw [playGo, if_pos h']; rfl
theorem playGo_end {act : Rd → Int → Rd × A} {g : Int} {t : Bool} {k : Nat} {s : Rd × List A} (h : ¬ (0 < k ∧ s.2.length < 58)) : playGo act g t k s = s := by
  cases k with
  | zero => rfl
  | succ n => rw [playGo, if_neg (fun h' => h ⟨by omega, h'⟩)]
end Go.Cm

/-! Laws of tidy acts. -/
namespace Go.Cm
theorem take_succ_getD {α : Type} (d : α) {l : List α} {i : Nat} (h : i < l.length) : l.take (i + 1) = l.take i ++ [l.getD i d] := by
  rw [List.take_add_one]; simp [List.getD, h]
theorem ownL_append (l m : List A) : ownL (l ++ m) = ownL l ++ ownL m := List.filter_append ..
theorem justL_append (g : Int) (l m : List A) : justL g (l ++ m) = justL g l ++ justL g m := List.filter_append ..
theorem madeL_append (l m : List A) : madeL (l ++ m) = madeL l ++ madeL m := List.flatMap_append
theorem madeL_len (l : List A) : (madeL l).length = 2 * l.length := by
  induction l with
  | nil => rfl
  | cons a l ih => rw [show madeL (a :: l) = a :: (5, a.2.1, 0, 0, 0) :: madeL l from rfl]; simp only [List.length_cons, ih]; omega
theorem next_take {g : Int} : ∀ {l : List A} {n : Nat}, next g l = true → next g (l.take n) = true
  | _, 0, _ => rfl
  | [], _ + 1, _ => rfl
  | a :: l, n + 1, h => by
    rw [List.take_succ_cons, next]
    rw [next] at h
    by_cases c : a.2.1 = g ∧ own a = true
    · rw [if_pos c] at h ⊢; exact h
    · rw [if_neg c] at h ⊢; exact next_take h
theorem tidy_cons {a : A} {l : List A} : tidy (a :: l) = true ↔ ((a.1 = 2 ∧ a.2.2.1 < 2) → next a.2.1 l = true) ∧ tidy l = true := by
  rw [tidy]
  by_cases c : (a.1 = 2 ∧ a.2.2.1 < 2) ∧ next a.2.1 l = false
  · rw [if_pos c]; constructor
    · intro h; cases h
    · intro h; rw [h.1 c.1] at c; exact absurd c.2 (by simp)
  · rw [if_neg c]; constructor
    · intro h; refine ⟨fun d => ?_, h⟩
      cases e : next a.2.1 l
      · exact absurd ⟨d, e⟩ c
      · rfl
    · exact fun h => h.2
theorem tidy_take : ∀ {l : List A} {n : Nat}, tidy l = true → tidy (l.take n) = true
  | _, 0, _ => rfl
  | [], _ + 1, _ => rfl
  | a :: l, n + 1, h => by
    rw [List.take_succ_cons]; rw [tidy_cons] at h ⊢
    exact ⟨fun d => next_take (h.1 d), tidy_take h.2⟩
theorem tidy_drop : ∀ {l : List A} {n : Nat}, tidy l = true → tidy (l.drop n) = true
  | _, 0, h => by simpa using h
  | [], _ + 1, _ => rfl
  | a :: l, n + 1, h => by rw [List.drop_succ_cons]; exact tidy_drop (tidy_cons.mp h).2
theorem tidy_right {l m : List A} (h : tidy (l ++ m) = true) : tidy m = true := by
  have := tidy_drop (n := l.length) h
  rwa [List.drop_left] at this
theorem next_ownL {g : Int} : ∀ l : List A, next g (ownL l) = next g l
  | [] => rfl
  | a :: l => by
    have ih := next_ownL (g := g) l
    rw [ownL, List.filter_cons]
    cases c : own a
    · rw [if_neg (by simp), next, if_neg (by simp [c])]; exact ih
    · simp only [ite_true, next, c, and_true]
      rw [show List.filter own l = ownL l from rfl, ih]
theorem tidy_ownL : ∀ {l : List A}, tidy l = true → tidy (ownL l) = true
  | [], _ => rfl
  | a :: l, h => by
    obtain ⟨h1, h2⟩ := tidy_cons.mp h
    rw [ownL, List.filter_cons]
    split
    · rw [tidy_cons]; exact ⟨fun d => by rw [show List.filter own l = ownL l from rfl, next_ownL]; exact h1 d, tidy_ownL h2⟩
    · exact tidy_ownL h2
theorem next_justL {g : Int} : ∀ l : List A, next g (justL g l) = next g l
  | [] => rfl
  | a :: l => by
    have ih := next_justL (g := g) l
    rw [justL, List.filter_cons]
    by_cases c : a.2.1 = g
    · simp only [c, decide_true, ite_true, next]
      rw [show List.filter (fun a : A => decide (a.2.1 = g)) l = justL g l from rfl, ih]
    · rw [if_neg (by simpa using c), next, if_neg (fun h => c h.1)]; exact ih
theorem tidy_justL {g : Int} : ∀ {l : List A}, tidy l = true → tidy (justL g l) = true
  | [], _ => rfl
  | a :: l, h => by
    obtain ⟨h1, h2⟩ := tidy_cons.mp h
    rw [justL, List.filter_cons]
    split
    · rename_i c
      have c : a.2.1 = g := by simpa using c
      rw [tidy_cons]
      refine ⟨fun d => ?_, tidy_justL h2⟩
      rw [show List.filter (fun a : A => decide (a.2.1 = g)) l = justL g l from rfl, c, next_justL, ← c]; exact h1 d
    · exact tidy_justL h2
theorem tidy_madeL : ∀ l : List A, tidy (madeL l) = true
  | [] => rfl
  | a :: l => by
    rw [show madeL (a :: l) = a :: (5, a.2.1, 0, 0, 0) :: madeL l from rfl, tidy_cons, tidy_cons]
    refine ⟨fun _ => ?_, fun d => by simp at d, tidy_madeL l⟩
    rw [next, if_pos ⟨rfl, rfl⟩]; rfl
abbrev f0 : A := (5, 0, 0, 0, 0)
abbrev f1 : A := (5, 1, 0, 0, 0)
theorem next_f {h : Int} {t : List A} (ht : ∀ a ∈ t, a.2.1 = 0 ∨ a.2.1 = 1) : ∀ r : List A, next h (r ++ f0 :: f1 :: t) = next h (r ++ [f0, f1])
  | [] => by
    simp only [List.nil_append, next]
    by_cases c : (f0 : A).2.1 = h ∧ own f0 = true
    · rw [if_pos c, if_pos c]
    · rw [if_neg c, if_neg c]
      by_cases d : (f1 : A).2.1 = h ∧ own f1 = true
      · rw [if_pos d, if_pos d]
      · rw [if_neg d, if_neg d]
        have c0 : ¬ h = 0 := fun e => c ⟨e.symm, rfl⟩
        have c1 : ¬ h = 1 := fun e => d ⟨e.symm, rfl⟩
        have : ∀ t : List A, (∀ a ∈ t, a.2.1 = 0 ∨ a.2.1 = 1) → next h t = true := by
          intro t
          induction t with
          | nil => exact fun _ => rfl
          | cons a t ih =>
            intro hh
            have ha := hh a (by simp)
            rw [next, if_neg (by omega)]
            exact ih fun b hb => hh b (by simp [hb])
        exact this t ht
  | a :: r => by
    rw [List.cons_append, List.cons_append, next, next, next_f ht r]
theorem tidy_f {t : List A} (ht : ∀ a ∈ t, a.2.1 = 0 ∨ a.2.1 = 1) (h : tidy t = true) : ∀ r : List A, tidy (r ++ f0 :: f1 :: t) = tidy (r ++ [f0, f1])
  | [] => by simp [tidy, h]
  | a :: r => by rw [List.cons_append, List.cons_append, tidy, tidy, next_f ht r, tidy_f ht h r]
theorem len_take_le {l : List A} {n b : Nat} (h : l.length ≤ b) : (l.take n).length ≤ b := by simp; omega
end Go.Cm

/-! Memory: what the functions compute. -/
namespace Go.Cm
abbrev Pg := List Int
abbrev Mm := List (List Int)
abbrev E := Bool × Int × Bool
def e0 : E := (false, 0, false)
def bd (m : Mm) : Prop := m.length ≤ 1048576 ∧ ∀ i, i < m.length → (m.getD i []).length ≤ 1048576
def wfM (m : Mm) : Prop := m.length ≤ 9223372036854775807 ∧ ∀ i, i < m.length → (m.getD i []).length ≤ 9223372036854775807
def szGo : Mm → Int → Int
  | [], n => n
  | a :: m, n => if szL a n < 0 then -1 else szGo m (szL a n)
def szLL (m : Mm) (n : Int) : Int := if IntKind.i64.wrap (n - (m.length : Int)) < 0 then -1 else szGo m (IntKind.i64.wrap (n - (m.length : Int)))
def eqI (a b : Pg) : Bool := decide (a = b)
def eqM (a b : Mm) : Bool := decide (a = b)
def upFrom (k : Int) : Nat → Pg
  | 0 => []
  | n + 1 => k :: upFrom (k + 1) n
def markI (a : Pg) (k : Int) : Pg := upFrom k a.length
def markM : Mm → Int → Mm
  | [], _ => []
  | a :: m, k => upFrom k a.length :: markM m (k + (a.length : Int))
def cnt : Mm → Int
  | [] => 0
  | a :: m => (a.length : Int) + cnt m
def heldI (a : Pg) (k : Int) : Int := if a = upFrom k a.length then k + (a.length : Int) else -1
def heldM (m : Mm) (k : Int) : Int := if m = markM m k then k + cnt m else -1
def allW : Pg → Bool
  | [] => true
  | w :: l => within w 0 63 && allW l
def okP (a : Pg) : Bool := allW a && decide (a.length = 4)
def okM : Mm → Bool
  | [] => true
  | a :: m => okP a && okM m
def okG (m : Mm) : Bool := okM m && decide (m.length = 6)
def entryNum (e : E) : Int := if e.1 = false then 0 else if e.2.2 = true then 2 * e.2.1 + 2 else 2 * e.2.1 + 1
def entryOf (w : Int) : E := if 5 ≤ w ∧ w ≤ 12 then (true, (w - 1) / 2, decide (w % 2 = 0)) else e0
def at2 (m : Mm) (p o : Int) : Int := (m.getD p.toNat []).getD o.toNat 0
def set2 (m : Mm) (p o w : Int) : Mm := m.set p.toNat ((m.getD p.toNat []).set o.toNat w)
def tabGen (m : Mm) : List E := [entryOf (at2 m 0 0), entryOf (at2 m 0 1), entryOf (at2 m 0 2), entryOf (at2 m 0 3), entryOf (at2 m 1 0), entryOf (at2 m 1 1)]
def memTab (m : Mm) : List E := if okG m = true then tabGen m else []
def spot (p o : Int) : Bool := within p 0 5 && within o 0 3
def spotM (m : Mm) (p o : Int) : Bool := within p 0 ((m.length : Int) - 1) && within o 0 3
def memAt (m : Mm) (p o : Int) : Int × Bool := if okM m = true ∧ spotM m p o = true then (at2 m p o, true) else (0, false)
def memWith (m : Mm) (p o w : Int) : Mm × Bool := if (okM m = true ∧ spotM m p o = true) ∧ within w 0 63 = true then (set2 m p o w, true) else ([], false)
def memNew (n : Int) : Mm := if within n 0 6 = true then List.replicate n.toNat [0, 0, 0, 0] else []
def fRead (m : Mm) (p o : Int) : Int := if okG m = true ∧ spot p o = true then at2 m p o else -3
def fWrite (m : Mm) (p o w : Int) : Mm × Int := if (okG m = true ∧ spot p o = true) ∧ within w 0 63 = true then (set2 m p o w, at2 m p o) else (m, -3)
def fWalk (m : Mm) (p o : Int) (w : Bool) : E × Int :=
  if okG m = true ∧ spot p o = true then (if (List.getD (tabGen m) p.toNat e0).1 = false then (List.getD (tabGen m) p.toNat e0, -1) else if w = true ∧ (List.getD (tabGen m) p.toNat e0).2.2 = false then (List.getD (tabGen m) p.toNat e0, -2) else (List.getD (tabGen m) p.toNat e0, 0)) else (e0, -3)
def fReadIn (m : Mm) (p o : Int) : Int := if (fWalk m p o false).2 < 0 then (fWalk m p o false).2 else at2 m (fWalk m p o false).1.2.1 o
def fWriteIn (m : Mm) (p o w : Int) : Mm × Int := if within w 0 63 = false then (m, -3) else if (fWalk m p o true).2 < 0 then (m, (fWalk m p o true).2) else (set2 m (fWalk m p o true).1.2.1 o w, at2 m (fWalk m p o true).1.2.1 o)
def fDo (m : Mm) (a : A) : Mm × Int :=
  if a.1 = 1 then (m, fRead m a.2.2.1 a.2.2.2.1) else if a.1 = 2 then fWrite m a.2.2.1 a.2.2.2.1 a.2.2.2.2
  else if a.1 = 3 then (m, fReadIn m a.2.2.1 a.2.2.2.1) else if a.1 = 4 then fWriteIn m a.2.2.1 a.2.2.2.1 a.2.2.2.2 else (m, 0)
def memS1 (p : Rd → Int → Int) (s : Rd × Mm) : Rd × Mm :=
  ((s.1.1, inc (inc (inc (inc s.1.2)))), s.2.set (p s.1 6).toNat ((s.2.getD (p s.1 6).toNat []).set (p (s.1.1, inc s.1.2) 4).toNat (wordM p (s.1.1, inc (inc s.1.2)))))
def memGo1 (p : Rd → Int → Int) : Nat → Rd × Mm → Rd × Mm
  | 0, s => s
  | n + 1, s => memGo1 p n (memS1 p s)
def memS2 (p : Rd → Int → Int) (s : Rd × Mm) : Rd × Mm :=
  ((s.1.1, inc (inc s.1.2)), set2 s.2 ((p s.1 6) / 4) ((p s.1 6) % 4) (5 + p (s.1.1, inc s.1.2) 8))
def memGo2 (p : Rd → Int → Int) : Nat → Rd × Mm → Rd × Mm
  | 0, s => s
  | n + 1, s => memGo2 p n (memS2 p s)
def memA (p : Rd → Int → Int) (r : Rd) : Rd × Mm := memGo1 p (p r 26).toNat ((r.1, inc r.2), memNew 6)
def memD (p : Rd → Int → Int) (r : Rd) : Rd × Mm := memGo2 p (p (memA p r).1 7).toNat (((memA p r).1.1, inc (memA p r).1.2), (memA p r).2)
def shp (m : Mm) : Prop := m.length = 6 ∧ ∀ i, i < 6 → (m.getD i []).length = 4
def shpW (m : Mm) : Prop := m.length ≤ 6 ∧ ∀ i, i < m.length → (m.getD i []).length ≤ 4
end Go.Cm
namespace Go.Am
open Go.Cm (R rdOk)
abbrev kP : K := .sl kI
abbrev kM : K := .sl kP
abbrev kE : K := .pair .bool (.pair kI .bool)
abbrev kEs : K := .sl kE
abbrev nn (n : Int) : AV := .int .i64 n
abbrev rf (i : Nat) : AV := .rf (1000 + i) 0 0 []
abbrev rt (i : Nat) (k : K) (xs : List k.T) : Nat × RootV := (1000 + i, ⟨0, 0, some ⟨k, xs, true⟩, none⟩)
abbrev pb (i : Nat) : AV := .pb (1000 + i) 0 []
abbrev bxv (i : Nat) (k : K) (x : k.T) : Nat × BoxV := (1000 + i, ⟨0, some (opnV k x), false⟩)
abbrev vb (b : Bool) : Alt := ⟨[], .vw .bool, [⟨.bool, b⟩]⟩
abbrev vi (n : Int) : Alt := ⟨[], .vw kI, [⟨kI, n⟩]⟩
abbrev ve (e : Cm.E) : Alt := ⟨[], .vw kE, [⟨kE, e⟩]⟩
abbrev om (m : Cm.Mm) : Alt := ⟨[], .own kM, [⟨kM, m⟩]⟩
def sSzM : FSpec := sp2 [pv kM, pv kI] kM kI (fun m n => Cm.wfM m ∧ 0 ≤ n ∧ n ≤ 1048576) fun m n => vi (Cm.szLL m n)
def sToM : FSpec := sTo kP Cm.bd
def sToP : FSpec := sTo kI fun l => l.length ≤ 1048576
def sEqP : FSpec := sp2 [pv kP, pv kP] kP kP (fun a _ => a.length ≤ 1048576) fun a b => vb (Cm.eqI a b)
def sEqM : FSpec := sp2 [pv kM, pv kM] kM kM (fun a _ => Cm.bd a) fun a b => vb (Cm.eqM a b)
def sMarkP : FSpec := sp2 [.own kP, pv kI] kP kI (fun a k => a.length ≤ 1048576 ∧ 0 ≤ k ∧ k ≤ 1152921504606846976) fun a k => ⟨[⟨kP, Cm.upFrom k a.length⟩], .vw kI, [⟨kI, k + (a.length : Int)⟩]⟩
def sMarkM : FSpec := sp2 [.own kM, pv kI] kM kI (fun a k => Cm.bd a ∧ 0 ≤ k ∧ k ≤ 1099511627776) fun a k => ⟨[⟨kM, Cm.markM a k⟩], .vw kI, [⟨kI, k + Cm.cnt a⟩]⟩
def sHeldP : FSpec := sp2 [pv kP, pv kI] kP kI (fun a k => a.length ≤ 1048576 ∧ 0 ≤ k ∧ k ≤ 1152921504606846976) fun a k => vi (Cm.heldI a k)
def sHeldM : FSpec := sp2 [pv kM, pv kI] kM kI (fun a k => Cm.bd a ∧ 0 ≤ k ∧ k ≤ 1099511627776) fun a k => vi (Cm.heldM a k)
def sPage : FSpec := sp0 [] True ⟨[], .own kP, [⟨kP, [0, 0, 0, 0]⟩]⟩
def sMemNew : FSpec := sp1 [pv kI] kI (fun _ => True) fun n => om (Cm.memNew n)
def sOkP : FSpec := sp1 [pv kP] kP (fun a => a.length ≤ 1048576) fun a => vb (Cm.okP a)
def sOkM : FSpec := sp1 [pv kM] kM Cm.bd fun a => vb (Cm.okM a)
def sOkG : FSpec := sp1 [pv kM] kM Cm.bd fun a => vb (Cm.okG a)
def sSpot : FSpec := sp2 [pv kI, pv kI] kI kI (fun _ _ => True) fun p o => vb (Cm.spot p o)
def sWordOk : FSpec := sp1 [pv kI] kI (fun _ => True) fun w => vb (Cm.within w 0 63)
def sEntryNum : FSpec := sp1 [pv kE] kE (fun e => 0 ≤ e.2.1 ∧ e.2.1 ≤ 1048576) fun e => vi (Cm.entryNum e)
def sEntryOf : FSpec := sp1 [pv kI] kI (fun w => w ≤ 1048576) fun w => ve (Cm.entryOf w)
def sTab2 : FSpec := sp2 [pv kP, pv kP] kP kP (fun a b => Cm.okP a = true ∧ Cm.okP b = true) fun a b => ⟨[], .own kEs, [⟨kEs, Cm.tabGen [a, b]⟩]⟩
def sMemTab : FSpec := sp1 [pv kM] kM Cm.bd fun m => ⟨[], .own kEs, [⟨kEs, Cm.memTab m⟩]⟩
def sMemAt : FSpec := sp3 [pv kM, pv kI, pv kI] kM kI kI (fun m _ _ => Cm.bd m) fun m p o => ⟨[], .cons (.vw kI) (.cons (.vw .bool) .nil), [⟨kI, (Cm.memAt m p o).1⟩, ⟨.bool, (Cm.memAt m p o).2⟩]⟩
def sMemWith : FSpec := sp4 [pv kM, pv kI, pv kI, pv kI] kM kI kI kI (fun m _ _ _ => Cm.bd m) fun m p o w => ⟨[], .cons (.own kM) (.cons (.vw .bool) .nil), [⟨kM, (Cm.memWith m p o w).1⟩, ⟨.bool, (Cm.memWith m p o w).2⟩]⟩
def sFRead : FSpec := sp3 [pv kM, pv kI, pv kI] kM kI kI (fun m _ _ => Cm.bd m) fun m p o => vi (Cm.fRead m p o)
def sFReadIn : FSpec := sp3 [pv kM, pv kI, pv kI] kM kI kI (fun m _ _ => Cm.bd m) fun m p o => vi (Cm.fReadIn m p o)
abbrev omi (x : Cm.Mm × Int) : Alt := ⟨[], .cons (.own kM) (.cons (.vw kI) .nil), [⟨kM, x.1⟩, ⟨kI, x.2⟩]⟩
def sFWrite : FSpec := sp4 [pv kM, pv kI, pv kI, pv kI] kM kI kI kI (fun m _ _ _ => Cm.bd m) fun m p o w => omi (Cm.fWrite m p o w)
def sFWriteIn : FSpec := sp4 [pv kM, pv kI, pv kI, pv kI] kM kI kI kI (fun m _ _ _ => Cm.bd m) fun m p o w => omi (Cm.fWriteIn m p o w)
def sFWalk : FSpec := sp4 [pv kM, pv kI, pv kI, pv .bool] kM kI kI .bool (fun m _ _ _ => Cm.bd m) fun m p o w => ⟨[], .cons (.vw kE) (.cons (.vw kI) .nil), [⟨kE, (Cm.fWalk m p o w).1⟩, ⟨kI, (Cm.fWalk m p o w).2⟩]⟩
def sFDo : FSpec := sp2 [pv kM, pv kA] kM kA (fun m _ => Cm.bd m) fun m a => omi (Cm.fDo m a)
def sLawMA : FSpec := sp2 [ps kM, ps kA] kM kA (fun m _ => Cm.wfM m) fun _ _ => vb true
def sMemD (F : R → R × Cm.Mm) : FSpec := sp1 [.box false kR] kR (fun r => rdOk r 137438953472) fun r => ⟨[⟨kR, (F r).1⟩], .own kM, [⟨kM, (F r).2⟩]⟩
def sDrawFlat (F : List Int → Cm.Mm × Cm.A) : FSpec := sp1 [ps kU] kU (fun b => Cm.bytes b) fun b => ⟨[], .cons (.own kM) (.cons (.vw kA) .nil), [⟨kM, (F b).1⟩, ⟨kA, (F b).2⟩]⟩
end Go.Am

/-! Laws of memory. -/
namespace Go.Cm
theorem szL_eq {α : Type} {l : List α} {n : Int} (h : 0 ≤ n ∧ n ≤ 1048576) (hl : l.length ≤ 9223372036854775807) : szL l n = if n - (l.length : Int) < 0 then -1 else n - (l.length : Int) := by
  unfold szL; rw [wrap_id (by omega) (by omega)]
theorem szGo_bd : ∀ {m : Mm} {n : Int}, 0 ≤ n ∧ n ≤ 1048576 → (∀ i, i < m.length → (m.getD i []).length ≤ 9223372036854775807) → 0 ≤ szGo m n → ∀ i, i < m.length → (m.getD i []).length ≤ 1048576
  | [], _, _, _, _, i, hi => by simp at hi
  | a :: m, n, hn, hw, h, i, hi => by
    have ha : a.length ≤ 9223372036854775807 := hw 0 (by simp)
    rw [szGo, szL_eq hn ha] at h
    by_cases c : n - (a.length : Int) < 0
    · rw [if_pos c] at h; simp at h
    · rw [if_neg c, if_neg c] at h
      cases i with
      | zero => show a.length ≤ _; omega
      | succ i => exact szGo_bd (m := m) (n := n - (a.length : Int)) (by omega) (fun j hj => hw (j + 1) (by simpa using hj)) h i (by simpa using hi)
theorem szLL_bd {m : Mm} {n : Int} (hn : 0 ≤ n ∧ n ≤ 1048576) (hw : wfM m) (h : 0 ≤ szLL m n) : bd m := by
  unfold szLL at h
  have h1 := hw.1
  rw [wrap_id (by omega) (by omega)] at h
  by_cases c : n - (m.length : Int) < 0
  · rw [if_pos c] at h; simp at h
  · rw [if_neg c] at h; exact ⟨by omega, szGo_bd (by omega) hw.2 h⟩
theorem eqI_cons (x y : Int) (l m : Pg) : eqI (x :: l) (y :: m) = (decide (x = y) && eqI l m) := by
  unfold eqI; by_cases h : x = y <;> by_cases g : l = m <;> simp [h, g]
theorem eqM_cons (x y : Pg) (l m : Mm) : eqM (x :: l) (y :: m) = (eqI x y && eqM l m) := by
  unfold eqM eqI; by_cases h : x = y <;> by_cases g : l = m <;> simp [h, g]
theorem eqI_len {a b : Pg} (h : a.length ≠ b.length) : eqI a b = false := by
  unfold eqI; rw [decide_eq_false]; intro e; exact h (by rw [e])
theorem eqM_len {a b : Mm} (h : a.length ≠ b.length) : eqM a b = false := by
  unfold eqM; rw [decide_eq_false]; intro e; exact h (by rw [e])
theorem eqI_iff {a b : Pg} : eqI a b = true ↔ a = b := by unfold eqI; simp
theorem eqM_iff {a b : Mm} : eqM a b = true ↔ a = b := by unfold eqM; simp
theorem eqM_refl (a : Mm) : eqM a a = true := by unfold eqM; simp
theorem upFrom_len : ∀ (k : Int) (n : Nat), (upFrom k n).length = n
  | _, 0 => rfl
  | k, n + 1 => by rw [upFrom, List.length_cons, upFrom_len]
theorem upFrom_succ : ∀ (k : Int) (n : Nat), upFrom k (n + 1) = upFrom k n ++ [k + n]
  | k, 0 => by simp [upFrom]
  | k, n + 1 => by
    rw [upFrom, upFrom_succ (k + 1) n, upFrom, List.cons_append]
    congr 3; omega
theorem upFrom_take : ∀ (k : Int) (i r : Nat), (upFrom k (i + r)).take i = upFrom k i
  | _, 0, _ => by simp [upFrom]
  | k, i + 1, r => by rw [show i + 1 + r = (i + r) + 1 by omega, upFrom, List.take_succ_cons, upFrom_take]; rfl
theorem set_mid {α : Type} {l r : List α} {i : Nat} (x y : α) (h : l.length = i) : (l ++ x :: r).set i y = l ++ y :: r := by
  subst h; simp
theorem getD_mid {α : Type} {l r : List α} {i : Nat} (x d : α) (h : l.length = i) : (l ++ x :: r).getD i d = x := by
  subst h; simp [List.getD]
theorem markM_len : ∀ (m : Mm) (k : Int), (markM m k).length = m.length
  | [], _ => rfl
  | a :: m, k => by rw [markM, List.length_cons, List.length_cons, markM_len]
theorem cnt_append : ∀ (l m : Mm), cnt (l ++ m) = cnt l + cnt m
  | [], m => by simp [cnt]
  | a :: l, m => by rw [List.cons_append, cnt, cnt, cnt_append]; omega
theorem cnt_one (a : Pg) : cnt [a] = (a.length : Int) := by simp [cnt]
theorem markM_append : ∀ (l m : Mm) (k : Int), markM (l ++ m) k = markM l k ++ markM m (k + cnt l)
  | [], m, k => by simp [markM, cnt]
  | a :: l, m, k => by
    rw [List.cons_append, markM, markM, cnt, markM_append, List.cons_append, Int.add_assoc]
theorem cnt_nn : ∀ m : Mm, 0 ≤ cnt m
  | [] => by simp [cnt]
  | a :: m => by have := cnt_nn m; rw [cnt]; omega
theorem cnt_le : ∀ {m : Mm}, (∀ i, i < m.length → (m.getD i []).length ≤ 1048576) → cnt m ≤ 1048576 * (m.length : Int)
  | [], _ => by simp [cnt]
  | a :: m, h => by
    have h0 : a.length ≤ 1048576 := h 0 (by simp)
    have h1 := cnt_le (m := m) fun i hi => h (i + 1) (by simpa using hi)
    rw [cnt, List.length_cons]; omega
theorem cnt_take_le {m : Mm} (h : bd m) (i : Nat) : cnt (m.take i) ≤ 1099511627776 := by
  obtain ⟨h1, h2⟩ := h
  have h3 : cnt (m.take i) + cnt (m.drop i) = cnt m := by rw [← cnt_append, List.take_append_drop]
  have h4 := cnt_nn (m.drop i)
  have h5 := cnt_le h2
  omega
theorem markM_mark : ∀ (m : Mm) (k : Int), markM (markM m k) k = markM m k
  | [], _ => rfl
  | a :: m, k => by rw [markM, markM, upFrom_len, markM_mark]
theorem cnt_mark : ∀ (m : Mm) (k : Int), cnt (markM m k) = cnt m
  | [], _ => rfl
  | a :: m, k => by rw [markM, cnt, cnt, upFrom_len, cnt_mark]
theorem heldM_mark (m : Mm) (k : Int) : heldM (markM m k) k = k + cnt m := by
  unfold heldM; rw [markM_mark, if_pos rfl, cnt_mark]
theorem markM_bd {m : Mm} (h : bd m) (k : Int) : bd (markM m k) := by
  have : ∀ (m : Mm) (k : Int) (i : Nat), ((markM m k).getD i []).length = (m.getD i []).length := by
    intro m
    induction m with
    | nil => intro k i; rfl
    | cons a m ih =>
      intro k i
      cases i with
      | zero => simp [markM, upFrom_len]
      | succ i => simpa [markM] using ih (k + a.length) i
  exact ⟨by rw [markM_len]; exact h.1, fun i hi => by rw [this]; exact h.2 i (by rw [markM_len] at hi; exact hi)⟩
theorem okG_len {m : Mm} (h : okG m = true) : m.length = 6 := by unfold okG at h; simp at h; exact h.2
theorem okM_get : ∀ {m : Mm}, okM m = true → ∀ i, i < m.length → okP (m.getD i []) = true
  | [], _, i, hi => by simp at hi
  | a :: m, h, i, hi => by
    rw [okM, Bool.and_eq_true] at h
    cases i with
    | zero => exact h.1
    | succ i => exact okM_get (m := m) h.2 i (by simpa using hi)
theorem okP_len {a : Pg} (h : okP a = true) : a.length = 4 := by unfold okP at h; simp at h; exact h.2
theorem okG_row {m : Mm} (h : okG m = true) {i : Nat} (hi : i < 6) : (m.getD i []).length = 4 := by
  have h1 : okM m = true := by unfold okG at h; simp at h; exact h.1
  exact okP_len (okM_get h1 i (by rw [okG_len h]; exact hi))
theorem allW_get : ∀ {a : Pg}, allW a = true → ∀ i, i < a.length → 0 ≤ a.getD i 0 ∧ a.getD i 0 ≤ 63
  | [], _, i, hi => by simp at hi
  | w :: a, h, i, hi => by
    rw [allW, Bool.and_eq_true] at h
    cases i with
    | zero => simpa [within] using h.1
    | succ i => exact allW_get (a := a) h.2 i (by simpa using hi)
theorem okP_get {a : Pg} (h : okP a = true) (i : Nat) : 0 ≤ a.getD i 0 ∧ a.getD i 0 ≤ 63 := by
  by_cases c : i < a.length
  · unfold okP at h; rw [Bool.and_eq_true] at h; exact allW_get h.1 i c
  · simp [List.getD, List.getElem?_eq_none (Nat.le_of_not_lt c)]
theorem okG_okP {m : Mm} (h : okG m = true) {i : Nat} (hi : i < 6) : okP (m.getD i []) = true := by
  have h1 : okM m = true := by unfold okG at h; simp at h; exact h.1
  exact okM_get h1 i (by rw [okG_len h]; exact hi)
theorem tabGen_len (m : Mm) : (tabGen m).length = 6 := rfl
end Go.Cm

/-! Acts of one guest on its memory. -/
namespace Go.Cm
def plays (g : Int) : List A → Pg × Mm → Pg × Mm
  | [], s => s
  | a :: l, s => if ofGuest a g = true then plays g l (s.1 ++ [(fDo s.2 a).2], (fDo s.2 a).1) else plays g l s
def fPlay (l : List A) (g : Int) : Pg × Mm := if l.length > 60 then ([], memNew 6) else plays g l ([], memNew 6)
def runs : List A → Pg × Mm → Pg × Mm
  | [], s => s
  | a :: l, s => runs l (s.1 ++ [(fDo s.2 a).2], (fDo s.2 a).1)
def markA : List A → Int → List A
  | [], _ => []
  | _ :: l, k => (k, k + 1, k + 2, k + 3, k + 4) :: markA l (k + 5)
def padA (l : List A) : List A := l ++ List.replicate (61 - l.length) (7, 0, 0, 0, 0)
theorem markA_len : ∀ (l : List A) (k : Int), (markA l k).length = l.length
  | [], _ => rfl
  | _ :: l, k => by rw [markA, List.length_cons, List.length_cons, markA_len]
theorem markA_snoc : ∀ (l : List A) (a : A) (k : Int), markA (l ++ [a]) k = markA l k ++ [(k + 5 * l.length, k + 5 * l.length + 1, k + 5 * l.length + 2, k + 5 * l.length + 3, k + 5 * l.length + 4)]
  | [], _, k => by simp [markA]
  | b :: l, a, k => by
    rw [List.cons_append, markA, markA_snoc l a (k + 5), markA, List.cons_append, List.length_cons]
    have e : k + 5 + 5 * (l.length : Int) = k + 5 * ((l.length + 1 : Nat) : Int) := by omega
    rw [e]
theorem justL_cons (g : Int) (a : A) (l : List A) : justL g (a :: l) = if a.2.1 = g then a :: justL g l else justL g l := by
  unfold justL; rw [List.filter_cons]; by_cases c : a.2.1 = g <;> simp [c]
theorem ownL_cons (a : A) (l : List A) : ownL (a :: l) = if own a = true then a :: ownL l else ownL l := by
  unfold ownL; rw [List.filter_cons]
theorem ofGuest_iff (a : A) (g : Int) : ofGuest a g = true ↔ a.2.1 = g ∧ own a = true := by
  unfold ofGuest own; rw [Bool.and_eq_true, decide_eq_true_eq, and_comm]
theorem runs_plays (g : Int) : ∀ (l : List A) (s : Pg × Mm), plays g l s = runs (ownL (justL g l)) s
  | [], s => rfl
  | a :: l, s => by
    rw [plays, justL_cons]
    by_cases c : a.2.1 = g
    · rw [if_pos c, ownL_cons]
      by_cases d : own a = true
      · rw [if_pos ((ofGuest_iff a g).mpr ⟨c, d⟩), if_pos d, runs_plays]; rfl
      · rw [if_neg (fun h => d ((ofGuest_iff a g).mp h).2), if_neg d, runs_plays]
    · rw [if_neg (fun h => c ((ofGuest_iff a g).mp h).1), if_neg c, runs_plays]
theorem runs_len : ∀ (l : List A) (s : Pg × Mm), (runs l s).1.length = s.1.length + l.length
  | [], _ => rfl
  | a :: l, s => by rw [runs, runs_len, List.length_cons]; simp; omega
theorem runs_pre : ∀ (l : List A) (s : Pg × Mm), ∃ r, (runs l s).1 = s.1 ++ r
  | [], s => ⟨[], by simp [runs]⟩
  | a :: l, s => by
    obtain ⟨r, h⟩ := runs_pre l (s.1 ++ [(fDo s.2 a).2], (fDo s.2 a).1)
    exact ⟨(fDo s.2 a).2 :: r, by rw [runs, h, List.append_assoc]; rfl⟩
theorem plays_len (g : Int) (l : List A) (s : Pg × Mm) : (plays g l s).1.length ≤ s.1.length + l.length := by
  rw [runs_plays, runs_len]
  have : (ownL (justL g l)).length ≤ l.length := Nat.le_trans (List.length_filter_le _ _) (List.length_filter_le _ _)
  omega
end Go.Cm
namespace Go.Am
open Go.Cm (R rdOk)
def sMarkA : FSpec := sp2 [.own kAs, pv kI] kAs kI (fun a k => a.length ≤ 1048576 ∧ 0 ≤ k ∧ k ≤ 1048576) fun a k => ⟨[⟨kAs, Cm.markA a k⟩], .vw kI, [⟨kI, k + 5 * (a.length : Int)⟩]⟩
def sMemNew6 : FSpec := sp1 [pv kI] kI (fun n => n = 6) fun n => om (Cm.memNew n)
def sFPlay : FSpec := sp2 [pv kAs, pv kI] kAs kI (fun l _ => l.length ≤ 16777216) fun l g => ⟨[], .cons (.own kP) (.cons (.own kM) .nil), [⟨kP, (Cm.fPlay l g).1⟩, ⟨kM, (Cm.fPlay l g).2⟩]⟩
def sLawAI : FSpec := sp2 [ps kAs, ps kI] kAs kI (fun l _ => l.length ≤ 9223372036854775807) fun _ _ => vb true
def sDrawFP (D : List Int → List Cm.A × Int) : FSpec := sp1 [ps kU] kU (fun b => Cm.bytes b) fun b => ⟨[], .cons (.own kAs) (.cons (.vw kI) .nil), [⟨kAs, (D b).1⟩, ⟨kI, (D b).2⟩]⟩
end Go.Am

/-! Hosts: what the functions compute. -/
namespace Go.Cm
abbrev Sh := Bool × Int × Int × Bool
abbrev Gt := List E × Mm × List Sh
abbrev Ho := Mm × List Gt × Int
def s0 : Sh := (false, 0, 0, false)
def g0 : Gt := ([], [], [])
def h0 : Ho := ([], [], 0)
def mx : Nat := 9223372036854775807
def bdG (g : Gt) : Prop := g.1.length ≤ 1048576 ∧ bd g.2.1 ∧ g.2.2.length ≤ 1048576
def bdGs (l : List Gt) : Prop := l.length ≤ 1048576 ∧ ∀ i, i < l.length → bdG (l.getD i g0)
def bdH (h : Ho) : Prop := bd h.1 ∧ bdGs h.2.1
def wfG (g : Gt) : Prop := g.1.length ≤ 9223372036854775807 ∧ wfM g.2.1 ∧ g.2.2.length ≤ 9223372036854775807
def wfGs (l : List Gt) : Prop := l.length ≤ 9223372036854775807 ∧ ∀ i, i < l.length → wfG (l.getD i g0)
def wfH (h : Ho) : Prop := wfM h.1 ∧ wfGs h.2.1
/-! size -/
def szT (t n : Int) : Int := if n - t < 0 then -1 else n - t
def totM (m : Mm) : Int := (m.length : Int) + cnt m
def totG (g : Gt) : Int := (g.1.length : Int) + totM g.2.1 + (g.2.2.length : Int)
def totS : List Gt → Int
  | [] => 0
  | g :: l => totG g + totS l
def totGs (l : List Gt) : Int := (l.length : Int) + totS l
def totH (h : Ho) : Int := totM h.1 + totGs h.2.1
/-! equality -/
def eqE (a b : E) : Bool := decide (a = b)
def eqS (a b : Sh) : Bool := decide (a = b)
def eqEs (a b : List E) : Bool := decide (a = b)
def eqSs (a b : List Sh) : Bool := decide (a = b)
noncomputable def eqG (a b : Gt) : Bool := @decide (a = b) (Classical.propDecidable _)
noncomputable def eqGs (a b : List Gt) : Bool := @decide (a = b) (Classical.propDecidable _)
noncomputable def eqH (a b : Ho) : Bool := @decide (a = b) (Classical.propDecidable _)
/-! marks -/
def m3 (k : Int) : Bool := k % 3 == 0
def mkEs (k : Int) : Nat → List E
  | 0 => []
  | n + 1 => (m3 k, k + 1, m3 (k + 2)) :: mkEs (k + 3) n
def mkSs (k : Int) : Nat → List Sh
  | 0 => []
  | n + 1 => (m3 k, k + 1, k + 2, m3 (k + 3)) :: mkSs (k + 4) n
def cntG (g : Gt) : Int := 3 * (g.1.length : Int) + cnt g.2.1 + 4 * (g.2.2.length : Int)
def cntS : List Gt → Int
  | [] => 0
  | g :: l => cntG g + cntS l
def mkG (g : Gt) (k : Int) : Gt := (mkEs k g.1.length, markM g.2.1 (k + 3 * (g.1.length : Int)), mkSs (k + 3 * (g.1.length : Int) + cnt g.2.1) g.2.2.length)
def mkGs : List Gt → Int → List Gt
  | [], _ => []
  | g :: l, k => mkG g k :: mkGs l (k + cntG g)
def mkH (h : Ho) (k : Int) : Ho := (markM h.1 k, mkGs h.2.1 (k + cnt h.1), h.2.2)
def cntH (h : Ho) : Int := cnt h.1 + cntS h.2.1
/-! what is in a frame -/
def useM (f : Int) : List E → Int
  | [] => 0
  | m :: l => (if m.1 = true ∧ m.2.1 = f then 1 else 0) + useM f l
def useG (f : Int) : List Gt → Int
  | [] => 0
  | g :: l => useM f g.1 + useG f l
def users (h : Ho) (f : Int) : Int := useG f h.2.1
/-! ok -/
def blank : Pg → Bool
  | [] => true
  | w :: l => (w == 0) && blank l
def idxNZ : Pg → Int → Int
  | [], _ => -1
  | w :: l, i => if w = 0 then idxNZ l (i + 1) else i
def mapOk (u : Int → Int) (m : E) (d : Pg) : Bool :=
  if m.1 = false then eqE m e0 else (within m.2.1 0 7 && blank d) && (!m.2.2 || decide (u m.2.1 ≤ 1))
def shOk (ms : List E) (s : Sh) : Bool :=
  if s.1 = false then eqS s s0 else within s.2.1 2 5 && ((List.getD ms s.2.1.toNat e0).1 && decide ((List.getD ms s.2.1.toNat e0).2.1 = s.2.2.1) && (!s.2.2.2 || (List.getD ms s.2.1.toNat e0).2.2))
def mapsOk (u : Int → Int) : List E → Mm → Bool
  | m :: l, d :: k => mapOk u m d && mapsOk u l k
  | m :: l, [] => mapOk u m [] && mapsOk u l []
  | [], _ => true
def shsOk (ms : List E) : List Sh → Bool
  | [] => true
  | s :: l => shOk ms s && shsOk ms l
def szOk (g : Gt) : Bool := decide (g.1.length = 6) && decide (g.2.2.length = 6) && okG g.2.1
def gOk (u : Int → Int) (g : Gt) : Bool := szOk g && (mapsOk u g.1 g.2.1 && shsOk g.1 g.2.2)
def szsOk : List Gt → Bool
  | [] => true
  | g :: l => szOk g && szsOk l
def gsOk (u : Int → Int) : List Gt → Bool
  | [] => true
  | g :: l => gOk u g && gsOk u l
def preOk (h : Ho) : Bool := okM h.1 && decide (h.1.length = 8) && within (h.2.1.length : Int) 1 2 && within h.2.2 0 7
def hOk (h : Ho) : Bool := preOk h && gsOk (users h) h.2.1
/-! see -/
def pageG (fr : Mm) (g : Gt) (p : Nat) : Pg := if (List.getD g.1 p e0).1 = true then fr.getD (List.getD g.1 p e0).2.1.toNat [] else g.2.1.getD p []
def seeG (fr : Mm) (g : Gt) : Mm := [pageG fr g 0, pageG fr g 1, pageG fr g 2, pageG fr g 3, pageG fr g 4, pageG fr g 5]
def see (h : Ho) (g : Int) : Mm := seeG h.1 (List.getD h.2.1 g.toNat g0)
def hSee (h : Ho) (g : Int) : Mm := if hOk h = true ∧ within g 0 ((h.2.1.length : Int) - 1) = true then see h g else []
def isH (h : Ho) (g p : Int) : Bool := hOk h && within g 0 ((h.2.1.length : Int) - 1) && within p 0 5
def forget (h : Ho) (g : Int) : Ho := (h.1, modAt h.2.1 g.toNat g0 fun x => (x.1, x.2.1, List.replicate 6 s0), h.2.2)
def hForget (h : Ho) (g : Int) : Ho := if isH h g 0 = true then forget h g else h0
end Go.Cm
namespace Go.Am
open Go.Cm (R rdOk)
abbrev kS : K := .pair .bool (.pair kI (.pair kI .bool))
abbrev kEs' : K := .sl kE
abbrev kSs : K := .sl kS
abbrev kG : K := .pair kEs (.pair kM kSs)
abbrev kGs : K := .sl kG
abbrev kH : K := .pair kM (.pair kGs kI)
def sId (k : K) : FSpec := sp1 [pv k] k (fun _ => True) fun a => ⟨[], .vw k, [⟨k, a⟩]⟩
def sToL (k : K) : FSpec := sp1 [pv (.sl k)] (.sl k) (fun l => l.length ≤ 1048576) fun l => ⟨[], .own (.sl k), [⟨.sl k, l⟩]⟩
def sToG : FSpec := sp1 [pv kG] kG Cm.bdG fun g => ⟨[], .own kG, [⟨kG, g⟩]⟩
def sToGs : FSpec := sp1 [pv kGs] kGs Cm.bdGs fun g => ⟨[], .own kGs, [⟨kGs, g⟩]⟩
abbrev oh (h : Cm.Ho) : Alt := ⟨[], .own kH, [⟨kH, h⟩]⟩
def sToH : FSpec := sp1 [pv kH] kH Cm.bdH fun h => oh h
def sEqE : FSpec := sp2 [pv kE, pv kE] kE kE (fun _ _ => True) fun a b => vb (Cm.eqE a b)
def sEqS : FSpec := sp2 [pv kS, pv kS] kS kS (fun _ _ => True) fun a b => vb (Cm.eqS a b)
def sEqEs : FSpec := sp2 [pv kEs, pv kEs] kEs kEs (fun a _ => a.length ≤ 1048576) fun a b => vb (Cm.eqEs a b)
def sEqSs : FSpec := sp2 [pv kSs, pv kSs] kSs kSs (fun a _ => a.length ≤ 1048576) fun a b => vb (Cm.eqSs a b)
noncomputable def sEqG : FSpec := sp2 [pv kG, pv kG] kG kG (fun a _ => Cm.bdG a) fun a b => vb (Cm.eqG a b)
noncomputable def sEqGs : FSpec := sp2 [pv kGs, pv kGs] kGs kGs (fun a _ => Cm.bdGs a) fun a b => vb (Cm.eqGs a b)
noncomputable def sEqH : FSpec := sp2 [pv kH, pv kH] kH kH (fun a _ => Cm.bdH a) fun a b => vb (Cm.eqH a b)
def sSzG : FSpec := sp2 [pv kG, pv kI] kG kI (fun g n => Cm.wfG g ∧ 0 ≤ n ∧ n ≤ 1048576) fun g n => vi (Cm.szT (Cm.totG g) n)
def sSzGs : FSpec := sp2 [pv kGs, pv kI] kGs kI (fun g n => Cm.wfGs g ∧ 0 ≤ n ∧ n ≤ 1048576) fun g n => vi (Cm.szT (Cm.totGs g) n)
def sSzH : FSpec := sp2 [pv kH, pv kI] kH kI (fun g n => Cm.wfH g ∧ 0 ≤ n ∧ n ≤ 1048576) fun g n => vi (Cm.szT (Cm.totH g) n)
def sMarkEs : FSpec := sp2 [.own kEs, pv kI] kEs kI (fun a k => a.length ≤ 1048576 ∧ 0 ≤ k ∧ k ≤ 1099511627776) fun a k => ⟨[⟨kEs, Cm.mkEs k a.length⟩], .vw kI, [⟨kI, k + 3 * (a.length : Int)⟩]⟩
def sMarkSs : FSpec := sp2 [.own kSs, pv kI] kSs kI (fun a k => a.length ≤ 1048576 ∧ 0 ≤ k ∧ k ≤ 1099511627776) fun a k => ⟨[⟨kSs, Cm.mkSs k a.length⟩], .vw kI, [⟨kI, k + 4 * (a.length : Int)⟩]⟩
def sHeldEs : FSpec := sp2 [pv kEs, pv kI] kEs kI (fun a k => (a.length ≤ 1048576 ∧ a = Cm.mkEs k a.length) ∧ 0 ≤ k ∧ k ≤ 1099511627776) fun a k => vi (k + 3 * (a.length : Int))
def sHeldSs : FSpec := sp2 [pv kSs, pv kI] kSs kI (fun a k => (a.length ≤ 1048576 ∧ a = Cm.mkSs k a.length) ∧ 0 ≤ k ∧ k ≤ 1099511627776) fun a k => vi (k + 4 * (a.length : Int))
def sMarkGs : FSpec := sp2 [.own kGs, pv kI] kGs kI (fun a k => (Cm.bdGs a ∧ Cm.totGs a ≤ 1048576) ∧ 0 ≤ k ∧ k ≤ 1073741824) fun a k => ⟨[⟨kGs, Cm.mkGs a k⟩], .vw kI, [⟨kI, k + Cm.cntS a⟩]⟩
def sHeldGs : FSpec := sp2 [pv kGs, pv kI] kGs kI (fun a k => ((Cm.bdGs a ∧ Cm.totGs a ≤ 1048576) ∧ a = Cm.mkGs a k) ∧ 0 ≤ k ∧ k ≤ 1073741824) fun a k => vi (k + Cm.cntS a)
def sMarkH : FSpec := sp2 [.own kH, pv kI] kH kI (fun a k => (Cm.bdH a ∧ Cm.totH a ≤ 1048576) ∧ 0 ≤ k ∧ k ≤ 1048576) fun a k => ⟨[⟨kH, Cm.mkH a k⟩], .vw kI, [⟨kI, k + Cm.cntH a⟩]⟩
def sHeldH : FSpec := sp2 [pv kH, pv kI] kH kI (fun a k => ((Cm.bdH a ∧ Cm.totH a ≤ 1048576) ∧ a = Cm.mkH a k) ∧ 0 ≤ k ∧ k ≤ 1048576) fun a k => vi (k + Cm.cntH a)
def sUsers : FSpec := sp2 [pv kH, pv kI] kH kI (fun h _ => Cm.bdH h) fun h f => vi (Cm.users h f)
def sNZ : FSpec := sp1 [pv kI] kI (fun _ => True) fun w => vb (w != 0)
def sIndex (f : Nat) : FSpec := sp1 [pv kP, .q (.fn f .nil .nil)] kP (fun a => a.length ≤ 1048576) fun a => vi (Cm.idxNZ a 0)
def sContains (f : Nat) : FSpec := sp1 [pv kP, .q (.fn f .nil .nil)] kP (fun a => a.length ≤ 1048576) fun a => vb (!Cm.blank a)
def sBlank : FSpec := sp1 [pv kP] kP (fun a => a.length ≤ 1048576) fun a => vb (Cm.blank a)
def sMapOk : FSpec := sp3 [pv kH, pv kE, pv kP] kH kE kP (fun h m d => Cm.bdH h ∧ d.length ≤ 1048576 ∧ (m.1 = true → 1 ≤ Cm.users h m.2.1)) fun h m d => vb (Cm.mapOk (Cm.users h) m d)
def sShOk : FSpec := sp2 [pv kG, pv kS] kG kS (fun g _ => g.1.length = 6) fun g s => vb (Cm.shOk g.1 s)
def sGOk : FSpec := sp2 [pv kH, pv kG] kH kG (fun h g => Cm.bdH h ∧ Cm.bdG g) fun h g => vb (Cm.gOk (Cm.users h) g)
def sHOk : FSpec := sp1 [pv kH] kH Cm.bdH fun h => vb (Cm.hOk h)
def sPageH : FSpec := sp3 [pv kH, pv kI, pv kI] kH kI kI (fun h g p => (Cm.bdH h ∧ Cm.hOk h = true) ∧ (0 ≤ g ∧ g < (h.2.1.length : Int)) ∧ 0 ≤ p ∧ p ≤ 5) fun h g p => ⟨[], .own kP, [⟨kP, Cm.pageG h.1 (List.getD h.2.1 g.toNat Cm.g0) p.toNat⟩]⟩
def sSeeH : FSpec := sp2 [pv kH, pv kI] kH kI (fun h g => (Cm.bdH h ∧ Cm.hOk h = true) ∧ 0 ≤ g ∧ g < (h.2.1.length : Int)) fun h g => om (Cm.see h g)
def sHSee : FSpec := sp2 [pv kH, pv kI] kH kI (fun h _ => Cm.bdH h) fun h g => om (Cm.hSee h g)
def sIsH : FSpec := sp3 [pv kH, pv kI, pv kI] kH kI kI (fun h _ _ => Cm.bdH h) fun h g p => vb (Cm.isH h g p)
def sForgetT : FSpec := sp2 [.take kH, pv kI] kH kI (fun h g => 0 ≤ g ∧ g < (h.2.1.length : Int)) fun h g => oh (Cm.forget h g)
def sHForget : FSpec := sp2 [pv kH, pv kI] kH kI (fun h _ => Cm.bdH h) fun h g => oh (Cm.hForget h g)
def sLawHI : FSpec := sp2 [ps kH, ps kI] kH kI (fun h _ => Cm.wfH h) fun _ _ => vb true
end Go.Am

/-! Hosts: small laws. -/
namespace Go.Cm
theorem szT_neg {t n : Int} : szT t n < 0 ↔ n - t < 0 := by unfold szT; split <;> omega
theorem szT_pos {t n : Int} (h : ¬ szT t n < 0) : szT t n = n - t := by unfold szT at h ⊢; split <;> simp_all
theorem szL_szT {α : Type} {l : List α} {n : Int} (h : 0 ≤ n ∧ n ≤ 1048576) (hl : l.length ≤ 9223372036854775807) : szL l n = szT l.length n := szL_eq h hl
theorem szGo_szT : ∀ {m : Mm} {n : Int}, 0 ≤ n ∧ n ≤ 1048576 → (∀ i, i < m.length → (m.getD i []).length ≤ 9223372036854775807) → szGo m n = szT (cnt m) n
  | [], n, h, _ => by unfold szGo szT cnt; rw [if_neg (by omega)]; omega
  | a :: m, n, h, hw => by
    have ha : a.length ≤ 9223372036854775807 := hw 0 (by simp)
    have c := cnt_nn m
    rw [szGo, szL_szT h ha, cnt]
    by_cases d : szT (a.length : Int) n < 0
    · rw [if_pos d]; rw [szT_neg] at d; unfold szT; rw [if_pos (by omega)]
    · rw [if_neg d]
      have e := szT_pos d
      rw [szT_neg] at d
      rw [e, szGo_szT ⟨by omega, by omega⟩ fun i hi => hw (i + 1) (by simpa using hi)]
      unfold szT; split <;> split <;> omega
theorem szLL_szT {m : Mm} {n : Int} (h : 0 ≤ n ∧ n ≤ 1048576) (hw : wfM m) : szLL m n = szT (totM m) n := by
  have c := cnt_nn m
  have h1 := hw.1
  unfold szLL totM
  rw [wrap_id (by omega) (by omega)]
  by_cases d : n - (m.length : Int) < 0
  · rw [if_pos d]; unfold szT; rw [if_pos (by omega)]
  · rw [if_neg d, szGo_szT ⟨by omega, by omega⟩ hw.2]
    unfold szT; split <;> split <;> omega
theorem totM_nn (m : Mm) : 0 ≤ totM m := by have := cnt_nn m; unfold totM; omega
theorem totG_nn (g : Gt) : 0 ≤ totG g := by have := totM_nn g.2.1; unfold totG; omega
theorem totS_nn : ∀ l : List Gt, 0 ≤ totS l
  | [] => by simp [totS]
  | g :: l => by have := totG_nn g; have := totS_nn l; rw [totS]; omega
theorem cnt_row : ∀ {m : Mm} {i : Nat}, i < m.length → ((m.getD i []).length : Int) ≤ cnt m
  | [], i, h => by simp at h
  | a :: m, i, h => by
    have c := cnt_nn m
    cases i with
    | zero => rw [cnt]; show (a.length : Int) ≤ _; omega
    | succ i => have := cnt_row (m := m) (i := i) (by simpa using h); rw [cnt]; show ((m.getD i []).length : Int) ≤ _; omega
theorem totM_bd {m : Mm} (h : totM m ≤ 1048576) : bd m := by
  have c := cnt_nn m
  unfold totM at h
  exact ⟨by omega, fun i hi => by have := cnt_row hi; omega⟩
theorem totG_bd {g : Gt} (h : totG g ≤ 1048576) : bdG g := by
  have c := totM_nn g.2.1
  unfold totG at h
  exact ⟨by omega, totM_bd (by omega), by omega⟩
theorem totS_get : ∀ {l : List Gt} {i : Nat}, i < l.length → totG (l.getD i g0) ≤ totS l
  | [], i, h => by simp at h
  | g :: l, i, h => by
    have a := totG_nn g
    have b := totS_nn l
    cases i with
    | zero => rw [totS]; show totG g ≤ _; omega
    | succ i => have := totS_get (l := l) (i := i) (by simpa using h); rw [totS]; show totG (l.getD i g0) ≤ _; omega
theorem totGs_bd {l : List Gt} (h : totGs l ≤ 1048576) : bdGs l := by
  have b := totS_nn l
  unfold totGs at h
  exact ⟨by omega, fun i hi => totG_bd (by have := totS_get hi; omega)⟩
theorem totH_bd {h : Ho} (e : totH h ≤ 1048576) : bdH h := by
  have a := totM_nn h.1
  have b := totS_nn h.2.1
  unfold totH at e
  have c : 0 ≤ totGs h.2.1 := by unfold totGs; omega
  exact ⟨totM_bd (by omega), totGs_bd (by omega)⟩
theorem totS_append : ∀ l m : List Gt, totS (l ++ m) = totS l + totS m
  | [], m => by simp [totS]
  | g :: l, m => by rw [List.cons_append, totS, totS, totS_append]; omega
theorem cntG_nn (g : Gt) : 0 ≤ cntG g := by have := cnt_nn g.2.1; unfold cntG; omega
theorem cntG_le (g : Gt) : cntG g ≤ 4 * totG g := by have := cnt_nn g.2.1; unfold cntG totG totM; omega
theorem cntS_nn : ∀ l : List Gt, 0 ≤ cntS l
  | [] => by simp [cntS]
  | g :: l => by have := cntG_nn g; have := cntS_nn l; rw [cntS]; omega
theorem cntS_le : ∀ l : List Gt, cntS l ≤ 4 * totS l
  | [] => by simp [cntS, totS]
  | g :: l => by have := cntG_le g; have := cntS_le l; rw [cntS, totS]; omega
theorem cntS_append : ∀ l m : List Gt, cntS (l ++ m) = cntS l + cntS m
  | [], m => by simp [cntS]
  | g :: l, m => by rw [List.cons_append, cntS, cntS, cntS_append]; omega
theorem cntS_one (g : Gt) : cntS [g] = cntG g := by simp [cntS]
theorem cntS_take (l : List Gt) (h : totGs l ≤ 1048576) (i : Nat) : cntS (l.take i) ≤ 4194304 := by
  have a : totS (l.take i) + totS (l.drop i) = totS l := by rw [← totS_append, List.take_append_drop]
  have b := totS_nn (l.drop i)
  have c := cntS_le (l.take i)
  unfold totGs at h
  omega
theorem cntH_nn (h : Ho) : 0 ≤ cntH h := by have := cnt_nn h.1; have := cntS_nn h.2.1; unfold cntH; omega
theorem mkGs_len : ∀ (l : List Gt) (k : Int), (mkGs l k).length = l.length
  | [], _ => rfl
  | g :: l, k => by rw [mkGs, List.length_cons, List.length_cons, mkGs_len]
theorem mkGs_append : ∀ (l m : List Gt) (k : Int), mkGs (l ++ m) k = mkGs l k ++ mkGs m (k + cntS l)
  | [], m, k => by simp [mkGs, cntS]
  | g :: l, m, k => by rw [List.cons_append, mkGs, mkGs, cntS, mkGs_append, List.cons_append, Int.add_assoc]
theorem mkGs_get : ∀ {l : List Gt} {k : Int} {i : Nat}, i < l.length → (mkGs l k).getD i g0 = mkG (l.getD i g0) (k + cntS (l.take i))
  | [], _, i, h => by simp at h
  | g :: l, k, 0, _ => by simp [mkGs, cntS]
  | g :: l, k, i + 1, h => by
    have := mkGs_get (l := l) (k := k + cntG g) (i := i) (by simpa using h)
    rw [mkGs, List.take_succ_cons, cntS, ← Int.add_assoc]
    exact this
theorem mkEs_len : ∀ (k : Int) (n : Nat), (mkEs k n).length = n
  | _, 0 => rfl
  | k, n + 1 => by rw [mkEs, List.length_cons, mkEs_len]
theorem mkSs_len : ∀ (k : Int) (n : Nat), (mkSs k n).length = n
  | _, 0 => rfl
  | k, n + 1 => by rw [mkSs, List.length_cons, mkSs_len]
theorem mkEs_snoc : ∀ (k : Int) (n : Nat), mkEs k (n + 1) = mkEs k n ++ [(m3 (k + 3 * n), k + 3 * n + 1, m3 (k + 3 * n + 2))]
  | k, 0 => by simp [mkEs]
  | k, n + 1 => by
    rw [mkEs, mkEs_snoc (k + 3) n, mkEs, List.cons_append]
    have e : k + 3 + 3 * (n : Int) = k + 3 * ((n + 1 : Nat) : Int) := by omega
    rw [e]
theorem mkSs_snoc : ∀ (k : Int) (n : Nat), mkSs k (n + 1) = mkSs k n ++ [(m3 (k + 4 * n), k + 4 * n + 1, k + 4 * n + 2, m3 (k + 4 * n + 3))]
  | k, 0 => by simp [mkSs]
  | k, n + 1 => by
    rw [mkSs, mkSs_snoc (k + 4) n, mkSs, List.cons_append]
    have e : k + 4 + 4 * (n : Int) = k + 4 * ((n + 1 : Nat) : Int) := by omega
    rw [e]
theorem mkEs_get : ∀ {k : Int} {n i : Nat}, i < n → (mkEs k n).getD i e0 = (m3 (k + 3 * i), k + 3 * i + 1, m3 (k + 3 * i + 2))
  | k, 0, i, h => by omega
  | k, n + 1, 0, _ => by simp [mkEs]
  | k, n + 1, i + 1, h => by
    have := mkEs_get (k := k + 3) (n := n) (i := i) (by omega)
    have e : k + 3 + 3 * (i : Int) = k + 3 * ((i + 1 : Nat) : Int) := by omega
    rw [e] at this
    rw [mkEs]; exact this
theorem mkSs_get : ∀ {k : Int} {n i : Nat}, i < n → (mkSs k n).getD i s0 = (m3 (k + 4 * i), k + 4 * i + 1, k + 4 * i + 2, m3 (k + 4 * i + 3))
  | k, 0, i, h => by omega
  | k, n + 1, 0, _ => by simp [mkSs]
  | k, n + 1, i + 1, h => by
    have := mkSs_get (k := k + 4) (n := n) (i := i) (by omega)
    have e : k + 4 + 4 * (i : Int) = k + 4 * ((i + 1 : Nat) : Int) := by omega
    rw [e] at this
    rw [mkSs]; exact this
theorem tmod3 {k : Int} (h : 0 ≤ k) : (Int.tmod k 3 == 0) = m3 k := by unfold m3; rw [Int.tmod_eq_emod_of_nonneg h]
theorem mkG_mkG (g : Gt) (k : Int) : mkG (mkG g k) k = mkG g k := by
  unfold mkG; simp only [mkEs_len, mkSs_len, markM_mark, cnt_mark]
theorem cntG_mk (g : Gt) (k : Int) : cntG (mkG g k) = cntG g := by
  unfold cntG mkG; simp only [mkEs_len, mkSs_len, cnt_mark]
theorem totG_mk (g : Gt) (k : Int) : totG (mkG g k) = totG g := by
  unfold totG mkG totM; simp only [mkEs_len, mkSs_len, cnt_mark, markM_len]
theorem mkGs_mkGs : ∀ (l : List Gt) (k : Int), mkGs (mkGs l k) k = mkGs l k
  | [], _ => rfl
  | g :: l, k => by rw [mkGs, mkGs, mkG_mkG, cntG_mk, mkGs_mkGs]
theorem totS_mk : ∀ (l : List Gt) (k : Int), totS (mkGs l k) = totS l
  | [], _ => rfl
  | g :: l, k => by rw [mkGs, totS, totS, totG_mk, totS_mk]
theorem cntS_mk : ∀ (l : List Gt) (k : Int), cntS (mkGs l k) = cntS l
  | [], _ => rfl
  | g :: l, k => by rw [mkGs, cntS, cntS, cntG_mk, cntS_mk]
theorem mkH_mkH (h : Ho) (k : Int) : mkH (mkH h k) k = mkH h k := by
  unfold mkH; simp only [markM_mark, cnt_mark, mkGs_mkGs]
theorem totH_mk (h : Ho) (k : Int) : totH (mkH h k) = totH h := by
  unfold totH mkH totGs totM; simp only [cnt_mark, markM_len, totS_mk, mkGs_len]
theorem cntH_mk (h : Ho) (k : Int) : cntH (mkH h k) = cntH h := by
  unfold cntH mkH; simp only [cnt_mark, cntS_mk]
theorem eqEs_cons (x y : E) (l m : List E) : eqEs (x :: l) (y :: m) = (eqE x y && eqEs l m) := by
  unfold eqEs eqE; by_cases h : x = y <;> by_cases g : l = m <;> simp [h, g]
theorem eqSs_cons (x y : Sh) (l m : List Sh) : eqSs (x :: l) (y :: m) = (eqS x y && eqSs l m) := by
  unfold eqSs eqS; by_cases h : x = y <;> by_cases g : l = m <;> simp [h, g]
theorem eqGs_cons (x y : Gt) (l m : List Gt) : eqGs (x :: l) (y :: m) = (eqG x y && eqGs l m) := by
  unfold eqGs eqG; by_cases h : x = y <;> by_cases g : l = m <;> simp [h, g]
theorem eqEs_len {a b : List E} (h : a.length ≠ b.length) : eqEs a b = false := by
  unfold eqEs; rw [decide_eq_false]; intro e; exact h (by rw [e])
theorem eqSs_len {a b : List Sh} (h : a.length ≠ b.length) : eqSs a b = false := by
  unfold eqSs; rw [decide_eq_false]; intro e; exact h (by rw [e])
theorem eqGs_len {a b : List Gt} (h : a.length ≠ b.length) : eqGs a b = false := by
  unfold eqGs; simp only [decide_eq_false_iff_not]; intro e; exact h (by rw [e])
theorem eqG_eq (a b : Gt) : eqG a b = (eqEs a.1 b.1 && (eqM a.2.1 b.2.1 && eqSs a.2.2 b.2.2)) := by
  obtain ⟨a1, a2, a3⟩ := a; obtain ⟨b1, b2, b3⟩ := b
  unfold eqG eqEs eqM eqSs
  by_cases h1 : a1 = b1 <;> by_cases h2 : a2 = b2 <;> by_cases h3 : a3 = b3 <;> simp [h1, h2, h3]
theorem eqH_eq (a b : Ho) : eqH a b = (eqM a.1 b.1 && (eqGs a.2.1 b.2.1 && decide (a.2.2 = b.2.2))) := by
  obtain ⟨a1, a2, a3⟩ := a; obtain ⟨b1, b2, b3⟩ := b
  unfold eqH eqGs eqM
  by_cases h1 : a1 = b1 <;> by_cases h2 : a2 = b2 <;> by_cases h3 : a3 = b3 <;> simp [h1, h2, h3]
theorem eqH_refl (a : Ho) : eqH a a = true := by unfold eqH; simp
theorem useM_nn (f : Int) : ∀ l : List E, 0 ≤ useM f l
  | [] => by simp [useM]
  | m :: l => by have := useM_nn f l; rw [useM]; split <;> omega
theorem useG_nn (f : Int) : ∀ l : List Gt, 0 ≤ useG f l
  | [] => by simp [useG]
  | g :: l => by have := useM_nn f g.1; have := useG_nn f l; rw [useG]; omega
theorem useM_pos {f : Int} : ∀ {l : List E} {i : Nat}, i < l.length → (l.getD i e0).1 = true → (l.getD i e0).2.1 = f → 1 ≤ useM f l
  | [], i, h, _, _ => by simp at h
  | m :: l, 0, _, h1, h2 => by
    have := useM_nn f l
    have h1 : m.1 = true := h1
    have h2 : m.2.1 = f := h2
    rw [useM, if_pos ⟨h1, h2⟩]; omega
  | m :: l, i + 1, h, h1, h2 => by
    have := useM_pos (l := l) (i := i) (by simpa using h) h1 h2
    rw [useM]; split <;> omega
theorem useG_pos {f : Int} : ∀ {l : List Gt} {i : Nat}, i < l.length → 1 ≤ useM f (l.getD i g0).1 → 1 ≤ useG f l
  | [], i, h, _ => by simp at h
  | g :: l, 0, _, h1 => by
    have := useG_nn f l
    have h1 : 1 ≤ useM f g.1 := h1
    rw [useG]; omega
  | g :: l, i + 1, h, h1 => by
    have := useG_pos (l := l) (i := i) (by simpa using h) h1
    have := useM_nn f g.1
    rw [useG]; omega
end Go.Cm

/-! Hosts that change. -/
namespace Go.Cm
def gAt (h : Ho) (g : Nat) : Gt := List.getD h.2.1 g g0
def mAt (h : Ho) (g p : Nat) : E := List.getD (gAt h g).1 p e0
def upG (h : Ho) (g : Nat) (f : Gt → Gt) : Ho := (h.1, modAt h.2.1 g g0 f, h.2.2)
def clr (p : Int) (s : Sh) : Sh := if s.1 = true ∧ s.2.1 = p then s0 else s
def forgetP (h : Ho) (g : Nat) (p : Int) : Ho := upG h g fun x => (x.1, x.2.1, x.2.2.map (clr p))
def outP (h : Ho) (g p : Nat) : Ho :=
  if (mAt h g p).1 = true then upG h g fun x => (x.1.set p e0, x.2.1.set p (pageG h.1 x p), x.2.2.map (clr (p : Int))) else h
def clrP (f : Int) (g : Nat) : Nat → Nat → Ho → Ho
  | 0, _, h => h
  | n + 1, p, h => clrP f g n (p + 1) (if (mAt h g p).1 = true ∧ (mAt h g p).2.1 = f then outP h g p else h)
def clrG (f : Int) : Nat → Nat → Ho → Ho
  | 0, _, h => h
  | n + 1, g, h => clrG f n (g + 1) (clrP f g 6 0 h)
def clearF (h : Ho) (f : Int) : Ho := clrG f h.2.1.length 0 h
def firstGo (h : Ho) : Nat → Nat → Int
  | 0, _ => -1
  | n + 1, f => if users h (f : Int) = 0 then (f : Int) else firstGo h n (f + 1)
def first (h : Ho) : Int := firstGo h 8 0
def putP (h : Ho) (g p : Nat) (f : Int) : Ho :=
  (h.1.set f.toNat (List.getD (gAt h g).2.1 p []), modAt h.2.1 g g0 fun x => (x.1.set p (true, f, true), x.2.1.set p [0, 0, 0, 0], x.2.2), h.2.2)
def clearH (h : Ho) : Ho := clearF (h.1, h.2.1, (h.2.2 + 1) % 8) h.2.2
def inP (h : Ho) (g p : Nat) : Ho :=
  if (mAt h g p).1 = true then h else if first h < 0 then putP (clearH h) g p h.2.2 else putP h g p (first h)
def ownP (h : Ho) (g p : Nat) : Ho :=
  if (mAt (inP h g p) g p).2.2 = true then inP h g p
  else if users (inP h g p) (mAt (inP h g p) g p).2.1 = 1 then upG (inP h g p) g fun x => (modAt x.1 p e0 fun m => (m.1, m.2.1, true), x.2)
  else inP (outP (inP h g p) g p) g p
def readP (h : Ho) (g p o : Nat) : Ho × Int := (inP h g p, List.getD (List.getD (inP h g p).1 (mAt (inP h g p) g p).2.1.toNat []) o 0)
def wr2 (fr : Mm) (f : Int) (o : Nat) (w : Int) : Mm := fr.set f.toNat ((List.getD fr f.toNat []).set o w)
def rd2 (fr : Mm) (f : Int) (o : Nat) : Int := List.getD (List.getD fr f.toNat []) o 0
def writeP (h : Ho) (g p o : Nat) (w : Int) : Ho × Int :=
  ((wr2 (ownP h g p).1 (mAt (ownP h g p) g p).2.1 o w, (ownP h g p).2), rd2 (ownP h g p).1 (mAt (ownP h g p) g p).2.1 o)
def walkP (h : Ho) (g p : Nat) : Ho × E := ((readP h g (p / 4) (p % 4)).1, entryOf (readP h g (p / 4) (p % 4)).2)
def sAt (h : Ho) (g p : Nat) : Sh := List.getD (gAt h g).2.2 p s0
def setS (h : Ho) (g p : Nat) (s : Sh) : Ho := upG h g fun x => (x.1, x.2.1, x.2.2.set p s)
def readIn (h : Ho) (g p o : Nat) : Ho × Int :=
  if (sAt h g p).1 = true then (h, rd2 h.1 (sAt h g p).2.2.1 o)
  else if (walkP h g p).2.1 = false then ((walkP h g p).1, -1)
  else (setS (inP (walkP h g p).1 g (walkP h g p).2.2.1.toNat) g p (true, (walkP h g p).2.2.1, (mAt (inP (walkP h g p).1 g (walkP h g p).2.2.1.toNat) g (walkP h g p).2.2.1.toNat).2.1, (walkP h g p).2.2.2 && (mAt (inP (walkP h g p).1 g (walkP h g p).2.2.1.toNat) g (walkP h g p).2.2.1.toNat).2.2),
    rd2 (inP (walkP h g p).1 g (walkP h g p).2.2.1.toNat).1 (mAt (inP (walkP h g p).1 g (walkP h g p).2.2.1.toNat) g (walkP h g p).2.2.1.toNat).2.1 o)
def wInH (h : Ho) (g p : Nat) : Ho × E := walkP (setS h g p s0) g p
def wInO (h : Ho) (g p : Nat) : Ho := ownP (wInH h g p).1 g (wInH h g p).2.2.1.toNat
def wInF (h : Ho) (g p : Nat) : Int := (mAt (wInO h g p) g (wInH h g p).2.2.1.toNat).2.1
def writeIn (h : Ho) (g p o : Nat) (w : Int) : Ho × Int :=
  if (sAt h g p).1 = true ∧ (sAt h g p).2.2.2 = true then ((wr2 h.1 (sAt h g p).2.2.1 o w, h.2), rd2 h.1 (sAt h g p).2.2.1 o)
  else if (wInH h g p).2.1 = false then ((wInH h g p).1, -1)
  else if (wInH h g p).2.2.2 = false then ((wInH h g p).1, -2)
  else ((wr2 (wInO h g p).1 (wInF h g p) o w, (setS (wInO h g p) g p (true, (wInH h g p).2.2.1, wInF h g p, true)).2), rd2 (wInO h g p).1 (wInF h g p) o)
def shareP (a b : Int) (g : Nat) : Nat → Nat → Ho → Ho
  | 0, _, h => h
  | n + 1, p, h => shareP a b g n (p + 1) (if (mAt h g p).1 = true ∧ ((mAt h g p).2.1 = a ∨ (mAt h g p).2.1 = b) then upG h g fun x => (x.1.set p (true, b, false), x.2.1, x.2.2.map (clr (p : Int))) else h)
def shareG (a b : Int) : Nat → Nat → Ho → Ho
  | 0, _, h => h
  | n + 1, g, h => shareG a b n (g + 1) (shareP a b g 6 0 h)
def share (h : Ho) (a b : Int) : Ho := shareG a b h.2.1.length 0 h
def canJoin (h : Ho) (a b : Nat) : Bool := decide (users h (a : Int) > 0) && decide (users h (b : Int) > 0) && eqI (List.getD h.1 a []) (List.getD h.1 b [])
def joinIn (h : Ho) (a : Nat) : Nat → Nat → Option Ho
  | 0, _ => none
  | n + 1, b => if canJoin h a b = true then some (share h (b : Int) (a : Int)) else joinIn h a n (b + 1)
def joinGo (h : Ho) : Nat → Nat → Option Ho
  | 0, _ => none
  | n + 1, a => match joinIn h a (8 - (a + 1)) (a + 1) with
    | some x => some x
    | none => joinGo h n (a + 1)
def join (h : Ho) : Ho × Bool := match joinGo h 8 0 with
  | some x => (x, true)
  | none => (h, false)
def moveP (a b : Int) (g : Nat) : Nat → Nat → Ho → Ho
  | 0, _, h => h
  | n + 1, p, h => moveP a b g n (p + 1) (if (mAt h g p).1 = true ∧ (mAt h g p).2.1 = a then upG h g fun x => (modAt x.1 p e0 fun m => (m.1, b, m.2.2), x.2.1, x.2.2.map (clr (p : Int))) else h)
def moveG (a b : Int) : Nat → Nat → Ho → Ho
  | 0, _, h => h
  | n + 1, g, h => moveG a b n (g + 1) (moveP a b g 6 0 h)
def move (h : Ho) (f : Int) : Ho × Bool :=
  if first h < 0 ∨ users h f = 0 then (h, false) else (moveG f (first h) h.2.1.length 0 (h.1.set (first h).toNat (List.getD h.1 f.toNat []), h.2), true)
def newFr : Mm := List.replicate 8 [0, 0, 0, 0]
def hn0 : Ho := (newFr, [], 0)
def newG (m : Mm) : Gt := (List.replicate 6 e0, m, List.replicate 6 s0)
def hNew (n : Int) : Ho × Bool := if within n 1 2 = true then ((newFr, List.replicate n.toNat (newG (memNew 6)), 0), true) else (h0, false)
def carryG (fr : Mm) (l : List Gt) : List Gt := l.map fun g => newG (seeG fr g)
def carry (h : Ho) : Ho := (newFr, carryG h.1 h.2.1, 0)
def doG (h : Ho) (a : A) : Ho × Int :=
  if a.1 = 5 then (forget h a.2.1, 0)
  else if within a.2.2.1 0 5 = false ∨ within a.2.2.2.1 0 3 = false then (h, -3)
  else if a.1 = 1 then readP h a.2.1.toNat a.2.2.1.toNat a.2.2.2.1.toNat
  else if a.1 = 3 then readIn h a.2.1.toNat a.2.2.1.toNat a.2.2.2.1.toNat
  else if a.1 = 2 ∧ within a.2.2.2.2 0 63 = true then writeP h a.2.1.toNat a.2.2.1.toNat a.2.2.2.1.toNat a.2.2.2.2
  else if a.1 = 4 ∧ within a.2.2.2.2 0 63 = true then writeIn h a.2.1.toNat a.2.2.1.toNat a.2.2.2.1.toNat a.2.2.2.2
  else (h, -3)
def got (b : Bool) : Int := if b = true then 0 else -3
def doH (h : Ho) (a : A) : Ho × Int :=
  if a.1 = 6 then (if within a.2.1 0 ((h.2.1.length : Int) - 1) = true ∧ within a.2.2.1 0 5 = true then (outP h a.2.1.toNat a.2.2.1.toNat, 0) else (h, -3))
  else if a.1 = 7 then ((join h).1, got (join h).2)
  else if a.1 = 8 then (if within a.2.2.1 0 7 = true then ((move h a.2.2.1).1, got (move h a.2.2.1).2) else (h, -3))
  else if a.1 = 9 then (carry h, 0)
  else if within a.2.1 0 ((h.2.1.length : Int) - 1) = true ∧ own a = true then doG h a else (h, -3)
def plays2 : List A → Ho × Pg → Ho × Pg
  | [], s => s
  | a :: l, s => plays2 l ((doH s.1 a).1, s.2 ++ [(doH s.1 a).2])
def hPlay (n : Int) (l : List A) : Ho × Pg := if (hNew n).2 = false ∨ l.length > 60 then (h0, []) else plays2 l ((hNew n).1, [])
/-- The shape that all keep. -/
def shG (g : Gt) : Prop := szOk g = true ∧ (∀ i, i < 6 → (List.getD g.1 i e0).1 = true → 0 ≤ (List.getD g.1 i e0).2.1 ∧ (List.getD g.1 i e0).2.1 ≤ 7) ∧ ∀ i, i < 6 → (List.getD g.2.2 i s0).1 = true → 0 ≤ (List.getD g.2.2 i s0).2.2.1 ∧ (List.getD g.2.2 i s0).2.2.1 ≤ 7
def shH (h : Ho) : Prop := preOk h = true ∧ ∀ i, i < h.2.1.length → shG (List.getD h.2.1 i g0)
end Go.Cm
namespace Go.Am
open Go.Cm (R rdOk)
abbrev inG (h : Cm.Ho) (g : Int) : Prop := 0 ≤ g ∧ g < (h.2.1.length : Int)
abbrev ohi (x : Cm.Ho × Int) : Alt := ⟨[], .cons (.own kH) (.cons (.vw kI) .nil), [⟨kH, x.1⟩, ⟨kI, x.2⟩]⟩
abbrev ohb (x : Cm.Ho × Bool) : Alt := ⟨[], .cons (.own kH) (.cons (.vw .bool) .nil), [⟨kH, x.1⟩, ⟨.bool, x.2⟩]⟩
abbrev inS (h : Cm.Ho) (g p : Int) : Prop := Cm.shH h ∧ inG h g ∧ 0 ≤ p ∧ p ≤ 5
def sPageS : FSpec := sp3 [pv kH, pv kI, pv kI] kH kI kI (fun h g p => inS h g p) fun h g p => ⟨[], .own kP, [⟨kP, Cm.pageG h.1 (Cm.gAt h g.toNat) p.toNat⟩]⟩
def sForgetPT : FSpec := sp3 [.take kH, pv kI, pv kI] kH kI kI (fun h g p => inS h g p) fun h g p => oh (Cm.forgetP h g.toNat p)
def sOutT : FSpec := sp3 [.take kH, pv kI, pv kI] kH kI kI (fun h g p => inS h g p) fun h g p => oh (Cm.outP h g.toNat p.toNat)
def sClearT : FSpec := sp2 [.take kH, pv kI] kH kI (fun h _ => Cm.shH h) fun h f => oh (Cm.clearF h f)
def sFirst : FSpec := sp1 [pv kH] kH (fun h => Cm.bdH h) fun h => vi (Cm.first h)
def sInT : FSpec := sp3 [.take kH, pv kI, pv kI] kH kI kI (fun h g p => inS h g p) fun h g p => oh (Cm.inP h g.toNat p.toNat)
def sOwnT : FSpec := sp3 [.take kH, pv kI, pv kI] kH kI kI (fun h g p => inS h g p) fun h g p => oh (Cm.ownP h g.toNat p.toNat)
def sReadT : FSpec := sp4 [.take kH, pv kI, pv kI, pv kI] kH kI kI kI (fun h g p o => inS h g p ∧ 0 ≤ o ∧ o ≤ 3) fun h g p o => ohi (Cm.readP h g.toNat p.toNat o.toNat)
def sWriteT : FSpec := sp5 [.take kH, pv kI, pv kI, pv kI, pv kI] kH kI kI kI kI (fun h g p o w => (inS h g p ∧ 0 ≤ o ∧ o ≤ 3) ∧ 0 ≤ w ∧ w ≤ 63) fun h g p o w => ohi (Cm.writeP h g.toNat p.toNat o.toNat w)
def sWalkT : FSpec := sp3 [.take kH, pv kI, pv kI] kH kI kI (fun h g p => inS h g p) fun h g p => ⟨[], .cons (.own kH) (.cons (.vw kE) .nil), [⟨kH, (Cm.walkP h g.toNat p.toNat).1⟩, ⟨kE, (Cm.walkP h g.toNat p.toNat).2⟩]⟩
def sReadInT : FSpec := sp4 [.take kH, pv kI, pv kI, pv kI] kH kI kI kI (fun h g p o => inS h g p ∧ 0 ≤ o ∧ o ≤ 3) fun h g p o => ohi (Cm.readIn h g.toNat p.toNat o.toNat)
def sWriteInT : FSpec := sp5 [.take kH, pv kI, pv kI, pv kI, pv kI] kH kI kI kI kI (fun h g p o w => (inS h g p ∧ 0 ≤ o ∧ o ≤ 3) ∧ 0 ≤ w ∧ w ≤ 63) fun h g p o w => ohi (Cm.writeIn h g.toNat p.toNat o.toNat w)
def sShareT : FSpec := sp3 [.take kH, pv kI, pv kI] kH kI kI (fun h a b => Cm.shH h ∧ (0 ≤ a ∧ a ≤ 7) ∧ 0 ≤ b ∧ b ≤ 7) fun h a b => oh (Cm.share h a b)
def sSame : FSpec := sp2 [pv kP, pv kP] kP kP (fun a b => a.length = 4 ∧ b.length = 4) fun a b => vb (Cm.eqI a b)
def sJoinT : FSpec := sp1 [.take kH] kH (fun h => Cm.shH h) fun h => ohb (Cm.join h)
def sMoveT : FSpec := sp2 [.take kH, pv kI] kH kI (fun h f => Cm.shH h ∧ 0 ≤ f ∧ f ≤ 7) fun h f => ohb (Cm.move h f)
def sHNew0 : FSpec := sp0 [] True ⟨[], .own kH, [⟨kH, Cm.hn0⟩]⟩
def sGuestN : FSpec := sp1 [pv kM] kM Cm.bd fun m => ⟨[], .own kG, [⟨kG, Cm.newG m⟩]⟩
def sHostNew : FSpec := sp1 [pv kI] kI (fun _ => True) fun n => ohb (Cm.hNew n)
def sCarryS : FSpec := sp1 [pv kH] kH (fun h => Cm.shH h) fun h => oh (Cm.carry h)
def sSeeS : FSpec := sp2 [pv kH, pv kI] kH kI (fun h g => Cm.shH h ∧ inG h g) fun h g => om (Cm.see h g)
def sGot : FSpec := sp1 [pv .bool] .bool (fun _ => True) fun b => vi (Cm.got b)
def sDoG : FSpec := sp2 [.take kH, pv kA] kH kA (fun h a => Cm.shH h ∧ inG h a.2.1 ∧ Cm.own a = true) fun h a => ohi (Cm.doG h a)
def sDoH : FSpec := sp2 [.take kH, pv kA] kH kA (fun h _ => Cm.shH h) fun h a => ohi (Cm.doH h a)
def sHPlay : FSpec := sp2 [pv kI, pv kAs] kI kAs (fun _ l => l.length ≤ 16777216) fun n l => ⟨[], .cons (.own kH) (.cons (.own kP) .nil), [⟨kH, (Cm.hPlay n l).1⟩, ⟨kP, (Cm.hPlay n l).2⟩]⟩
end Go.Am

