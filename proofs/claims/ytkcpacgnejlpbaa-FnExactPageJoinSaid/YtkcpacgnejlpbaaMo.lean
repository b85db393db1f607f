/-
  What the functions compute, in plain Lean, and small laws of that; no condition beside those that each law names.
-/
import Derived.Test.YtkcpacgnejlpbaaBm3
set_option linter.all false
set_option maxHeartbeats 0
namespace Go.Cm
abbrev A := Int × Int × Int × Int × Int
def a0 : A := (0, 0, 0, 0, 0)
def modAt {α : Type} (l : List α) (n : Nat) (d : α) (f : α → α) : List α := l.set n (f (l.getD n d))
def szL {α : Type} (l : List α) (left : Int) : Int := if IntKind.i64.wrap (left - (l.length : Int)) < 0 then -1 else IntKind.i64.wrap (left - (l.length : Int))
def within (n lo hi : Int) : Bool := decide (lo ≤ n) && decide (n ≤ hi)
def own (a : A) : Bool := within a.1 1 5
def fill {α : Type} (d : α) (l : List α) (i : Nat) : List α := l.take i ++ List.replicate (l.length - i) d
abbrev Rd := List Int × Int
abbrev R := Rd
def rdOk (r : R) (m : Int) : Prop := (r.1.length ≤ 2000 ∧ ∀ i, i < r.1.length → 0 ≤ r.1.getD i 0 ∧ r.1.getD i 0 ≤ 255) ∧ 0 ≤ r.2 ∧ r.2 ≤ m
end Go.Cm
namespace Go.Am
open Go.Cm (R rdOk)
abbrev kI : K := .int .i64
abbrev pv (k : K) : Pat := .q (.val k)
abbrev ps (k : K) : Pat := .q (.vs k)
def sWithin : FSpec := sp3 [pv kI, pv kI, pv kI] kI kI kI (fun _ _ _ => True) fun n lo hi => ⟨[], .vw .bool, [⟨.bool, Cm.within n lo hi⟩]⟩
def sSz (k : K) : FSpec := sp2 [pv (.sl k), pv kI] (.sl k) kI (fun _ _ => True) fun l n => ⟨[], .vw kI, [⟨kI, Cm.szL l n⟩]⟩
def sTo (k : K) (P : List k.T → Prop) : FSpec := sp1 [pv (.sl k)] (.sl k) P fun a => ⟨[], .own (.sl k), [⟨.sl k, a⟩]⟩
end Go.Am
namespace Go.Cm
theorem wrap_id {x : Int} (h1 : -9223372036854775808 ≤ x) (h2 : x < 9223372036854775808) : IntKind.wrap .i64 x = x := by
  simp [IntKind.wrap, IntKind.signed, IntKind.bits]
  omega
theorem drop_getD {α : Type} {l : List α} {i : Nat} (d : α) (h : i < l.length) : l.drop i = l.getD i d :: l.drop (i + 1) := by
  rw [List.drop_eq_getElem_cons h]; simp [List.getD, h]
theorem fill_len {α : Type} (d : α) (l : List α) {i : Nat} (h : i ≤ l.length) : (fill d l i).length = l.length := by simp [fill]; omega
theorem fill_zero {α : Type} (d : α) (l : List α) : fill d l 0 = List.replicate l.length d := by simp [fill]
theorem fill_all {α : Type} (d : α) (l : List α) {i : Nat} (h : l.length ≤ i) : fill d l i = l := by simp [fill, List.take_of_length_le h, Nat.sub_eq_zero_of_le h]
theorem fill_set {α : Type} (d e : α) (l : List α) {i : Nat} (h : i < l.length) : (fill d l i).set i (l.getD i e) = fill d l (i + 1) := by
  apply List.ext_getElem?
  intro j
  simp only [fill, List.getElem?_set, List.getElem?_append, List.getElem?_take, List.getElem?_replicate, List.length_append, List.length_take, List.length_replicate, List.getD]
  repeat' split
  all_goals first | rfl | omega | (subst_vars; simp; try omega) | skip
  all_goals try (simp [*]; try omega)
  rw [List.getElem?_eq_getElem (by omega)]; simp
theorem modAt_len {α : Type} (l : List α) (n : Nat) (d : α) (f : α → α) : (modAt l n d f).length = l.length := by simp [modAt]
theorem modAt_mid {α : Type} {l r : List α} {i : Nat} (x d : α) (f : α → α) (h : l.length = i) : modAt (l ++ x :: r) i d f = l ++ f x :: r := by
  subst h; simp [modAt, List.getD]
end Go.Cm
namespace Go.Cm
theorem take_succ_getD {α : Type} (d : α) {l : List α} {i : Nat} (h : i < l.length) : l.take (i + 1) = l.take i ++ [l.getD i d] := by
  rw [List.take_add_one]; simp [List.getD, h]
abbrev f1 : A := (5, 1, 0, 0, 0)
end Go.Cm
namespace Go.Cm
abbrev Pg := List Int
abbrev Mm := List (List Int)
abbrev E := Bool × Int × Bool
def e0 : E := (false, 0, false)
def bd (m : Mm) : Prop := m.length ≤ 1048576 ∧ ∀ i, i < m.length → (m.getD i []).length ≤ 1048576
def wfM (m : Mm) : Prop := m.length ≤ 9223372036854775807 ∧ ∀ i, i < m.length → (m.getD i []).length ≤ 9223372036854775807
def szGo : Mm → Int → Int
  | [], n => n
  | a :: m, n => if szL a n < 0 then -1 else szGo m (szL a n)
def szLL (m : Mm) (n : Int) : Int := if IntKind.i64.wrap (n - (m.length : Int)) < 0 then -1 else szGo m (IntKind.i64.wrap (n - (m.length : Int)))
def eqI (a b : Pg) : Bool := decide (a = b)
def eqM (a b : Mm) : Bool := decide (a = b)
def upFrom (k : Int) : Nat → Pg
  | 0 => []
  | n + 1 => k :: upFrom (k + 1) n
def markM : Mm → Int → Mm
  | [], _ => []
  | a :: m, k => upFrom k a.length :: markM m (k + (a.length : Int))
def cnt : Mm → Int
  | [] => 0
  | a :: m => (a.length : Int) + cnt m
def heldI (a : Pg) (k : Int) : Int := if a = upFrom k a.length then k + (a.length : Int) else -1
def heldM (m : Mm) (k : Int) : Int := if m = markM m k then k + cnt m else -1
def allW : Pg → Bool
  | [] => true
  | w :: l => within w 0 63 && allW l
def okP (a : Pg) : Bool := allW a && decide (a.length = 4)
def okM : Mm → Bool
  | [] => true
  | a :: m => okP a && okM m
def okG (m : Mm) : Bool := okM m && decide (m.length = 6)
def set2 (m : Mm) (p o w : Int) : Mm := m.set p.toNat ((m.getD p.toNat []).set o.toNat w)
end Go.Cm
namespace Go.Am
open Go.Cm (R rdOk)
abbrev kP : K := .sl kI
abbrev kM : K := .sl kP
abbrev kE : K := .pair .bool (.pair kI .bool)
abbrev kEs : K := .sl kE
abbrev nn (n : Int) : AV := .int .i64 n
abbrev rf (i : Nat) : AV := .rf (1000 + i) 0 0 []
abbrev rt (i : Nat) (k : K) (xs : List k.T) : Nat × RootV := (1000 + i, ⟨0, 0, some ⟨k, xs, true⟩, none⟩)
abbrev pb (i : Nat) : AV := .pb (1000 + i) 0 []
abbrev bxv (i : Nat) (k : K) (x : k.T) : Nat × BoxV := (1000 + i, ⟨0, some (opnV k x), false⟩)
abbrev vb (b : Bool) : Alt := ⟨[], .vw .bool, [⟨.bool, b⟩]⟩
abbrev vi (n : Int) : Alt := ⟨[], .vw kI, [⟨kI, n⟩]⟩
def sSzM : FSpec := sp2 [pv kM, pv kI] kM kI (fun m n => Cm.wfM m ∧ 0 ≤ n ∧ n ≤ 1048576) fun m n => vi (Cm.szLL m n)
def sToM : FSpec := sTo kP Cm.bd
def sToP : FSpec := sTo kI fun l => l.length ≤ 1048576
def sEqP : FSpec := sp2 [pv kP, pv kP] kP kP (fun a _ => a.length ≤ 1048576) fun a b => vb (Cm.eqI a b)
def sEqM : FSpec := sp2 [pv kM, pv kM] kM kM (fun a _ => Cm.bd a) fun a b => vb (Cm.eqM a b)
def sMarkP : FSpec := sp2 [.own kP, pv kI] kP kI (fun a k => a.length ≤ 1048576 ∧ 0 ≤ k ∧ k ≤ 1152921504606846976) fun a k => ⟨[⟨kP, Cm.upFrom k a.length⟩], .vw kI, [⟨kI, k + (a.length : Int)⟩]⟩
def sMarkM : FSpec := sp2 [.own kM, pv kI] kM kI (fun a k => Cm.bd a ∧ 0 ≤ k ∧ k ≤ 1099511627776) fun a k => ⟨[⟨kM, Cm.markM a k⟩], .vw kI, [⟨kI, k + Cm.cnt a⟩]⟩
def sHeldP : FSpec := sp2 [pv kP, pv kI] kP kI (fun a k => a.length ≤ 1048576 ∧ 0 ≤ k ∧ k ≤ 1152921504606846976) fun a k => vi (Cm.heldI a k)
def sHeldM : FSpec := sp2 [pv kM, pv kI] kM kI (fun a k => Cm.bd a ∧ 0 ≤ k ∧ k ≤ 1099511627776) fun a k => vi (Cm.heldM a k)
def sOkP : FSpec := sp1 [pv kP] kP (fun a => a.length ≤ 1048576) fun a => vb (Cm.okP a)
def sOkM : FSpec := sp1 [pv kM] kM Cm.bd fun a => vb (Cm.okM a)
def sOkG : FSpec := sp1 [pv kM] kM Cm.bd fun a => vb (Cm.okG a)
end Go.Am
namespace Go.Cm
theorem szL_eq {α : Type} {l : List α} {n : Int} (h : 0 ≤ n ∧ n ≤ 1048576) (hl : l.length ≤ 9223372036854775807) : szL l n = if n - (l.length : Int) < 0 then -1 else n - (l.length : Int) := by
  unfold szL; rw [wrap_id (by omega) (by omega)]
theorem eqI_cons (x y : Int) (l m : Pg) : eqI (x :: l) (y :: m) = (decide (x = y) && eqI l m) := by
  unfold eqI; by_cases h : x = y <;> by_cases g : l = m <;> simp [h, g]
theorem eqM_cons (x y : Pg) (l m : Mm) : eqM (x :: l) (y :: m) = (eqI x y && eqM l m) := by
  unfold eqM eqI; by_cases h : x = y <;> by_cases g : l = m <;> simp [h, g]
theorem eqI_len {a b : Pg} (h : a.length ≠ b.length) : eqI a b = false := by
  unfold eqI; rw [decide_eq_false]; intro e; exact h (by rw [e])
theorem eqM_len {a b : Mm} (h : a.length ≠ b.length) : eqM a b = false := by
  unfold eqM; rw [decide_eq_false]; intro e; exact h (by rw [e])
theorem upFrom_len : ∀ (k : Int) (n : Nat), (upFrom k n).length = n
  | _, 0 => rfl
  | k, n + 1 => by rw [upFrom, List.length_cons, upFrom_len]
theorem upFrom_succ : ∀ (k : Int) (n : Nat), upFrom k (n + 1) = upFrom k n ++ [k + n]
  | k, 0 => by simp [upFrom]
  | k, n + 1 => by
    rw [upFrom, upFrom_succ (k + 1) n, upFrom, List.cons_append]
    congr 3; omega
theorem upFrom_take : ∀ (k : Int) (i r : Nat), (upFrom k (i + r)).take i = upFrom k i
  | _, 0, _ => by simp [upFrom]
  | k, i + 1, r => by rw [show i + 1 + r = (i + r) + 1 by omega, upFrom, List.take_succ_cons, upFrom_take]; rfl
theorem set_mid {α : Type} {l r : List α} {i : Nat} (x y : α) (h : l.length = i) : (l ++ x :: r).set i y = l ++ y :: r := by
  subst h; simp
theorem getD_mid {α : Type} {l r : List α} {i : Nat} (x d : α) (h : l.length = i) : (l ++ x :: r).getD i d = x := by
  subst h; simp [List.getD]
theorem markM_len : ∀ (m : Mm) (k : Int), (markM m k).length = m.length
  | [], _ => rfl
  | a :: m, k => by rw [markM, List.length_cons, List.length_cons, markM_len]
theorem cnt_append : ∀ (l m : Mm), cnt (l ++ m) = cnt l + cnt m
  | [], m => by simp [cnt]
  | a :: l, m => by rw [List.cons_append, cnt, cnt, cnt_append]; omega
theorem cnt_one (a : Pg) : cnt [a] = (a.length : Int) := by simp [cnt]
theorem markM_append : ∀ (l m : Mm) (k : Int), markM (l ++ m) k = markM l k ++ markM m (k + cnt l)
  | [], m, k => by simp [markM, cnt]
  | a :: l, m, k => by
    rw [List.cons_append, markM, markM, cnt, markM_append, List.cons_append, Int.add_assoc]
theorem cnt_nn : ∀ m : Mm, 0 ≤ cnt m
  | [] => by simp [cnt]
  | a :: m => by have := cnt_nn m; rw [cnt]; omega
theorem cnt_le : ∀ {m : Mm}, (∀ i, i < m.length → (m.getD i []).length ≤ 1048576) → cnt m ≤ 1048576 * (m.length : Int)
  | [], _ => by simp [cnt]
  | a :: m, h => by
    have h0 : a.length ≤ 1048576 := h 0 (by simp)
    have h1 := cnt_le (m := m) fun i hi => h (i + 1) (by simpa using hi)
    rw [cnt, List.length_cons]; omega
theorem cnt_take_le {m : Mm} (h : bd m) (i : Nat) : cnt (m.take i) ≤ 1099511627776 := by
  obtain ⟨h1, h2⟩ := h
  have h3 : cnt (m.take i) + cnt (m.drop i) = cnt m := by rw [← cnt_append, List.take_append_drop]
  have h4 := cnt_nn (m.drop i)
  have h5 := cnt_le h2
  omega
theorem markM_mark : ∀ (m : Mm) (k : Int), markM (markM m k) k = markM m k
  | [], _ => rfl
  | a :: m, k => by rw [markM, markM, upFrom_len, markM_mark]
theorem cnt_mark : ∀ (m : Mm) (k : Int), cnt (markM m k) = cnt m
  | [], _ => rfl
  | a :: m, k => by rw [markM, cnt, cnt, upFrom_len, cnt_mark]
theorem okG_len {m : Mm} (h : okG m = true) : m.length = 6 := by unfold okG at h; simp at h; exact h.2
theorem okM_get : ∀ {m : Mm}, okM m = true → ∀ i, i < m.length → okP (m.getD i []) = true
  | [], _, i, hi => by simp at hi
  | a :: m, h, i, hi => by
    rw [okM, Bool.and_eq_true] at h
    cases i with
    | zero => exact h.1
    | succ i => exact okM_get (m := m) h.2 i (by simpa using hi)
theorem okP_len {a : Pg} (h : okP a = true) : a.length = 4 := by unfold okP at h; simp at h; exact h.2
theorem okG_row {m : Mm} (h : okG m = true) {i : Nat} (hi : i < 6) : (m.getD i []).length = 4 := by
  have h1 : okM m = true := by unfold okG at h; simp at h; exact h.1
  exact okP_len (okM_get h1 i (by rw [okG_len h]; exact hi))
theorem allW_get : ∀ {a : Pg}, allW a = true → ∀ i, i < a.length → 0 ≤ a.getD i 0 ∧ a.getD i 0 ≤ 63
  | [], _, i, hi => by simp at hi
  | w :: a, h, i, hi => by
    rw [allW, Bool.and_eq_true] at h
    cases i with
    | zero => simpa [within] using h.1
    | succ i => exact allW_get (a := a) h.2 i (by simpa using hi)
theorem okP_get {a : Pg} (h : okP a = true) (i : Nat) : 0 ≤ a.getD i 0 ∧ a.getD i 0 ≤ 63 := by
  by_cases c : i < a.length
  · unfold okP at h; rw [Bool.and_eq_true] at h; exact allW_get h.1 i c
  · simp [List.getD, List.getElem?_eq_none (Nat.le_of_not_lt c)]
theorem okG_okP {m : Mm} (h : okG m = true) {i : Nat} (hi : i < 6) : okP (m.getD i []) = true := by
  have h1 : okM m = true := by unfold okG at h; simp at h; exact h.1
  exact okM_get h1 i (by rw [okG_len h]; exact hi)
end Go.Cm
namespace Go.Cm
end Go.Cm
namespace Go.Am
open Go.Cm (R rdOk)
end Go.Am
namespace Go.Cm
abbrev Sh := Bool × Int × Int × Bool
abbrev Gt := List E × Mm × List Sh
abbrev Ho := Mm × List Gt × Int
def s0 : Sh := (false, 0, 0, false)
def g0 : Gt := ([], [], [])
def h0 : Ho := ([], [], 0)
def bdG (g : Gt) : Prop := g.1.length ≤ 1048576 ∧ bd g.2.1 ∧ g.2.2.length ≤ 1048576
def bdGs (l : List Gt) : Prop := l.length ≤ 1048576 ∧ ∀ i, i < l.length → bdG (l.getD i g0)
def bdH (h : Ho) : Prop := bd h.1 ∧ bdGs h.2.1
def wfG (g : Gt) : Prop := g.1.length ≤ 9223372036854775807 ∧ wfM g.2.1 ∧ g.2.2.length ≤ 9223372036854775807
def wfGs (l : List Gt) : Prop := l.length ≤ 9223372036854775807 ∧ ∀ i, i < l.length → wfG (l.getD i g0)
def wfH (h : Ho) : Prop := wfM h.1 ∧ wfGs h.2.1
def szT (t n : Int) : Int := if n - t < 0 then -1 else n - t
def totM (m : Mm) : Int := (m.length : Int) + cnt m
def totG (g : Gt) : Int := (g.1.length : Int) + totM g.2.1 + (g.2.2.length : Int)
def totS : List Gt → Int
  | [] => 0
  | g :: l => totG g + totS l
def totGs (l : List Gt) : Int := (l.length : Int) + totS l
def totH (h : Ho) : Int := totM h.1 + totGs h.2.1
def eqE (a b : E) : Bool := decide (a = b)
def eqS (a b : Sh) : Bool := decide (a = b)
def eqEs (a b : List E) : Bool := decide (a = b)
def eqSs (a b : List Sh) : Bool := decide (a = b)
noncomputable def eqG (a b : Gt) : Bool := @decide (a = b) (Classical.propDecidable _)
noncomputable def eqGs (a b : List Gt) : Bool := @decide (a = b) (Classical.propDecidable _)
noncomputable def eqH (a b : Ho) : Bool := @decide (a = b) (Classical.propDecidable _)
def m3 (k : Int) : Bool := k % 3 == 0
def mkEs (k : Int) : Nat → List E
  | 0 => []
  | n + 1 => (m3 k, k + 1, m3 (k + 2)) :: mkEs (k + 3) n
def mkSs (k : Int) : Nat → List Sh
  | 0 => []
  | n + 1 => (m3 k, k + 1, k + 2, m3 (k + 3)) :: mkSs (k + 4) n
def cntG (g : Gt) : Int := 3 * (g.1.length : Int) + cnt g.2.1 + 4 * (g.2.2.length : Int)
def cntS : List Gt → Int
  | [] => 0
  | g :: l => cntG g + cntS l
def mkG (g : Gt) (k : Int) : Gt := (mkEs k g.1.length, markM g.2.1 (k + 3 * (g.1.length : Int)), mkSs (k + 3 * (g.1.length : Int) + cnt g.2.1) g.2.2.length)
def mkGs : List Gt → Int → List Gt
  | [], _ => []
  | g :: l, k => mkG g k :: mkGs l (k + cntG g)
def mkH (h : Ho) (k : Int) : Ho := (markM h.1 k, mkGs h.2.1 (k + cnt h.1), h.2.2)
def cntH (h : Ho) : Int := cnt h.1 + cntS h.2.1
def useM (f : Int) : List E → Int
  | [] => 0
  | m :: l => (if m.1 = true ∧ m.2.1 = f then 1 else 0) + useM f l
def useG (f : Int) : List Gt → Int
  | [] => 0
  | g :: l => useM f g.1 + useG f l
def users (h : Ho) (f : Int) : Int := useG f h.2.1
def blank : Pg → Bool
  | [] => true
  | w :: l => (w == 0) && blank l
def idxNZ : Pg → Int → Int
  | [], _ => -1
  | w :: l, i => if w = 0 then idxNZ l (i + 1) else i
def mapOk (u : Int → Int) (m : E) (d : Pg) : Bool :=
  if m.1 = false then eqE m e0 else (within m.2.1 0 7 && blank d) && (!m.2.2 || decide (u m.2.1 ≤ 1))
def shOk (ms : List E) (s : Sh) : Bool :=
  if s.1 = false then eqS s s0 else within s.2.1 2 5 && ((List.getD ms s.2.1.toNat e0).1 && decide ((List.getD ms s.2.1.toNat e0).2.1 = s.2.2.1) && (!s.2.2.2 || (List.getD ms s.2.1.toNat e0).2.2))
def mapsOk (u : Int → Int) : List E → Mm → Bool
  | m :: l, d :: k => mapOk u m d && mapsOk u l k
  | m :: l, [] => mapOk u m [] && mapsOk u l []
  | [], _ => true
def shsOk (ms : List E) : List Sh → Bool
  | [] => true
  | s :: l => shOk ms s && shsOk ms l
def szOk (g : Gt) : Bool := decide (g.1.length = 6) && decide (g.2.2.length = 6) && okG g.2.1
def gOk (u : Int → Int) (g : Gt) : Bool := szOk g && (mapsOk u g.1 g.2.1 && shsOk g.1 g.2.2)
def szsOk : List Gt → Bool
  | [] => true
  | g :: l => szOk g && szsOk l
def gsOk (u : Int → Int) : List Gt → Bool
  | [] => true
  | g :: l => gOk u g && gsOk u l
def preOk (h : Ho) : Bool := okM h.1 && decide (h.1.length = 8) && within (h.2.1.length : Int) 1 2 && within h.2.2 0 7
def hOk (h : Ho) : Bool := preOk h && gsOk (users h) h.2.1
def pageG (fr : Mm) (g : Gt) (p : Nat) : Pg := if (List.getD g.1 p e0).1 = true then fr.getD (List.getD g.1 p e0).2.1.toNat [] else g.2.1.getD p []
def seeG (fr : Mm) (g : Gt) : Mm := [pageG fr g 0, pageG fr g 1, pageG fr g 2, pageG fr g 3, pageG fr g 4, pageG fr g 5]
def see (h : Ho) (g : Int) : Mm := seeG h.1 (List.getD h.2.1 g.toNat g0)
end Go.Cm
namespace Go.Am
open Go.Cm (R rdOk)
abbrev kS : K := .pair .bool (.pair kI (.pair kI .bool))
abbrev kSs : K := .sl kS
abbrev kG : K := .pair kEs (.pair kM kSs)
abbrev kGs : K := .sl kG
abbrev kH : K := .pair kM (.pair kGs kI)
def sId (k : K) : FSpec := sp1 [pv k] k (fun _ => True) fun a => ⟨[], .vw k, [⟨k, a⟩]⟩
def sToL (k : K) : FSpec := sp1 [pv (.sl k)] (.sl k) (fun l => l.length ≤ 1048576) fun l => ⟨[], .own (.sl k), [⟨.sl k, l⟩]⟩
def sToG : FSpec := sp1 [pv kG] kG Cm.bdG fun g => ⟨[], .own kG, [⟨kG, g⟩]⟩
def sToGs : FSpec := sp1 [pv kGs] kGs Cm.bdGs fun g => ⟨[], .own kGs, [⟨kGs, g⟩]⟩
abbrev oh (h : Cm.Ho) : Alt := ⟨[], .own kH, [⟨kH, h⟩]⟩
def sToH : FSpec := sp1 [pv kH] kH Cm.bdH fun h => oh h
def sEqE : FSpec := sp2 [pv kE, pv kE] kE kE (fun _ _ => True) fun a b => vb (Cm.eqE a b)
def sEqS : FSpec := sp2 [pv kS, pv kS] kS kS (fun _ _ => True) fun a b => vb (Cm.eqS a b)
def sEqEs : FSpec := sp2 [pv kEs, pv kEs] kEs kEs (fun a _ => a.length ≤ 1048576) fun a b => vb (Cm.eqEs a b)
def sEqSs : FSpec := sp2 [pv kSs, pv kSs] kSs kSs (fun a _ => a.length ≤ 1048576) fun a b => vb (Cm.eqSs a b)
noncomputable def sEqG : FSpec := sp2 [pv kG, pv kG] kG kG (fun a _ => Cm.bdG a) fun a b => vb (Cm.eqG a b)
noncomputable def sEqGs : FSpec := sp2 [pv kGs, pv kGs] kGs kGs (fun a _ => Cm.bdGs a) fun a b => vb (Cm.eqGs a b)
noncomputable def sEqH : FSpec := sp2 [pv kH, pv kH] kH kH (fun a _ => Cm.bdH a) fun a b => vb (Cm.eqH a b)
def sSzG : FSpec := sp2 [pv kG, pv kI] kG kI (fun g n => Cm.wfG g ∧ 0 ≤ n ∧ n ≤ 1048576) fun g n => vi (Cm.szT (Cm.totG g) n)
def sSzGs : FSpec := sp2 [pv kGs, pv kI] kGs kI (fun g n => Cm.wfGs g ∧ 0 ≤ n ∧ n ≤ 1048576) fun g n => vi (Cm.szT (Cm.totGs g) n)
def sSzH : FSpec := sp2 [pv kH, pv kI] kH kI (fun g n => Cm.wfH g ∧ 0 ≤ n ∧ n ≤ 1048576) fun g n => vi (Cm.szT (Cm.totH g) n)
def sMarkEs : FSpec := sp2 [.own kEs, pv kI] kEs kI (fun a k => a.length ≤ 1048576 ∧ 0 ≤ k ∧ k ≤ 1099511627776) fun a k => ⟨[⟨kEs, Cm.mkEs k a.length⟩], .vw kI, [⟨kI, k + 3 * (a.length : Int)⟩]⟩
def sMarkSs : FSpec := sp2 [.own kSs, pv kI] kSs kI (fun a k => a.length ≤ 1048576 ∧ 0 ≤ k ∧ k ≤ 1099511627776) fun a k => ⟨[⟨kSs, Cm.mkSs k a.length⟩], .vw kI, [⟨kI, k + 4 * (a.length : Int)⟩]⟩
def sHeldEs : FSpec := sp2 [pv kEs, pv kI] kEs kI (fun a k => (a.length ≤ 1048576 ∧ a = Cm.mkEs k a.length) ∧ 0 ≤ k ∧ k ≤ 1099511627776) fun a k => vi (k + 3 * (a.length : Int))
def sHeldSs : FSpec := sp2 [pv kSs, pv kI] kSs kI (fun a k => (a.length ≤ 1048576 ∧ a = Cm.mkSs k a.length) ∧ 0 ≤ k ∧ k ≤ 1099511627776) fun a k => vi (k + 4 * (a.length : Int))
def sMarkGs : FSpec := sp2 [.own kGs, pv kI] kGs kI (fun a k => (Cm.bdGs a ∧ Cm.totGs a ≤ 1048576) ∧ 0 ≤ k ∧ k ≤ 1073741824) fun a k => ⟨[⟨kGs, Cm.mkGs a k⟩], .vw kI, [⟨kI, k + Cm.cntS a⟩]⟩
def sHeldGs : FSpec := sp2 [pv kGs, pv kI] kGs kI (fun a k => ((Cm.bdGs a ∧ Cm.totGs a ≤ 1048576) ∧ a = Cm.mkGs a k) ∧ 0 ≤ k ∧ k ≤ 1073741824) fun a k => vi (k + Cm.cntS a)
def sMarkH : FSpec := sp2 [.own kH, pv kI] kH kI (fun a k => (Cm.bdH a ∧ Cm.totH a ≤ 1048576) ∧ 0 ≤ k ∧ k ≤ 1048576) fun a k => ⟨[⟨kH, Cm.mkH a k⟩], .vw kI, [⟨kI, k + Cm.cntH a⟩]⟩
def sHeldH : FSpec := sp2 [pv kH, pv kI] kH kI (fun a k => ((Cm.bdH a ∧ Cm.totH a ≤ 1048576) ∧ a = Cm.mkH a k) ∧ 0 ≤ k ∧ k ≤ 1048576) fun a k => vi (k + Cm.cntH a)
def sUsers : FSpec := sp2 [pv kH, pv kI] kH kI (fun h _ => Cm.bdH h) fun h f => vi (Cm.users h f)
def sNZ : FSpec := sp1 [pv kI] kI (fun _ => True) fun w => vb (w != 0)
def sIndex (f : Nat) : FSpec := sp1 [pv kP, .q (.fn f .nil .nil)] kP (fun a => a.length ≤ 1048576) fun a => vi (Cm.idxNZ a 0)
def sContains (f : Nat) : FSpec := sp1 [pv kP, .q (.fn f .nil .nil)] kP (fun a => a.length ≤ 1048576) fun a => vb (!Cm.blank a)
def sBlank : FSpec := sp1 [pv kP] kP (fun a => a.length ≤ 1048576) fun a => vb (Cm.blank a)
def sMapOk : FSpec := sp3 [pv kH, pv kE, pv kP] kH kE kP (fun h m d => Cm.bdH h ∧ d.length ≤ 1048576 ∧ (m.1 = true → 1 ≤ Cm.users h m.2.1)) fun h m d => vb (Cm.mapOk (Cm.users h) m d)
def sShOk : FSpec := sp2 [pv kG, pv kS] kG kS (fun g _ => g.1.length = 6) fun g s => vb (Cm.shOk g.1 s)
def sGOk : FSpec := sp2 [pv kH, pv kG] kH kG (fun h g => Cm.bdH h ∧ Cm.bdG g) fun h g => vb (Cm.gOk (Cm.users h) g)
def sHOk : FSpec := sp1 [pv kH] kH Cm.bdH fun h => vb (Cm.hOk h)
end Go.Am
namespace Go.Cm
theorem szT_neg {t n : Int} : szT t n < 0 ↔ n - t < 0 := by unfold szT; split <;> omega
theorem szT_pos {t n : Int} (h : ¬ szT t n < 0) : szT t n = n - t := by unfold szT at h ⊢; split <;> simp_all
theorem szL_szT {α : Type} {l : List α} {n : Int} (h : 0 ≤ n ∧ n ≤ 1048576) (hl : l.length ≤ 9223372036854775807) : szL l n = szT l.length n := szL_eq h hl
theorem szGo_szT : ∀ {m : Mm} {n : Int}, 0 ≤ n ∧ n ≤ 1048576 → (∀ i, i < m.length → (m.getD i []).length ≤ 9223372036854775807) → szGo m n = szT (cnt m) n
  | [], n, h, _ => by unfold szGo szT cnt; rw [if_neg (by omega)]; omega
  | a :: m, n, h, hw => by
    have ha : a.length ≤ 9223372036854775807 := hw 0 (by simp)
    have c := cnt_nn m
    rw [szGo, szL_szT h ha, cnt]
    by_cases d : szT (a.length : Int) n < 0
    · rw [if_pos d]; rw [szT_neg] at d; unfold szT; rw [if_pos (by omega)]
    · rw [if_neg d]
      have e := szT_pos d
      rw [szT_neg] at d
      rw [e, szGo_szT ⟨by omega, by omega⟩ fun i hi => hw (i + 1) (by simpa using hi)]
      unfold szT; split <;> split <;> omega
theorem szLL_szT {m : Mm} {n : Int} (h : 0 ≤ n ∧ n ≤ 1048576) (hw : wfM m) : szLL m n = szT (totM m) n := by
  have c := cnt_nn m
  have h1 := hw.1
  unfold szLL totM
  rw [wrap_id (by omega) (by omega)]
  by_cases d : n - (m.length : Int) < 0
  · rw [if_pos d]; unfold szT; rw [if_pos (by omega)]
  · rw [if_neg d, szGo_szT ⟨by omega, by omega⟩ hw.2]
    unfold szT; split <;> split <;> omega
theorem totM_nn (m : Mm) : 0 ≤ totM m := by have := cnt_nn m; unfold totM; omega
theorem totG_nn (g : Gt) : 0 ≤ totG g := by have := totM_nn g.2.1; unfold totG; omega
theorem totS_nn : ∀ l : List Gt, 0 ≤ totS l
  | [] => by simp [totS]
  | g :: l => by have := totG_nn g; have := totS_nn l; rw [totS]; omega
theorem cnt_row : ∀ {m : Mm} {i : Nat}, i < m.length → ((m.getD i []).length : Int) ≤ cnt m
  | [], i, h => by simp at h
  | a :: m, i, h => by
    have c := cnt_nn m
    cases i with
    | zero => rw [cnt]; show (a.length : Int) ≤ _; omega
    | succ i => have := cnt_row (m := m) (i := i) (by simpa using h); rw [cnt]; show ((m.getD i []).length : Int) ≤ _; omega
theorem totM_bd {m : Mm} (h : totM m ≤ 1048576) : bd m := by
  have c := cnt_nn m
  unfold totM at h
  exact ⟨by omega, fun i hi => by have := cnt_row hi; omega⟩
theorem totG_bd {g : Gt} (h : totG g ≤ 1048576) : bdG g := by
  have c := totM_nn g.2.1
  unfold totG at h
  exact ⟨by omega, totM_bd (by omega), by omega⟩
theorem totS_get : ∀ {l : List Gt} {i : Nat}, i < l.length → totG (l.getD i g0) ≤ totS l
  | [], i, h => by simp at h
  | g :: l, i, h => by
    have a := totG_nn g
    have b := totS_nn l
    cases i with
    | zero => rw [totS]; show totG g ≤ _; omega
    | succ i => have := totS_get (l := l) (i := i) (by simpa using h); rw [totS]; show totG (l.getD i g0) ≤ _; omega
theorem totGs_bd {l : List Gt} (h : totGs l ≤ 1048576) : bdGs l := by
  have b := totS_nn l
  unfold totGs at h
  exact ⟨by omega, fun i hi => totG_bd (by have := totS_get hi; omega)⟩
theorem totH_bd {h : Ho} (e : totH h ≤ 1048576) : bdH h := by
  have a := totM_nn h.1
  have b := totS_nn h.2.1
  unfold totH at e
  have c : 0 ≤ totGs h.2.1 := by unfold totGs; omega
  exact ⟨totM_bd (by omega), totGs_bd (by omega)⟩
theorem totS_append : ∀ l m : List Gt, totS (l ++ m) = totS l + totS m
  | [], m => by simp [totS]
  | g :: l, m => by rw [List.cons_append, totS, totS, totS_append]; omega
theorem cntG_nn (g : Gt) : 0 ≤ cntG g := by have := cnt_nn g.2.1; unfold cntG; omega
theorem cntG_le (g : Gt) : cntG g ≤ 4 * totG g := by have := cnt_nn g.2.1; unfold cntG totG totM; omega
theorem cntS_nn : ∀ l : List Gt, 0 ≤ cntS l
  | [] => by simp [cntS]
  | g :: l => by have := cntG_nn g; have := cntS_nn l; rw [cntS]; omega
theorem cntS_le : ∀ l : List Gt, cntS l ≤ 4 * totS l
  | [] => by simp [cntS, totS]
  | g :: l => by have := cntG_le g; have := cntS_le l; rw [cntS, totS]; omega
theorem cntS_append : ∀ l m : List Gt, cntS (l ++ m) = cntS l + cntS m
  | [], m => by simp [cntS]
  | g :: l, m => by rw [List.cons_append, cntS, cntS, cntS_append]; omega
theorem cntS_one (g : Gt) : cntS [g] = cntG g := by simp [cntS]
theorem cntS_take (l : List Gt) (h : totGs l ≤ 1048576) (i : Nat) : cntS (l.take i) ≤ 4194304 := by
  have a : totS (l.take i) + totS (l.drop i) = totS l := by rw [← totS_append, List.take_append_drop]
  have b := totS_nn (l.drop i)
  have c := cntS_le (l.take i)
  unfold totGs at h
  omega
theorem cntH_nn (h : Ho) : 0 ≤ cntH h := by have := cnt_nn h.1; have := cntS_nn h.2.1; unfold cntH; omega
theorem mkGs_len : ∀ (l : List Gt) (k : Int), (mkGs l k).length = l.length
  | [], _ => rfl
  | g :: l, k => by rw [mkGs, List.length_cons, List.length_cons, mkGs_len]
theorem mkGs_append : ∀ (l m : List Gt) (k : Int), mkGs (l ++ m) k = mkGs l k ++ mkGs m (k + cntS l)
  | [], m, k => by simp [mkGs, cntS]
  | g :: l, m, k => by rw [List.cons_append, mkGs, mkGs, cntS, mkGs_append, List.cons_append, Int.add_assoc]
theorem mkGs_get : ∀ {l : List Gt} {k : Int} {i : Nat}, i < l.length → (mkGs l k).getD i g0 = mkG (l.getD i g0) (k + cntS (l.take i))
  | [], _, i, h => by simp at h
  | g :: l, k, 0, _ => by simp [mkGs, cntS]
  | g :: l, k, i + 1, h => by
    have := mkGs_get (l := l) (k := k + cntG g) (i := i) (by simpa using h)
    rw [mkGs, List.take_succ_cons, cntS, ← Int.add_assoc]
    exact this
theorem mkEs_len : ∀ (k : Int) (n : Nat), (mkEs k n).length = n
  | _, 0 => rfl
  | k, n + 1 => by rw [mkEs, List.length_cons, mkEs_len]
theorem mkSs_len : ∀ (k : Int) (n : Nat), (mkSs k n).length = n
  | _, 0 => rfl
  | k, n + 1 => by rw [mkSs, List.length_cons, mkSs_len]
theorem mkEs_snoc : ∀ (k : Int) (n : Nat), mkEs k (n + 1) = mkEs k n ++ [(m3 (k + 3 * n), k + 3 * n + 1, m3 (k + 3 * n + 2))]
  | k, 0 => by simp [mkEs]
  | k, n + 1 => by
    rw [mkEs, mkEs_snoc (k + 3) n, mkEs, List.cons_append]
    have e : k + 3 + 3 * (n : Int) = k + 3 * ((n + 1 : Nat) : Int) := by omega
    rw [e]
theorem mkSs_snoc : ∀ (k : Int) (n : Nat), mkSs k (n + 1) = mkSs k n ++ [(m3 (k + 4 * n), k + 4 * n + 1, k + 4 * n + 2, m3 (k + 4 * n + 3))]
  | k, 0 => by simp [mkSs]
  | k, n + 1 => by
    rw [mkSs, mkSs_snoc (k + 4) n, mkSs, List.cons_append]
    have e : k + 4 + 4 * (n : Int) = k + 4 * ((n + 1 : Nat) : Int) := by omega
    rw [e]
theorem mkEs_get : ∀ {k : Int} {n i : Nat}, i < n → (mkEs k n).getD i e0 = (m3 (k + 3 * i), k + 3 * i + 1, m3 (k + 3 * i + 2))
  | k, 0, i, h => by omega
  | k, n + 1, 0, _ => by simp [mkEs]
  | k, n + 1, i + 1, h => by
    have := mkEs_get (k := k + 3) (n := n) (i := i) (by omega)
    have e : k + 3 + 3 * (i : Int) = k + 3 * ((i + 1 : Nat) : Int) := by omega
    rw [e] at this
    rw [mkEs]; exact this
theorem mkSs_get : ∀ {k : Int} {n i : Nat}, i < n → (mkSs k n).getD i s0 = (m3 (k + 4 * i), k + 4 * i + 1, k + 4 * i + 2, m3 (k + 4 * i + 3))
  | k, 0, i, h => by omega
  | k, n + 1, 0, _ => by simp [mkSs]
  | k, n + 1, i + 1, h => by
    have := mkSs_get (k := k + 4) (n := n) (i := i) (by omega)
    have e : k + 4 + 4 * (i : Int) = k + 4 * ((i + 1 : Nat) : Int) := by omega
    rw [e] at this
    rw [mkSs]; exact this
theorem tmod3 {k : Int} (h : 0 ≤ k) : (Int.tmod k 3 == 0) = m3 k := by unfold m3; rw [Int.tmod_eq_emod_of_nonneg h]
theorem mkG_mkG (g : Gt) (k : Int) : mkG (mkG g k) k = mkG g k := by
  unfold mkG; simp only [mkEs_len, mkSs_len, markM_mark, cnt_mark]
theorem cntG_mk (g : Gt) (k : Int) : cntG (mkG g k) = cntG g := by
  unfold cntG mkG; simp only [mkEs_len, mkSs_len, cnt_mark]
theorem totG_mk (g : Gt) (k : Int) : totG (mkG g k) = totG g := by
  unfold totG mkG totM; simp only [mkEs_len, mkSs_len, cnt_mark, markM_len]
theorem mkGs_mkGs : ∀ (l : List Gt) (k : Int), mkGs (mkGs l k) k = mkGs l k
  | [], _ => rfl
  | g :: l, k => by rw [mkGs, mkGs, mkG_mkG, cntG_mk, mkGs_mkGs]
theorem totS_mk : ∀ (l : List Gt) (k : Int), totS (mkGs l k) = totS l
  | [], _ => rfl
  | g :: l, k => by rw [mkGs, totS, totS, totG_mk, totS_mk]
theorem cntS_mk : ∀ (l : List Gt) (k : Int), cntS (mkGs l k) = cntS l
  | [], _ => rfl
  | g :: l, k => by rw [mkGs, cntS, cntS, cntG_mk, cntS_mk]
theorem mkH_mkH (h : Ho) (k : Int) : mkH (mkH h k) k = mkH h k := by
  unfold mkH; simp only [markM_mark, cnt_mark, mkGs_mkGs]
theorem totH_mk (h : Ho) (k : Int) : totH (mkH h k) = totH h := by
  unfold totH mkH totGs totM; simp only [cnt_mark, markM_len, totS_mk, mkGs_len]
theorem cntH_mk (h : Ho) (k : Int) : cntH (mkH h k) = cntH h := by
  unfold cntH mkH; simp only [cnt_mark, cntS_mk]
theorem eqEs_cons (x y : E) (l m : List E) : eqEs (x :: l) (y :: m) = (eqE x y && eqEs l m) := by
  unfold eqEs eqE; by_cases h : x = y <;> by_cases g : l = m <;> simp [h, g]
theorem eqSs_cons (x y : Sh) (l m : List Sh) : eqSs (x :: l) (y :: m) = (eqS x y && eqSs l m) := by
  unfold eqSs eqS; by_cases h : x = y <;> by_cases g : l = m <;> simp [h, g]
theorem eqGs_cons (x y : Gt) (l m : List Gt) : eqGs (x :: l) (y :: m) = (eqG x y && eqGs l m) := by
  unfold eqGs eqG; by_cases h : x = y <;> by_cases g : l = m <;> simp [h, g]
theorem eqEs_len {a b : List E} (h : a.length ≠ b.length) : eqEs a b = false := by
  unfold eqEs; rw [decide_eq_false]; intro e; exact h (by rw [e])
theorem eqSs_len {a b : List Sh} (h : a.length ≠ b.length) : eqSs a b = false := by
  unfold eqSs; rw [decide_eq_false]; intro e; exact h (by rw [e])
theorem eqGs_len {a b : List Gt} (h : a.length ≠ b.length) : eqGs a b = false := by
  unfold eqGs; simp only [decide_eq_false_iff_not]; intro e; exact h (by rw [e])
theorem eqG_eq (a b : Gt) : eqG a b = (eqEs a.1 b.1 && (eqM a.2.1 b.2.1 && eqSs a.2.2 b.2.2)) := by
  obtain ⟨a1, a2, a3⟩ := a; obtain ⟨b1, b2, b3⟩ := b
  unfold eqG eqEs eqM eqSs
  by_cases h1 : a1 = b1 <;> by_cases h2 : a2 = b2 <;> by_cases h3 : a3 = b3 <;> simp [h1, h2, h3]
theorem eqH_eq (a b : Ho) : eqH a b = (eqM a.1 b.1 && (eqGs a.2.1 b.2.1 && decide (a.2.2 = b.2.2))) := by
  obtain ⟨a1, a2, a3⟩ := a; obtain ⟨b1, b2, b3⟩ := b
  unfold eqH eqGs eqM
  by_cases h1 : a1 = b1 <;> by_cases h2 : a2 = b2 <;> by_cases h3 : a3 = b3 <;> simp [h1, h2, h3]
theorem eqH_refl (a : Ho) : eqH a a = true := by unfold eqH; simp
theorem useM_nn (f : Int) : ∀ l : List E, 0 ≤ useM f l
  | [] => by simp [useM]
  | m :: l => by have := useM_nn f l; rw [useM]; split <;> omega
theorem useG_nn (f : Int) : ∀ l : List Gt, 0 ≤ useG f l
  | [] => by simp [useG]
  | g :: l => by have := useM_nn f g.1; have := useG_nn f l; rw [useG]; omega
theorem useM_pos {f : Int} : ∀ {l : List E} {i : Nat}, i < l.length → (l.getD i e0).1 = true → (l.getD i e0).2.1 = f → 1 ≤ useM f l
  | [], i, h, _, _ => by simp at h
  | m :: l, 0, _, h1, h2 => by
    have := useM_nn f l
    have h1 : m.1 = true := h1
    have h2 : m.2.1 = f := h2
    rw [useM, if_pos ⟨h1, h2⟩]; omega
  | m :: l, i + 1, h, h1, h2 => by
    have := useM_pos (l := l) (i := i) (by simpa using h) h1 h2
    rw [useM]; split <;> omega
theorem useG_pos {f : Int} : ∀ {l : List Gt} {i : Nat}, i < l.length → 1 ≤ useM f (l.getD i g0).1 → 1 ≤ useG f l
  | [], i, h, _ => by simp at h
  | g :: l, 0, _, h1 => by
    have := useG_nn f l
    have h1 : 1 ≤ useM f g.1 := h1
    rw [useG]; omega
  | g :: l, i + 1, h, h1 => by
    have := useG_pos (l := l) (i := i) (by simpa using h) h1
    have := useM_nn f g.1
    rw [useG]; omega
end Go.Cm
namespace Go.Cm
def gAt (h : Ho) (g : Nat) : Gt := List.getD h.2.1 g g0
def mAt (h : Ho) (g p : Nat) : E := List.getD (gAt h g).1 p e0
def upG (h : Ho) (g : Nat) (f : Gt → Gt) : Ho := (h.1, modAt h.2.1 g g0 f, h.2.2)
def clr (p : Int) (s : Sh) : Sh := if s.1 = true ∧ s.2.1 = p then s0 else s
def forgetP (h : Ho) (g : Nat) (p : Int) : Ho := upG h g fun x => (x.1, x.2.1, x.2.2.map (clr p))
def firstGo (h : Ho) : Nat → Nat → Int
  | 0, _ => -1
  | n + 1, f => if users h (f : Int) = 0 then (f : Int) else firstGo h n (f + 1)
def first (h : Ho) : Int := firstGo h 8 0
def sAt (h : Ho) (g p : Nat) : Sh := List.getD (gAt h g).2.2 p s0
def shareP (a b : Int) (g : Nat) : Nat → Nat → Ho → Ho
  | 0, _, h => h
  | n + 1, p, h => shareP a b g n (p + 1) (if (mAt h g p).1 = true ∧ ((mAt h g p).2.1 = a ∨ (mAt h g p).2.1 = b) then upG h g fun x => (x.1.set p (true, b, false), x.2.1, x.2.2.map (clr (p : Int))) else h)
def shareG (a b : Int) : Nat → Nat → Ho → Ho
  | 0, _, h => h
  | n + 1, g, h => shareG a b n (g + 1) (shareP a b g 6 0 h)
def share (h : Ho) (a b : Int) : Ho := shareG a b h.2.1.length 0 h
def canJoin (h : Ho) (a b : Nat) : Bool := decide (users h (a : Int) > 0) && decide (users h (b : Int) > 0) && eqI (List.getD h.1 a []) (List.getD h.1 b [])
def joinIn (h : Ho) (a : Nat) : Nat → Nat → Option Ho
  | 0, _ => none
  | n + 1, b => if canJoin h a b = true then some (share h (b : Int) (a : Int)) else joinIn h a n (b + 1)
def joinGo (h : Ho) : Nat → Nat → Option Ho
  | 0, _ => none
  | n + 1, a => match joinIn h a (8 - (a + 1)) (a + 1) with
    | some x => some x
    | none => joinGo h n (a + 1)
def join (h : Ho) : Ho × Bool := match joinGo h 8 0 with
  | some x => (x, true)
  | none => (h, false)
def moveP (a b : Int) (g : Nat) : Nat → Nat → Ho → Ho
  | 0, _, h => h
  | n + 1, p, h => moveP a b g n (p + 1) (if (mAt h g p).1 = true ∧ (mAt h g p).2.1 = a then upG h g fun x => (modAt x.1 p e0 fun m => (m.1, b, m.2.2), x.2.1, x.2.2.map (clr (p : Int))) else h)
def moveG (a b : Int) : Nat → Nat → Ho → Ho
  | 0, _, h => h
  | n + 1, g, h => moveG a b n (g + 1) (moveP a b g 6 0 h)
def move (h : Ho) (f : Int) : Ho × Bool :=
  if first h < 0 ∨ users h f = 0 then (h, false) else (moveG f (first h) h.2.1.length 0 (h.1.set (first h).toNat (List.getD h.1 f.toNat []), h.2), true)
/-- The shape that all keep. -/
def shG (g : Gt) : Prop := szOk g = true ∧ (∀ i, i < 6 → (List.getD g.1 i e0).1 = true → 0 ≤ (List.getD g.1 i e0).2.1 ∧ (List.getD g.1 i e0).2.1 ≤ 7) ∧ ∀ i, i < 6 → (List.getD g.2.2 i s0).1 = true → 0 ≤ (List.getD g.2.2 i s0).2.2.1 ∧ (List.getD g.2.2 i s0).2.2.1 ≤ 7
def shH (h : Ho) : Prop := preOk h = true ∧ ∀ i, i < h.2.1.length → shG (List.getD h.2.1 i g0)
end Go.Cm
namespace Go.Am
open Go.Cm (R rdOk)
abbrev inG (h : Cm.Ho) (g : Int) : Prop := 0 ≤ g ∧ g < (h.2.1.length : Int)
abbrev ohb (x : Cm.Ho × Bool) : Alt := ⟨[], .cons (.own kH) (.cons (.vw .bool) .nil), [⟨kH, x.1⟩, ⟨.bool, x.2⟩]⟩
abbrev inS (h : Cm.Ho) (g p : Int) : Prop := Cm.shH h ∧ inG h g ∧ 0 ≤ p ∧ p ≤ 5
def sForgetPT : FSpec := sp3 [.take kH, pv kI, pv kI] kH kI kI (fun h g p => inS h g p) fun h g p => oh (Cm.forgetP h g.toNat p)
def sShareT : FSpec := sp3 [.take kH, pv kI, pv kI] kH kI kI (fun h a b => Cm.shH h ∧ (0 ≤ a ∧ a ≤ 7) ∧ 0 ≤ b ∧ b ≤ 7) fun h a b => oh (Cm.share h a b)
def sSame : FSpec := sp2 [pv kP, pv kP] kP kP (fun a b => a.length = 4 ∧ b.length = 4) fun a b => vb (Cm.eqI a b)
def sJoinT : FSpec := sp1 [.take kH] kH (fun h => Cm.shH h) fun h => ohb (Cm.join h)
end Go.Am
namespace Go.Am
open Go.Cm (R rdOk)
end Go.Am
namespace Go.Cm
def pgJoin (h : Ho) : Ho × Bool := if hOk h = true then join h else (h0, false)
end Go.Cm
namespace Go.Am
open Go.Cm (R rdOk)
abbrev bh : Pat := .box true kH
abbrev uh (h : Cm.Ho) : Alt := ⟨[⟨kH, h⟩], .nil, []⟩
def sUnshade : FSpec := sp2 [.ro kG, pv kI] kG kI (fun g _ => g.2.2.length ≤ 1048576) fun g p => ⟨[⟨kG, (g.1, g.2.1, g.2.2.map (Cm.clr p))⟩], .nil, []⟩
def sPgJoin : FSpec := sp1 [pv kH] kH (fun h => Cm.bdH h) fun h => ohb (Cm.pgJoin h)
def sLawH : FSpec := sp1 [ps kH] kH (fun h => Cm.wfH h) fun _ => vb true
end Go.Am
namespace Go.Cm
end Go.Cm
namespace Go.Am
open Go.Cm (R rdOk)
end Go.Am
namespace Go.Am
open Go.Cm (R rdOk)
end Go.Am
namespace Go.Cm
/-- All that is in one frame comes to another one, not to be written. -/
def jP (a b : Int) (g : Nat) : Nat → Nat → Ho → Ho
  | 0, _, h => h
  | n + 1, p, h => jP a b g n (p + 1) (if (mAt h g p).1 = true ∧ (mAt h g p).2.1 = a then upG h g fun x => (x.1.set p (true, b, false), x.2.1, x.2.2.map (clr (p : Int))) else h)
def jG (a b : Int) : Nat → Nat → Ho → Ho
  | 0, _, h => h
  | n + 1, g, h => jG a b n (g + 1) (jP a b g 6 0 h)
def jL (b : Int) : List Int → Ho → Ho
  | [], h => h
  | f :: l, h => jL b l (jG f b h.2.1.length 0 h)
end Go.Cm
namespace Go.Am
open Go.Cm (R rdOk)
def joinOne (h : Cm.Ho) (g p : Nat) (b : Int) : Cm.Ho := Cm.upG h g fun x => (x.1.set p (true, b, false), x.2.1, x.2.2.map (Cm.clr (p : Int)))
def sJoinC : FSpec := sp4 [pv kI, pv kI, .bp kH, .q (.rbx (.val kI))] kI kI kH kI (fun g p h b => inS h g p ∧ 0 ≤ b ∧ b ≤ 7) fun g p h b => uh (joinOne h g.toNat p.toNat b)
def sEachJoin (f : Nat) : FSpec := sp3 [bh, pv kI, .q (.fn f .nil (.cons (.rbx (.same 0)) (.cons (.rbx (.val kI)) .nil)))] kH kI kI (fun h _ b => Cm.shH h ∧ 0 ≤ b ∧ b ≤ 7) fun h f b => uh (Cm.jG f b h.2.1.length 0 h)
def sHJoin : FSpec := sp3 [bh, pv kI, pv kI] kH kI kI (fun h a b => Cm.shH h ∧ (0 ≤ a ∧ a ≤ 7) ∧ 0 ≤ b ∧ b ≤ 7) fun h a b => uh (Cm.jL a [b, a] h)
end Go.Am
