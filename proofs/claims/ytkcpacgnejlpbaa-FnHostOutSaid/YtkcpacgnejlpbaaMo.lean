/-
  What the functions compute, in plain Lean, and small laws of that; no condition beside those that each law names.
-/
import Derived.Test.YtkcpacgnejlpbaaBm3
set_option linter.all false
set_option maxHeartbeats 0
namespace Go.Cm
abbrev A := Int × Int × Int × Int × Int
def a0 : A := (0, 0, 0, 0, 0)
def modAt {α : Type} (l : List α) (n : Nat) (d : α) (f : α → α) : List α := l.set n (f (l.getD n d))
def within (n lo hi : Int) : Bool := decide (lo ≤ n) && decide (n ≤ hi)
def own (a : A) : Bool := within a.1 1 5
abbrev Rd := List Int × Int
abbrev R := Rd
def rdOk (r : R) (m : Int) : Prop := (r.1.length ≤ 2000 ∧ ∀ i, i < r.1.length → 0 ≤ r.1.getD i 0 ∧ r.1.getD i 0 ≤ 255) ∧ 0 ≤ r.2 ∧ r.2 ≤ m
def cut2 (b : List Int) : List Int := if b.length > 2000 then b.take 2000 else b
def bytes (b : List Int) : Prop := ∀ i, i < b.length → 0 ≤ b.getD i 0 ∧ b.getD i 0 ≤ 255
def inc (n : Int) : Int := n + 1
def adv (r : Rd) (n : Int) : Rd := (r.1, r.2 + n)
def wordM (p : Rd → Int → Int) (r : Rd) : Int := if p r 3 = 0 then p (r.1, inc r.2) 64 else p (r.1, inc r.2) 14
def tabStep (p : Rd → Int → Int) (g : Int) (k : Nat) (s : Rd × List A) : Rd × List A :=
  if p s.1 4 > 0 then (adv s.1 2, s.2 ++ [(2, g, ((k / 4 : Nat) : Int), ((k % 4 : Nat) : Int), 5 + p (adv s.1 1) 8), (5, g, 0, 0, 0)]) else (adv s.1 1, s.2)
def tabGo (p : Rd → Int → Int) (g : Int) : Nat → Nat → Rd × List A → Rd × List A
  | 0, _, s => s
  | n + 1, k, s => tabGo p g n (k + 1) (tabStep p g k s)
def playStep (act : Rd → Int → Rd × A) (g : Int) (t : Bool) (s : Rd × List A) : Rd × List A :=
  ((act s.1 g).1, if t = true ∧ (act s.1 g).2.1 = 2 ∧ (act s.1 g).2.2.2.1 < 2 then s.2 ++ [(act s.1 g).2] ++ [(5, (act s.1 g).2.2.1, 0, 0, 0)] else s.2 ++ [(act s.1 g).2])
def playGo (act : Rd → Int → Rd × A) (g : Int) (t : Bool) : Nat → Rd × List A → Rd × List A
  | 0, s => s
  | n + 1, s => if s.2.length < 58 then playGo act g t n (playStep act g t s) else s
def playG (p : Rd → Int → Int) (r : Rd) : Int := 1 + p r 2
def play0 (p : Rd → Int → Int) (tb : Rd → Int → Rd × List A) (r : Rd) : Rd × List A := if p (r.1, inc r.2) 4 > 0 then tb (r.1, inc (inc (inc r.2))) (p (r.1, inc (inc r.2)) (playG p r)) else ((r.1, inc (inc r.2)), [])
def playT (p : Rd → Int → Int) (tb : Rd → Int → Rd × List A) (r : Rd) : Bool := decide (p (play0 p tb r).1 4 > 0)
def playN (p : Rd → Int → Int) (tb : Rd → Int → Rd × List A) (r : Rd) : Nat := (p ((play0 p tb r).1.1, inc (play0 p tb r).1.2) 52).toNat
def playE (p : Rd → Int → Int) (act : Rd → Int → Rd × A) (tb : Rd → Int → Rd × List A) (r : Rd) : Rd × List A := playGo act (playG p r) (playT p tb r) (playN p tb r) (((play0 p tb r).1.1, inc (inc (play0 p tb r).1.2)), (play0 p tb r).2)
def playM (p : Rd → Int → Int) (act : Rd → Int → Rd × A) (tb : Rd → Int → Rd × List A) (r : Rd) : Rd × Int × List A := ((playE p act tb r).1, playG p r, (playE p act tb r).2)
end Go.Cm
namespace Go.Am
open Go.Cm (R rdOk)
abbrev kI : K := .int .i64
abbrev kA : K := .pair kI (.pair kI (.pair kI (.pair kI kI)))
abbrev kAs : K := .sl kA
abbrev pv (k : K) : Pat := .q (.val k)
abbrev ps (k : K) : Pat := .q (.vs k)
def sWithin : FSpec := sp3 [pv kI, pv kI, pv kI] kI kI kI (fun _ _ _ => True) fun n lo hi => ⟨[], .vw .bool, [⟨.bool, Cm.within n lo hi⟩]⟩
def sOwn : FSpec := sp1 [pv kA] kA (fun _ => True) fun a => ⟨[], .vw .bool, [⟨.bool, Cm.own a⟩]⟩
def sTo (k : K) (P : List k.T → Prop) : FSpec := sp1 [pv (.sl k)] (.sl k) P fun a => ⟨[], .own (.sl k), [⟨.sl k, a⟩]⟩
abbrev kR : K := .pair (.sl (.int .u8)) kI
def sPick (F : R → Int → Int) : FSpec := sp2 [.box false kR, pv kI] kR kI (fun r _ => rdOk r 1099511627776) fun r n => ⟨[⟨kR, (r.1, Cm.inc r.2)⟩], .vw kI, [⟨kI, F r n⟩]⟩
def sOpen : FSpec := sp1 [ps (.sl (.int .u8))] (.sl (.int .u8)) (fun _ => True) fun b => ⟨[], .bx kR, [⟨kR, (Cm.cut2 b, 0)⟩]⟩
def sWord (F : R → Int) : FSpec := sp1 [.box false kR] kR (fun r => rdOk r 549755813888) fun r => ⟨[⟨kR, (r.1, Cm.inc (Cm.inc r.2))⟩], .vw kI, [⟨kI, F r⟩]⟩
def sAct (F : R → Int → R × Cm.A) : FSpec := sp2 [.box false kR, pv kI] kR kI (fun r g => rdOk r 274877906944 ∧ 1 ≤ g ∧ g ≤ 100) fun r g => ⟨[⟨kR, (F r g).1⟩], .vw kA, [⟨kA, (F r g).2⟩]⟩
def sTables (F : R → Int → R × List Cm.A) : FSpec := sp2 [.box false kR, pv kI] kR kI (fun r _ => rdOk r 274877906944) fun r g => ⟨[⟨kR, (F r g).1⟩], .own kAs, [⟨kAs, (F r g).2⟩]⟩
def sPlay (F : R → R × Int × List Cm.A) : FSpec := sp1 [.box false kR] kR (fun r => rdOk r 137438953472) fun r => ⟨[⟨kR, (F r).1⟩], .cons (.vw kI) (.cons (.own kAs) .nil), [⟨kI, (F r).2.1⟩, ⟨kAs, (F r).2.2⟩]⟩
abbrev kU : K := .sl (.int .u8)
def sLawB : FSpec := sp1 [ps kU] kU (fun b => Cm.bytes b) fun _ => ⟨[], .vw .bool, [⟨.bool, true⟩]⟩
end Go.Am
namespace Go.Cm
theorem wrap_id {x : Int} (h1 : -9223372036854775808 ≤ x) (h2 : x < 9223372036854775808) : IntKind.wrap .i64 x = x := by
  simp [IntKind.wrap, IntKind.signed, IntKind.bits]
  omega
theorem drop_getD {α : Type} {l : List α} {i : Nat} (d : α) (h : i < l.length) : l.drop i = l.getD i d :: l.drop (i + 1) := by
  rw [List.drop_eq_getElem_cons h]; simp [List.getD, h]
theorem xor_nn {m n : Int} (h1 : 0 ≤ m) (h2 : m < 4611686018427387904) (h3 : 0 ≤ n) (h4 : n < 4611686018427387904) : 0 ≤ Am.xorI .i64 m n := by
  have e1 : (BitVec.ofInt 64 m).toNat = m.toNat := by rw [BitVec.toNat_ofInt]; simp; omega
  have e2 : (BitVec.ofInt 64 n).toNat = n.toNat := by rw [BitVec.toNat_ofInt]; simp; omega
  have e3 : (m.toNat ^^^ n.toNat) < 2 ^ 62 := Nat.xor_lt_two_pow (by omega) (by omega)
  show 0 ≤ IntKind.wrap .i64 (((BitVec.ofInt 64 m ^^^ BitVec.ofInt 64 n).toNat : Nat) : Int)
  rw [BitVec.toNat_xor, e1, e2, wrap_id (by omega) (by omega)]
  omega
theorem tmod_pos {x n : Int} (h1 : 0 ≤ x) (h2 : 0 < n) : 0 ≤ x.tmod n ∧ x.tmod n < n := ⟨Int.tmod_nonneg _ h1, Int.tmod_lt_of_pos _ h2⟩
theorem tdiv_bd {x n : Int} (h1 : 0 ≤ x) (h2 : 0 < n) : 0 ≤ x.tdiv n ∧ x.tdiv n ≤ x := ⟨Int.tdiv_nonneg h1 (by omega), Int.tdiv_le_self _ h1⟩
theorem modAt_len {α : Type} (l : List α) (n : Nat) (d : α) (f : α → α) : (modAt l n d f).length = l.length := by simp [modAt]
theorem playGo_step {act : Rd → Int → Rd × A} {g : Int} {t : Bool} {k : Nat} {s : Rd × List A} (h : 0 < k) (h' : s.2.length < 58) : playGo act g t k s = playGo act g t (k - 1) (playStep act g t s) := by
  obtain ⟨n, rfl⟩ : ∃ n, k = n + 1 := ⟨k - 1, by omega⟩
  rw [playGo, if_pos h']; rfl
theorem playGo_end {act : Rd → Int → Rd × A} {g : Int} {t : Bool} {k : Nat} {s : Rd × List A} (h : ¬ (0 < k ∧ s.2.length < 58)) : playGo act g t k s = s := by
  cases k with
  | zero => rfl
  | succ n => rw [playGo, if_neg (fun h' => h ⟨by omega, h'⟩)]
end Go.Cm
namespace Go.Cm
theorem take_succ_getD {α : Type} (d : α) {l : List α} {i : Nat} (h : i < l.length) : l.take (i + 1) = l.take i ++ [l.getD i d] := by
  rw [List.take_add_one]; simp [List.getD, h]
abbrev f1 : A := (5, 1, 0, 0, 0)
end Go.Cm
namespace Go.Cm
abbrev Pg := List Int
abbrev Mm := List (List Int)
abbrev E := Bool × Int × Bool
def e0 : E := (false, 0, false)
def bd (m : Mm) : Prop := m.length ≤ 1048576 ∧ ∀ i, i < m.length → (m.getD i []).length ≤ 1048576
def eqI (a b : Pg) : Bool := decide (a = b)
def eqM (a b : Mm) : Bool := decide (a = b)
def allW : Pg → Bool
  | [] => true
  | w :: l => within w 0 63 && allW l
def okP (a : Pg) : Bool := allW a && decide (a.length = 4)
def okM : Mm → Bool
  | [] => true
  | a :: m => okP a && okM m
def okG (m : Mm) : Bool := okM m && decide (m.length = 6)
def entryOf (w : Int) : E := if 5 ≤ w ∧ w ≤ 12 then (true, (w - 1) / 2, decide (w % 2 = 0)) else e0
def set2 (m : Mm) (p o w : Int) : Mm := m.set p.toNat ((m.getD p.toNat []).set o.toNat w)
def memNew (n : Int) : Mm := if within n 0 6 = true then List.replicate n.toNat [0, 0, 0, 0] else []
def shp (m : Mm) : Prop := m.length = 6 ∧ ∀ i, i < 6 → (m.getD i []).length = 4
def shpW (m : Mm) : Prop := m.length ≤ 6 ∧ ∀ i, i < m.length → (m.getD i []).length ≤ 4
end Go.Cm
namespace Go.Am
open Go.Cm (R rdOk)
abbrev kP : K := .sl kI
abbrev kM : K := .sl kP
abbrev kE : K := .pair .bool (.pair kI .bool)
abbrev kEs : K := .sl kE
abbrev nn (n : Int) : AV := .int .i64 n
abbrev rf (i : Nat) : AV := .rf (1000 + i) 0 0 []
abbrev rt (i : Nat) (k : K) (xs : List k.T) : Nat × RootV := (1000 + i, ⟨0, 0, some ⟨k, xs, true⟩, none⟩)
abbrev pb (i : Nat) : AV := .pb (1000 + i) 0 []
abbrev bxv (i : Nat) (k : K) (x : k.T) : Nat × BoxV := (1000 + i, ⟨0, some (opnV k x), false⟩)
abbrev vb (b : Bool) : Alt := ⟨[], .vw .bool, [⟨.bool, b⟩]⟩
abbrev vi (n : Int) : Alt := ⟨[], .vw kI, [⟨kI, n⟩]⟩
abbrev ve (e : Cm.E) : Alt := ⟨[], .vw kE, [⟨kE, e⟩]⟩
abbrev om (m : Cm.Mm) : Alt := ⟨[], .own kM, [⟨kM, m⟩]⟩
def sToM : FSpec := sTo kP Cm.bd
def sEqP : FSpec := sp2 [pv kP, pv kP] kP kP (fun a _ => a.length ≤ 1048576) fun a b => vb (Cm.eqI a b)
def sEqM : FSpec := sp2 [pv kM, pv kM] kM kM (fun a _ => Cm.bd a) fun a b => vb (Cm.eqM a b)
def sPage : FSpec := sp0 [] True ⟨[], .own kP, [⟨kP, [0, 0, 0, 0]⟩]⟩
def sMemNew : FSpec := sp1 [pv kI] kI (fun _ => True) fun n => om (Cm.memNew n)
def sOkP : FSpec := sp1 [pv kP] kP (fun a => a.length ≤ 1048576) fun a => vb (Cm.okP a)
def sOkM : FSpec := sp1 [pv kM] kM Cm.bd fun a => vb (Cm.okM a)
def sOkG : FSpec := sp1 [pv kM] kM Cm.bd fun a => vb (Cm.okG a)
def sEntryOf : FSpec := sp1 [pv kI] kI (fun w => w ≤ 1048576) fun w => ve (Cm.entryOf w)
end Go.Am
namespace Go.Cm
theorem eqI_cons (x y : Int) (l m : Pg) : eqI (x :: l) (y :: m) = (decide (x = y) && eqI l m) := by
  unfold eqI; by_cases h : x = y <;> by_cases g : l = m <;> simp [h, g]
theorem eqM_cons (x y : Pg) (l m : Mm) : eqM (x :: l) (y :: m) = (eqI x y && eqM l m) := by
  unfold eqM eqI; by_cases h : x = y <;> by_cases g : l = m <;> simp [h, g]
theorem eqI_len {a b : Pg} (h : a.length ≠ b.length) : eqI a b = false := by
  unfold eqI; rw [decide_eq_false]; intro e; exact h (by rw [e])
theorem eqM_len {a b : Mm} (h : a.length ≠ b.length) : eqM a b = false := by
  unfold eqM; rw [decide_eq_false]; intro e; exact h (by rw [e])
theorem eqM_refl (a : Mm) : eqM a a = true := by unfold eqM; simp
theorem set_mid {α : Type} {l r : List α} {i : Nat} (x y : α) (h : l.length = i) : (l ++ x :: r).set i y = l ++ y :: r := by
  subst h; simp
theorem getD_mid {α : Type} {l r : List α} {i : Nat} (x d : α) (h : l.length = i) : (l ++ x :: r).getD i d = x := by
  subst h; simp [List.getD]
theorem okG_len {m : Mm} (h : okG m = true) : m.length = 6 := by unfold okG at h; simp at h; exact h.2
theorem okM_get : ∀ {m : Mm}, okM m = true → ∀ i, i < m.length → okP (m.getD i []) = true
  | [], _, i, hi => by simp at hi
  | a :: m, h, i, hi => by
    rw [okM, Bool.and_eq_true] at h
    cases i with
    | zero => exact h.1
    | succ i => exact okM_get (m := m) h.2 i (by simpa using hi)
theorem okP_len {a : Pg} (h : okP a = true) : a.length = 4 := by unfold okP at h; simp at h; exact h.2
theorem okG_row {m : Mm} (h : okG m = true) {i : Nat} (hi : i < 6) : (m.getD i []).length = 4 := by
  have h1 : okM m = true := by unfold okG at h; simp at h; exact h.1
  exact okP_len (okM_get h1 i (by rw [okG_len h]; exact hi))
theorem allW_get : ∀ {a : Pg}, allW a = true → ∀ i, i < a.length → 0 ≤ a.getD i 0 ∧ a.getD i 0 ≤ 63
  | [], _, i, hi => by simp at hi
  | w :: a, h, i, hi => by
    rw [allW, Bool.and_eq_true] at h
    cases i with
    | zero => simpa [within] using h.1
    | succ i => exact allW_get (a := a) h.2 i (by simpa using hi)
theorem okP_get {a : Pg} (h : okP a = true) (i : Nat) : 0 ≤ a.getD i 0 ∧ a.getD i 0 ≤ 63 := by
  by_cases c : i < a.length
  · unfold okP at h; rw [Bool.and_eq_true] at h; exact allW_get h.1 i c
  · simp [List.getD, List.getElem?_eq_none (Nat.le_of_not_lt c)]
theorem okG_okP {m : Mm} (h : okG m = true) {i : Nat} (hi : i < 6) : okP (m.getD i []) = true := by
  have h1 : okM m = true := by unfold okG at h; simp at h; exact h.1
  exact okM_get h1 i (by rw [okG_len h]; exact hi)
end Go.Cm
namespace Go.Cm
end Go.Cm
namespace Go.Am
open Go.Cm (R rdOk)
end Go.Am
namespace Go.Cm
abbrev Sh := Bool × Int × Int × Bool
abbrev Gt := List E × Mm × List Sh
abbrev Ho := Mm × List Gt × Int
def s0 : Sh := (false, 0, 0, false)
def g0 : Gt := ([], [], [])
def h0 : Ho := ([], [], 0)
def bdG (g : Gt) : Prop := g.1.length ≤ 1048576 ∧ bd g.2.1 ∧ g.2.2.length ≤ 1048576
def bdGs (l : List Gt) : Prop := l.length ≤ 1048576 ∧ ∀ i, i < l.length → bdG (l.getD i g0)
def bdH (h : Ho) : Prop := bd h.1 ∧ bdGs h.2.1
def eqE (a b : E) : Bool := decide (a = b)
def eqS (a b : Sh) : Bool := decide (a = b)
def m3 (k : Int) : Bool := k % 3 == 0
def useM (f : Int) : List E → Int
  | [] => 0
  | m :: l => (if m.1 = true ∧ m.2.1 = f then 1 else 0) + useM f l
def useG (f : Int) : List Gt → Int
  | [] => 0
  | g :: l => useM f g.1 + useG f l
def users (h : Ho) (f : Int) : Int := useG f h.2.1
def blank : Pg → Bool
  | [] => true
  | w :: l => (w == 0) && blank l
def idxNZ : Pg → Int → Int
  | [], _ => -1
  | w :: l, i => if w = 0 then idxNZ l (i + 1) else i
def mapOk (u : Int → Int) (m : E) (d : Pg) : Bool :=
  if m.1 = false then eqE m e0 else (within m.2.1 0 7 && blank d) && (!m.2.2 || decide (u m.2.1 ≤ 1))
def shOk (ms : List E) (s : Sh) : Bool :=
  if s.1 = false then eqS s s0 else within s.2.1 2 5 && ((List.getD ms s.2.1.toNat e0).1 && decide ((List.getD ms s.2.1.toNat e0).2.1 = s.2.2.1) && (!s.2.2.2 || (List.getD ms s.2.1.toNat e0).2.2))
def mapsOk (u : Int → Int) : List E → Mm → Bool
  | m :: l, d :: k => mapOk u m d && mapsOk u l k
  | m :: l, [] => mapOk u m [] && mapsOk u l []
  | [], _ => true
def shsOk (ms : List E) : List Sh → Bool
  | [] => true
  | s :: l => shOk ms s && shsOk ms l
def szOk (g : Gt) : Bool := decide (g.1.length = 6) && decide (g.2.2.length = 6) && okG g.2.1
def gOk (u : Int → Int) (g : Gt) : Bool := szOk g && (mapsOk u g.1 g.2.1 && shsOk g.1 g.2.2)
def szsOk : List Gt → Bool
  | [] => true
  | g :: l => szOk g && szsOk l
def gsOk (u : Int → Int) : List Gt → Bool
  | [] => true
  | g :: l => gOk u g && gsOk u l
def preOk (h : Ho) : Bool := okM h.1 && decide (h.1.length = 8) && within (h.2.1.length : Int) 1 2 && within h.2.2 0 7
def hOk (h : Ho) : Bool := preOk h && gsOk (users h) h.2.1
def pageG (fr : Mm) (g : Gt) (p : Nat) : Pg := if (List.getD g.1 p e0).1 = true then fr.getD (List.getD g.1 p e0).2.1.toNat [] else g.2.1.getD p []
def seeG (fr : Mm) (g : Gt) : Mm := [pageG fr g 0, pageG fr g 1, pageG fr g 2, pageG fr g 3, pageG fr g 4, pageG fr g 5]
def see (h : Ho) (g : Int) : Mm := seeG h.1 (List.getD h.2.1 g.toNat g0)
def hSee (h : Ho) (g : Int) : Mm := if hOk h = true ∧ within g 0 ((h.2.1.length : Int) - 1) = true then see h g else []
def forget (h : Ho) (g : Int) : Ho := (h.1, modAt h.2.1 g.toNat g0 fun x => (x.1, x.2.1, List.replicate 6 s0), h.2.2)
end Go.Cm
namespace Go.Am
open Go.Cm (R rdOk)
abbrev kS : K := .pair .bool (.pair kI (.pair kI .bool))
abbrev kSs : K := .sl kS
abbrev kG : K := .pair kEs (.pair kM kSs)
abbrev kGs : K := .sl kG
abbrev kH : K := .pair kM (.pair kGs kI)
abbrev oh (h : Cm.Ho) : Alt := ⟨[], .own kH, [⟨kH, h⟩]⟩
def sUsers : FSpec := sp2 [pv kH, pv kI] kH kI (fun h _ => Cm.bdH h) fun h f => vi (Cm.users h f)
def sNZ : FSpec := sp1 [pv kI] kI (fun _ => True) fun w => vb (w != 0)
def sIndex (f : Nat) : FSpec := sp1 [pv kP, .q (.fn f .nil .nil)] kP (fun a => a.length ≤ 1048576) fun a => vi (Cm.idxNZ a 0)
def sContains (f : Nat) : FSpec := sp1 [pv kP, .q (.fn f .nil .nil)] kP (fun a => a.length ≤ 1048576) fun a => vb (!Cm.blank a)
def sBlank : FSpec := sp1 [pv kP] kP (fun a => a.length ≤ 1048576) fun a => vb (Cm.blank a)
def sMapOk : FSpec := sp3 [pv kH, pv kE, pv kP] kH kE kP (fun h m d => Cm.bdH h ∧ d.length ≤ 1048576 ∧ (m.1 = true → 1 ≤ Cm.users h m.2.1)) fun h m d => vb (Cm.mapOk (Cm.users h) m d)
def sShOk : FSpec := sp2 [pv kG, pv kS] kG kS (fun g _ => g.1.length = 6) fun g s => vb (Cm.shOk g.1 s)
def sGOk : FSpec := sp2 [pv kH, pv kG] kH kG (fun h g => Cm.bdH h ∧ Cm.bdG g) fun h g => vb (Cm.gOk (Cm.users h) g)
def sHOk : FSpec := sp1 [pv kH] kH Cm.bdH fun h => vb (Cm.hOk h)
def sSeeH : FSpec := sp2 [pv kH, pv kI] kH kI (fun h g => (Cm.bdH h ∧ Cm.hOk h = true) ∧ 0 ≤ g ∧ g < (h.2.1.length : Int)) fun h g => om (Cm.see h g)
def sHSee : FSpec := sp2 [pv kH, pv kI] kH kI (fun h _ => Cm.bdH h) fun h g => om (Cm.hSee h g)
def sForgetT : FSpec := sp2 [.take kH, pv kI] kH kI (fun h g => 0 ≤ g ∧ g < (h.2.1.length : Int)) fun h g => oh (Cm.forget h g)
end Go.Am
namespace Go.Cm
theorem useM_nn (f : Int) : ∀ l : List E, 0 ≤ useM f l
  | [] => by simp [useM]
  | m :: l => by have := useM_nn f l; rw [useM]; split <;> omega
theorem useG_nn (f : Int) : ∀ l : List Gt, 0 ≤ useG f l
  | [] => by simp [useG]
  | g :: l => by have := useM_nn f g.1; have := useG_nn f l; rw [useG]; omega
theorem useM_pos {f : Int} : ∀ {l : List E} {i : Nat}, i < l.length → (l.getD i e0).1 = true → (l.getD i e0).2.1 = f → 1 ≤ useM f l
  | [], i, h, _, _ => by simp at h
  | m :: l, 0, _, h1, h2 => by
    have := useM_nn f l
    have h1 : m.1 = true := h1
    have h2 : m.2.1 = f := h2
    rw [useM, if_pos ⟨h1, h2⟩]; omega
  | m :: l, i + 1, h, h1, h2 => by
    have := useM_pos (l := l) (i := i) (by simpa using h) h1 h2
    rw [useM]; split <;> omega
theorem useG_pos {f : Int} : ∀ {l : List Gt} {i : Nat}, i < l.length → 1 ≤ useM f (l.getD i g0).1 → 1 ≤ useG f l
  | [], i, h, _ => by simp at h
  | g :: l, 0, _, h1 => by
    have := useG_nn f l
    have h1 : 1 ≤ useM f g.1 := h1
    rw [useG]; omega
  | g :: l, i + 1, h, h1 => by
    have := useG_pos (l := l) (i := i) (by simpa using h) h1
    have := useM_nn f g.1
    rw [useG]; omega
end Go.Cm
namespace Go.Cm
def gAt (h : Ho) (g : Nat) : Gt := List.getD h.2.1 g g0
def mAt (h : Ho) (g p : Nat) : E := List.getD (gAt h g).1 p e0
def upG (h : Ho) (g : Nat) (f : Gt → Gt) : Ho := (h.1, modAt h.2.1 g g0 f, h.2.2)
def clr (p : Int) (s : Sh) : Sh := if s.1 = true ∧ s.2.1 = p then s0 else s
def forgetP (h : Ho) (g : Nat) (p : Int) : Ho := upG h g fun x => (x.1, x.2.1, x.2.2.map (clr p))
def outP (h : Ho) (g p : Nat) : Ho :=
  if (mAt h g p).1 = true then upG h g fun x => (x.1.set p e0, x.2.1.set p (pageG h.1 x p), x.2.2.map (clr (p : Int))) else h
def clrP (f : Int) (g : Nat) : Nat → Nat → Ho → Ho
  | 0, _, h => h
  | n + 1, p, h => clrP f g n (p + 1) (if (mAt h g p).1 = true ∧ (mAt h g p).2.1 = f then outP h g p else h)
def clrG (f : Int) : Nat → Nat → Ho → Ho
  | 0, _, h => h
  | n + 1, g, h => clrG f n (g + 1) (clrP f g 6 0 h)
def clearF (h : Ho) (f : Int) : Ho := clrG f h.2.1.length 0 h
def firstGo (h : Ho) : Nat → Nat → Int
  | 0, _ => -1
  | n + 1, f => if users h (f : Int) = 0 then (f : Int) else firstGo h n (f + 1)
def first (h : Ho) : Int := firstGo h 8 0
def putP (h : Ho) (g p : Nat) (f : Int) : Ho :=
  (h.1.set f.toNat (List.getD (gAt h g).2.1 p []), modAt h.2.1 g g0 fun x => (x.1.set p (true, f, true), x.2.1.set p [0, 0, 0, 0], x.2.2), h.2.2)
def clearH (h : Ho) : Ho := clearF (h.1, h.2.1, (h.2.2 + 1) % 8) h.2.2
def inP (h : Ho) (g p : Nat) : Ho :=
  if (mAt h g p).1 = true then h else if first h < 0 then putP (clearH h) g p h.2.2 else putP h g p (first h)
def ownP (h : Ho) (g p : Nat) : Ho :=
  if (mAt (inP h g p) g p).2.2 = true then inP h g p
  else if users (inP h g p) (mAt (inP h g p) g p).2.1 = 1 then upG (inP h g p) g fun x => (modAt x.1 p e0 fun m => (m.1, m.2.1, true), x.2)
  else inP (outP (inP h g p) g p) g p
def readP (h : Ho) (g p o : Nat) : Ho × Int := (inP h g p, List.getD (List.getD (inP h g p).1 (mAt (inP h g p) g p).2.1.toNat []) o 0)
def wr2 (fr : Mm) (f : Int) (o : Nat) (w : Int) : Mm := fr.set f.toNat ((List.getD fr f.toNat []).set o w)
def rd2 (fr : Mm) (f : Int) (o : Nat) : Int := List.getD (List.getD fr f.toNat []) o 0
def writeP (h : Ho) (g p o : Nat) (w : Int) : Ho × Int :=
  ((wr2 (ownP h g p).1 (mAt (ownP h g p) g p).2.1 o w, (ownP h g p).2), rd2 (ownP h g p).1 (mAt (ownP h g p) g p).2.1 o)
def walkP (h : Ho) (g p : Nat) : Ho × E := ((readP h g (p / 4) (p % 4)).1, entryOf (readP h g (p / 4) (p % 4)).2)
def sAt (h : Ho) (g p : Nat) : Sh := List.getD (gAt h g).2.2 p s0
def setS (h : Ho) (g p : Nat) (s : Sh) : Ho := upG h g fun x => (x.1, x.2.1, x.2.2.set p s)
def readIn (h : Ho) (g p o : Nat) : Ho × Int :=
  if (sAt h g p).1 = true then (h, rd2 h.1 (sAt h g p).2.2.1 o)
  else if (walkP h g p).2.1 = false then ((walkP h g p).1, -1)
  else (setS (inP (walkP h g p).1 g (walkP h g p).2.2.1.toNat) g p (true, (walkP h g p).2.2.1, (mAt (inP (walkP h g p).1 g (walkP h g p).2.2.1.toNat) g (walkP h g p).2.2.1.toNat).2.1, (walkP h g p).2.2.2 && (mAt (inP (walkP h g p).1 g (walkP h g p).2.2.1.toNat) g (walkP h g p).2.2.1.toNat).2.2),
    rd2 (inP (walkP h g p).1 g (walkP h g p).2.2.1.toNat).1 (mAt (inP (walkP h g p).1 g (walkP h g p).2.2.1.toNat) g (walkP h g p).2.2.1.toNat).2.1 o)
def wInH (h : Ho) (g p : Nat) : Ho × E := walkP (setS h g p s0) g p
def wInO (h : Ho) (g p : Nat) : Ho := ownP (wInH h g p).1 g (wInH h g p).2.2.1.toNat
def wInF (h : Ho) (g p : Nat) : Int := (mAt (wInO h g p) g (wInH h g p).2.2.1.toNat).2.1
def writeIn (h : Ho) (g p o : Nat) (w : Int) : Ho × Int :=
  if (sAt h g p).1 = true ∧ (sAt h g p).2.2.2 = true then ((wr2 h.1 (sAt h g p).2.2.1 o w, h.2), rd2 h.1 (sAt h g p).2.2.1 o)
  else if (wInH h g p).2.1 = false then ((wInH h g p).1, -1)
  else if (wInH h g p).2.2.2 = false then ((wInH h g p).1, -2)
  else ((wr2 (wInO h g p).1 (wInF h g p) o w, (setS (wInO h g p) g p (true, (wInH h g p).2.2.1, wInF h g p, true)).2), rd2 (wInO h g p).1 (wInF h g p) o)
def shareP (a b : Int) (g : Nat) : Nat → Nat → Ho → Ho
  | 0, _, h => h
  | n + 1, p, h => shareP a b g n (p + 1) (if (mAt h g p).1 = true ∧ ((mAt h g p).2.1 = a ∨ (mAt h g p).2.1 = b) then upG h g fun x => (x.1.set p (true, b, false), x.2.1, x.2.2.map (clr (p : Int))) else h)
def shareG (a b : Int) : Nat → Nat → Ho → Ho
  | 0, _, h => h
  | n + 1, g, h => shareG a b n (g + 1) (shareP a b g 6 0 h)
def share (h : Ho) (a b : Int) : Ho := shareG a b h.2.1.length 0 h
def canJoin (h : Ho) (a b : Nat) : Bool := decide (users h (a : Int) > 0) && decide (users h (b : Int) > 0) && eqI (List.getD h.1 a []) (List.getD h.1 b [])
def joinIn (h : Ho) (a : Nat) : Nat → Nat → Option Ho
  | 0, _ => none
  | n + 1, b => if canJoin h a b = true then some (share h (b : Int) (a : Int)) else joinIn h a n (b + 1)
def joinGo (h : Ho) : Nat → Nat → Option Ho
  | 0, _ => none
  | n + 1, a => match joinIn h a (8 - (a + 1)) (a + 1) with
    | some x => some x
    | none => joinGo h n (a + 1)
def join (h : Ho) : Ho × Bool := match joinGo h 8 0 with
  | some x => (x, true)
  | none => (h, false)
def moveP (a b : Int) (g : Nat) : Nat → Nat → Ho → Ho
  | 0, _, h => h
  | n + 1, p, h => moveP a b g n (p + 1) (if (mAt h g p).1 = true ∧ (mAt h g p).2.1 = a then upG h g fun x => (modAt x.1 p e0 fun m => (m.1, b, m.2.2), x.2.1, x.2.2.map (clr (p : Int))) else h)
def moveG (a b : Int) : Nat → Nat → Ho → Ho
  | 0, _, h => h
  | n + 1, g, h => moveG a b n (g + 1) (moveP a b g 6 0 h)
def move (h : Ho) (f : Int) : Ho × Bool :=
  if first h < 0 ∨ users h f = 0 then (h, false) else (moveG f (first h) h.2.1.length 0 (h.1.set (first h).toNat (List.getD h.1 f.toNat []), h.2), true)
def newFr : Mm := List.replicate 8 [0, 0, 0, 0]
def hn0 : Ho := (newFr, [], 0)
def newG (m : Mm) : Gt := (List.replicate 6 e0, m, List.replicate 6 s0)
def hNew (n : Int) : Ho × Bool := if within n 1 2 = true then ((newFr, List.replicate n.toNat (newG (memNew 6)), 0), true) else (h0, false)
def carryG (fr : Mm) (l : List Gt) : List Gt := l.map fun g => newG (seeG fr g)
def carry (h : Ho) : Ho := (newFr, carryG h.1 h.2.1, 0)
def doG (h : Ho) (a : A) : Ho × Int :=
  if a.1 = 5 then (forget h a.2.1, 0)
  else if within a.2.2.1 0 5 = false ∨ within a.2.2.2.1 0 3 = false then (h, -3)
  else if a.1 = 1 then readP h a.2.1.toNat a.2.2.1.toNat a.2.2.2.1.toNat
  else if a.1 = 3 then readIn h a.2.1.toNat a.2.2.1.toNat a.2.2.2.1.toNat
  else if a.1 = 2 ∧ within a.2.2.2.2 0 63 = true then writeP h a.2.1.toNat a.2.2.1.toNat a.2.2.2.1.toNat a.2.2.2.2
  else if a.1 = 4 ∧ within a.2.2.2.2 0 63 = true then writeIn h a.2.1.toNat a.2.2.1.toNat a.2.2.2.1.toNat a.2.2.2.2
  else (h, -3)
def got (b : Bool) : Int := if b = true then 0 else -3
def doH (h : Ho) (a : A) : Ho × Int :=
  if a.1 = 6 then (if within a.2.1 0 ((h.2.1.length : Int) - 1) = true ∧ within a.2.2.1 0 5 = true then (outP h a.2.1.toNat a.2.2.1.toNat, 0) else (h, -3))
  else if a.1 = 7 then ((join h).1, got (join h).2)
  else if a.1 = 8 then (if within a.2.2.1 0 7 = true then ((move h a.2.2.1).1, got (move h a.2.2.1).2) else (h, -3))
  else if a.1 = 9 then (carry h, 0)
  else if within a.2.1 0 ((h.2.1.length : Int) - 1) = true ∧ own a = true then doG h a else (h, -3)
def plays2 : List A → Ho × Pg → Ho × Pg
  | [], s => s
  | a :: l, s => plays2 l ((doH s.1 a).1, s.2 ++ [(doH s.1 a).2])
def hPlay (n : Int) (l : List A) : Ho × Pg := if (hNew n).2 = false ∨ l.length > 60 then (h0, []) else plays2 l ((hNew n).1, [])
/-- The shape that all keep. -/
def shG (g : Gt) : Prop := szOk g = true ∧ (∀ i, i < 6 → (List.getD g.1 i e0).1 = true → 0 ≤ (List.getD g.1 i e0).2.1 ∧ (List.getD g.1 i e0).2.1 ≤ 7) ∧ ∀ i, i < 6 → (List.getD g.2.2 i s0).1 = true → 0 ≤ (List.getD g.2.2 i s0).2.2.1 ∧ (List.getD g.2.2 i s0).2.2.1 ≤ 7
def shH (h : Ho) : Prop := preOk h = true ∧ ∀ i, i < h.2.1.length → shG (List.getD h.2.1 i g0)
end Go.Cm
namespace Go.Am
open Go.Cm (R rdOk)
abbrev inG (h : Cm.Ho) (g : Int) : Prop := 0 ≤ g ∧ g < (h.2.1.length : Int)
abbrev ohi (x : Cm.Ho × Int) : Alt := ⟨[], .cons (.own kH) (.cons (.vw kI) .nil), [⟨kH, x.1⟩, ⟨kI, x.2⟩]⟩
abbrev ohb (x : Cm.Ho × Bool) : Alt := ⟨[], .cons (.own kH) (.cons (.vw .bool) .nil), [⟨kH, x.1⟩, ⟨.bool, x.2⟩]⟩
abbrev inS (h : Cm.Ho) (g p : Int) : Prop := Cm.shH h ∧ inG h g ∧ 0 ≤ p ∧ p ≤ 5
def sPageS : FSpec := sp3 [pv kH, pv kI, pv kI] kH kI kI (fun h g p => inS h g p) fun h g p => ⟨[], .own kP, [⟨kP, Cm.pageG h.1 (Cm.gAt h g.toNat) p.toNat⟩]⟩
def sForgetPT : FSpec := sp3 [.take kH, pv kI, pv kI] kH kI kI (fun h g p => inS h g p) fun h g p => oh (Cm.forgetP h g.toNat p)
def sOutT : FSpec := sp3 [.take kH, pv kI, pv kI] kH kI kI (fun h g p => inS h g p) fun h g p => oh (Cm.outP h g.toNat p.toNat)
def sClearT : FSpec := sp2 [.take kH, pv kI] kH kI (fun h _ => Cm.shH h) fun h f => oh (Cm.clearF h f)
def sFirst : FSpec := sp1 [pv kH] kH (fun h => Cm.bdH h) fun h => vi (Cm.first h)
def sInT : FSpec := sp3 [.take kH, pv kI, pv kI] kH kI kI (fun h g p => inS h g p) fun h g p => oh (Cm.inP h g.toNat p.toNat)
def sOwnT : FSpec := sp3 [.take kH, pv kI, pv kI] kH kI kI (fun h g p => inS h g p) fun h g p => oh (Cm.ownP h g.toNat p.toNat)
def sReadT : FSpec := sp4 [.take kH, pv kI, pv kI, pv kI] kH kI kI kI (fun h g p o => inS h g p ∧ 0 ≤ o ∧ o ≤ 3) fun h g p o => ohi (Cm.readP h g.toNat p.toNat o.toNat)
def sWriteT : FSpec := sp5 [.take kH, pv kI, pv kI, pv kI, pv kI] kH kI kI kI kI (fun h g p o w => (inS h g p ∧ 0 ≤ o ∧ o ≤ 3) ∧ 0 ≤ w ∧ w ≤ 63) fun h g p o w => ohi (Cm.writeP h g.toNat p.toNat o.toNat w)
def sWalkT : FSpec := sp3 [.take kH, pv kI, pv kI] kH kI kI (fun h g p => inS h g p) fun h g p => ⟨[], .cons (.own kH) (.cons (.vw kE) .nil), [⟨kH, (Cm.walkP h g.toNat p.toNat).1⟩, ⟨kE, (Cm.walkP h g.toNat p.toNat).2⟩]⟩
def sReadInT : FSpec := sp4 [.take kH, pv kI, pv kI, pv kI] kH kI kI kI (fun h g p o => inS h g p ∧ 0 ≤ o ∧ o ≤ 3) fun h g p o => ohi (Cm.readIn h g.toNat p.toNat o.toNat)
def sWriteInT : FSpec := sp5 [.take kH, pv kI, pv kI, pv kI, pv kI] kH kI kI kI kI (fun h g p o w => (inS h g p ∧ 0 ≤ o ∧ o ≤ 3) ∧ 0 ≤ w ∧ w ≤ 63) fun h g p o w => ohi (Cm.writeIn h g.toNat p.toNat o.toNat w)
def sShareT : FSpec := sp3 [.take kH, pv kI, pv kI] kH kI kI (fun h a b => Cm.shH h ∧ (0 ≤ a ∧ a ≤ 7) ∧ 0 ≤ b ∧ b ≤ 7) fun h a b => oh (Cm.share h a b)
def sSame : FSpec := sp2 [pv kP, pv kP] kP kP (fun a b => a.length = 4 ∧ b.length = 4) fun a b => vb (Cm.eqI a b)
def sJoinT : FSpec := sp1 [.take kH] kH (fun h => Cm.shH h) fun h => ohb (Cm.join h)
def sMoveT : FSpec := sp2 [.take kH, pv kI] kH kI (fun h f => Cm.shH h ∧ 0 ≤ f ∧ f ≤ 7) fun h f => ohb (Cm.move h f)
def sHNew0 : FSpec := sp0 [] True ⟨[], .own kH, [⟨kH, Cm.hn0⟩]⟩
def sGuestN : FSpec := sp1 [pv kM] kM Cm.bd fun m => ⟨[], .own kG, [⟨kG, Cm.newG m⟩]⟩
def sHostNew : FSpec := sp1 [pv kI] kI (fun _ => True) fun n => ohb (Cm.hNew n)
def sCarryS : FSpec := sp1 [pv kH] kH (fun h => Cm.shH h) fun h => oh (Cm.carry h)
def sSeeS : FSpec := sp2 [pv kH, pv kI] kH kI (fun h g => Cm.shH h ∧ inG h g) fun h g => om (Cm.see h g)
def sGot : FSpec := sp1 [pv .bool] .bool (fun _ => True) fun b => vi (Cm.got b)
def sDoG : FSpec := sp2 [.take kH, pv kA] kH kA (fun h a => Cm.shH h ∧ inG h a.2.1 ∧ Cm.own a = true) fun h a => ohi (Cm.doG h a)
def sDoH : FSpec := sp2 [.take kH, pv kA] kH kA (fun h _ => Cm.shH h) fun h a => ohi (Cm.doH h a)
def sHPlay : FSpec := sp2 [pv kI, pv kAs] kI kAs (fun _ l => l.length ≤ 16777216) fun n l => ⟨[], .cons (.own kH) (.cons (.own kP) .nil), [⟨kH, (Cm.hPlay n l).1⟩, ⟨kP, (Cm.hPlay n l).2⟩]⟩
end Go.Am
namespace Go.Am
open Go.Cm (R rdOk)
def sLHost (F : R → R × Cm.Ho) : FSpec := sp1 [.box false kR] kR (fun r => rdOk r 137438953472) fun r => ⟨[⟨kR, (F r).1⟩], .fz kH, [⟨kH, (F r).2⟩]⟩
end Go.Am
namespace Go.Cm
end Go.Cm
namespace Go.Am
open Go.Cm (R rdOk)
end Go.Am
namespace Go.Cm
abbrev D1 := List Int → Ho × Int
end Go.Cm
namespace Go.Am
open Go.Cm (R rdOk)
def sWho (W : R → Cm.Ho → R × Int) : FSpec := sp2 [.box false kR, ps kH] kR kH (fun r h => rdOk r 274877906944 ∧ Cm.bdH h) fun r h => ⟨[⟨kR, (W r h).1⟩], .vw kI, [⟨kI, (W r h).2⟩]⟩
def sD1 (D : Cm.D1) : FSpec := sp1 [ps kU] kU (fun b => Cm.bytes b) fun b => ⟨[], .cons (.fz kH) (.cons (.vw kI) .nil), [⟨kH, (D b).1⟩, ⟨kI, (D b).2⟩]⟩
end Go.Am
namespace Go.Am
open Go.Cm (R rdOk)
end Go.Am
namespace Go.Cm
end Go.Cm
namespace Go.Am
open Go.Cm (R rdOk)
end Go.Am
