/-
  An abstract machine over the code of the model: its steps are sound for every program whose types fit the table; no condition beside.
-/
import Derived.Calls
import Derived.KernelRfl
import Derived.Below
import Derived.Laws.Sem
import Derived.Laws.Entries
import Derived.Laws.Cells
import Derived.Laws.StructEq
import Derived.Laws.Tables
import Derived.Laws.OwnMore
import Derived.Laws.CopyRow
set_option linter.all false
set_option maxHeartbeats 0
namespace Go.Am
def cat {α : Type} : List α → List α → List α
  | [], m => m
  | a :: l, m => a :: cat l m
def mapL {α β : Type} (f : α → β) : List α → List β
  | [] => []
  | a :: l => f a :: mapL f l
def nth {α : Type} : List α → Nat → Option α
  | [], _ => none
  | a :: _, 0 => some a
  | _ :: l, n + 1 => nth l n
def lenL {α : Type} : List α → Nat
  | [] => 0
  | _ :: l => lenL l + 1
def andB (a b : Bool) : Bool := match a with | true => b | false => false
def orB (a b : Bool) : Bool := match a with | true => true | false => b
def notB (a : Bool) : Bool := match a with | true => false | false => true
def iff' {α : Type} (c : Bool) (a b : α) : α := match c with | true => a | false => b
def allL {α : Type} (f : α → Bool) : List α → Bool
  | [] => true
  | a :: l => andB (f a) (allL f l)
def anyL {α : Type} (f : α → Bool) : List α → Bool
  | [] => false
  | a :: l => orB (f a) (anyL f l)
def filterL {α : Type} (f : α → Bool) : List α → List α
  | [] => []
  | a :: l => iff' (f a) (a :: filterL f l) (filterL f l)
def flatL {α β : Type} (f : α → List β) : List α → List β
  | [] => []
  | a :: l => cat (f a) (flatL f l)
def upto : Nat → List Nat
  | 0 => []
  | n + 1 => cat (upto n) [n]
def sameIK : (a b : IntKind) → Option (PLift (a = b))
  | .i8, .i8 => some ⟨rfl⟩
  | .i16, .i16 => some ⟨rfl⟩
  | .i32, .i32 => some ⟨rfl⟩
  | .i64, .i64 => some ⟨rfl⟩
  | .u8, .u8 => some ⟨rfl⟩
  | .u16, .u16 => some ⟨rfl⟩
  | .u32, .u32 => some ⟨rfl⟩
  | .u64, .u64 => some ⟨rfl⟩
  | _, _ => none
def eqIK (a b : IntKind) : Bool := match sameIK a b with | some _ => true | none => false
inductive K where
  | int (ik : IntKind)
  | bool
  | pair (a b : K)
  | sl (k : K)
@[reducible] def K.T : K → Type
  | .int _ => Int
  | .bool => Bool
  | .pair a b => a.T × b.T
  | .sl k => List k.T
def K.sz : K → Nat
  | .int _ => 1
  | .bool => 1
  | .pair a b => a.sz + b.sz
  | .sl _ => 1
/-- The zero of a kind. -/
def K.d : (k : K) → k.T
  | .int _ => (0 : Int)
  | .bool => false
  | .pair a b => (a.d, b.d)
  | .sl _ => []
/-- No slice inside. -/
def K.flat : K → Bool
  | .int _ => true
  | .bool => true
  | .pair a b => andB a.flat b.flat
  | .sl _ => false
def K.same : (a b : K) → Option (PLift (a = b))
  | .int i, .int j => match sameIK i j with
    | some ⟨h⟩ => some ⟨by rw [h]⟩
    | none => none
  | .bool, .bool => some ⟨rfl⟩
  | .pair a b, .pair c d =>
    match K.same a c, K.same b d with
    | some ⟨h⟩, some ⟨g⟩ => some ⟨by rw [h, g]⟩
    | _, _ => none
  | .sl a, .sl b =>
    match K.same a b with
    | some ⟨h⟩ => some ⟨by rw [h]⟩
    | none => none
  | _, _ => none
inductive Stp where
  | f
  | sn
  | i (n : Nat)
abbrev Pth := List Stp
@[reducible] def K.st (k : K) (q : Stp) : K :=
  match k with
  | .pair a b => match q with | .f => a | .sn => b | .i _ => .bool
  | .sl k => match q with | .i _ => k | _ => .bool
  | _ => .bool
def K.get1 : (k : K) → (q : Stp) → k.T → (k.st q).T
  | .pair _ _, .f, x => x.1
  | .pair _ _, .sn, x => x.2
  | .pair _ _, .i _, _ => false
  | .sl k, .i n, xs => List.getD xs n k.d
  | .sl _, .f, _ => false
  | .sl _, .sn, _ => false
  | .int _, _, _ => false
  | .bool, _, _ => false
def K.set1 : (k : K) → (q : Stp) → k.T → (k.st q).T → k.T
  | .pair _ _, .f, x, y => (y, x.2)
  | .pair _ _, .sn, x, y => (x.1, y)
  | .pair _ _, .i _, x, _ => x
  | .sl _, .i n, xs, y => List.set xs n y
  | .sl _, .f, x, _ => x
  | .sl _, .sn, x, _ => x
  | .int _, _, x, _ => x
  | .bool, _, x, _ => x
@[reducible] def K.at (k : K) : Pth → K
  | [] => k
  | q :: p => (k.st q).at p
def K.get (k : K) : (p : Pth) → k.T → (k.at p).T
  | [], x => x
  | q :: p, x => (k.st q).get p (k.get1 q x)
def K.set (k : K) : (p : Pth) → k.T → (k.at p).T → k.T
  | [], _, y => y
  | q :: p, x, y => k.set1 q x ((k.st q).set p (k.get1 q x) y)
/-- Steps into an element. -/
def ix : Pth → Nat
  | [] => 0
  | .i _ :: p => ix p + 1
  | _ :: p => ix p
/-- The path to field j of a struct of n fields. -/
def fld : (n j : Nat) → Pth
  | 0, _ => []
  | 1, _ => []
  | _ + 2, 0 => [.f]
  | n + 2, j + 1 => .sn :: fld (n + 1) j
inductive Ty where
  | int (ik : IntKind)
  | bool
  | struct (fs : List TypeId)
  | slice (e : TypeId)
  | ptr
  | other
def kindF (tab : TypeId → Ty) : Nat → TypeId → K
  | 0, _ => .bool
  | n + 1, t =>
    match tab t with
    | .int ik => .int ik
    | .bool => .bool
    | .slice e => .sl (kindF tab n e)
    | .struct fs => go (kindF tab n) fs
    | .ptr => .bool
    | .other => .bool
where
  go (f : TypeId → K) : List TypeId → K
    | [] => .bool
    | [t] => f t
    | t :: ts => .pair (f t) (go f ts)
/-- Deep enough for the types here: a host is of depth 6. -/
def kind (tab : TypeId → Ty) (t : TypeId) : K := kindF tab 9 t
inductive AV where
  | dead
  | int (ik : IntKind) (n : Int)
  | bool (b : Bool)
  | pr (a b : AV)
  | nils
  | nilp
  | vsl (k : K) (xs : List k.T)
  | rf (r gen hc : Nat) (p : Pth)
  | cut (r gen hc : Nat) (p : Pth) (lo hi : Nat)
  | rp (r gen hc : Nat) (p : Pth)
  | pb (b gen : Nat) (p : Pth)
  | vp (k : K) (x : k.T)
  | fn (f : FuncId) (first capt : AV)
  | cons (a b : AV)
  | nil
  | gd (c : Bool) (v : AV)
def AV.sub : AV → Pth → AV
  | v, [] => v
  | .pr a _, .f :: p => a.sub p
  | .pr _ b, .sn :: p => b.sub p
  | _, _ => .dead
def AV.upd : AV → Pth → AV → AV
  | _, [], u => u
  | .pr a b, .f :: p, u => .pr (a.upd p u) b
  | .pr a b, .sn :: p, u => .pr a (b.upd p u)
  | _, _, _ => .dead
/-- How many cells. -/
def AV.w : AV → Nat
  | .pr a b => Nat.add a.w b.w
  | _ => 1
def AV.isPr : AV → Bool
  | .pr _ _ => true
  | _ => false
/-- Of this kind's shape: how its structs lie in one another. -/
def likeK : K → AV → Bool
  | .pair a b, .pr u v => andB (likeK a u) (likeK b v)
  | .pair _ _, _ => false
  | _, .pr _ _ => false
  | _, _ => true
/-- May stand in a cell. -/
def AV.ok : AV → Bool
  | .int _ _ | .bool _ | .nils | .nilp | .vsl _ _ | .rf _ _ _ _ | .rp _ _ _ _ | .pb _ _ _ | .vp _ _ => true
  | .pr a b => andB a.ok b.ok
  | _ => false
/-- What a constant is. -/
def ofV : Value → AV
  | .int k n => .int k n
  | .bool b => .bool b
  | .slice none 0 0 => .nils
  | .pointer none => .nilp
  | _ => .dead
def zeroAV : K → AV
  | .int k => .int k 0
  | .bool => .bool false
  | .pair a b => .pr (zeroAV a) (zeroAV b)
  | .sl _ => .nils
def opnV : (k : K) → k.T → AV
  | .int k, n => .int k n
  | .bool, b => .bool b
  | .pair a b, x => .pr (opnV a x.1) (opnV b x.2)
  | .sl k, xs => .vsl k xs
def opnO (r gen hc : Nat) : (k : K) → Pth → k.T → AV
  | .int k, _, n => .int k n
  | .bool, _, b => .bool b
  | .pair a b, p, x => .pr (opnO r gen hc a (cat p [.f]) x.1) (opnO r gen hc b (cat p [.sn]) x.2)
  | .sl _, p, _ => .rf r gen hc p
structure RC where
  k : K
  xs : List k.T
  inn : Bool
structure RootV where
  gen : Nat
  hc : Nat
  c : Option RC
  hole : Option Pth
structure BoxV where
  gen : Nat
  c : Option AV
  ro : Bool
structure St where
  env : List (Nat × AV)
  roots : List (Nat × RootV)
  boxes : List (Nat × BoxV)
def look {α : Type} (d : α) : List (Nat × α) → Nat → α
  | [], _ => d
  | (i, x) :: l, n => iff' (Nat.beq i n) x (look d l n)
def RootV.none : RootV := ⟨0, 0, .none, .none⟩
def BoxV.none : BoxV := ⟨0, .none, false⟩
def St.s (st : St) (t : Nat) : AV := look .dead st.env t
def St.r (st : St) (i : Nat) : RootV := look .none st.roots i
def St.b (st : St) (i : Nat) : BoxV := look .none st.boxes i
def St.ws (st : St) (t : Nat) (v : AV) : St := { st with env := (t, v) :: st.env }
def St.wr (st : St) (i : Nat) (v : RootV) : St := { st with roots := (i, v) :: st.roots }
def St.wb (st : St) (i : Nat) (v : BoxV) : St := { st with boxes := (i, v) :: st.boxes }
inductive Prog where
  | fail
  | ret
  | rdS (t : Nat) (k : AV → Prog)
  | rdR (i : Nat) (k : RootV → Prog)
  | rdB (i : Nat) (k : BoxV → Prog)
  | wrS (t : Nat) (v : AV) (k : Prog)
  | wrR (i : Nat) (v : RootV) (k : Prog)
  | wrB (i : Nat) (v : BoxV) (k : Prog)
  | vc (P : Prop) (k : Prog)
  | alt (c : Prop) (a b : Prog)
  | tt
def Prog.run : Prog → St → (St → Prop) → Prop
  | .fail, _, _ => False
  | .ret, st, Q => Q st
  | .rdS t k, st, Q => (k (st.s t)).run st Q
  | .rdR i k, st, Q => (k (st.r i)).run st Q
  | .rdB i k, st, Q => (k (st.b i)).run st Q
  | .wrS t v k, st, Q => k.run (st.ws t v) Q
  | .wrR i v k, st, Q => k.run (st.wr i v) Q
  | .wrB i v k, st, Q => k.run (st.wb i v) Q
  | .vc P k, st, Q => P ∧ k.run st Q
  | .alt c a b, st, Q => (c → a.run st Q) ∧ b.run st Q
  | .tt, _, _ => True
abbrev Gd := Option Bool
def vcg (g : Gd) (P : Prop) (k : Prog) : Prog :=
  match g with
  | none => .vc P k
  | some b => .vc (b = true → P) k
def wrg (g : Gd) (dst : Option Nat) (v : AV) (k : Prog) : Prog :=
  match dst with
  | none => k
  | some d => match g with
    | none => .wrS d v k
    | some b => .wrS d (.gd b v) k
/-- A value read under a guard. -/
def un (g : Gd) (v : AV) (k : AV → Prog) : Prog :=
  match v with
  | .gd c u => vcg g (c = true) (k u)
  | v => k v
def ev (g : Gd) (o : Operand) (k : AV → Prog) : Prog :=
  match o with
  | .tmp t => .rdS t fun v => un g v k
  | .const v => k (ofV v)
  | .func f => k (.fn f .nil .nil)
  | .global _ => .fail
def evs (g : Gd) : List Operand → (List AV → Prog) → Prog
  | [], k => k []
  | o :: os, k => ev g o fun v => evs g os fun vs => k (v :: vs)
structure Dyn where
  k : K
  x : k.T
abbrev Cont := List Dyn
def Dyn.as (k : K) (d : Dyn) (c : k.T → Prog) : Prog :=
  match K.same d.k k with
  | some ⟨h⟩ => c (h ▸ d.x)
  | none => .fail
/-- A root that is alive and whole. -/
def live (gen : Nat) (rv : RootV) (k : RC → Prog) : Prog :=
  match rv.c with
  | none => .fail
  | some rc => iff' (Nat.beq gen rv.gen) (match rv.hole with | none => k rc | some _ => .fail) .fail
/-- A reference is good: what it is reached through has not been replaced. -/
def fresh (hc : Nat) (p : Pth) (rv : RootV) (inn : Bool) (n : Nat) (k : Prog) : Prog :=
  iff' (orB (Nat.blt (ix p) n) (andB inn (Nat.beq hc rv.hc))) k .fail
/-- What a slice in a root holds (read only). -/
def rdSl (r gen hc : Nat) (p : Pth) (k : (k : K) → List k.T → Prog) : Prog :=
  .rdR r fun rv => live gen rv fun rc => fresh hc p rv rc.inn 1 <|
    match h : (K.sl rc.k).at p with
    | .sl k' => k k' (cast (congrArg K.T h) ((K.sl rc.k).get p rc.xs))
    | _ => .fail
/-- A value seen as a tree, read only. -/
def vw : (k : K) → AV → (k.T → Prog) → Prog
  | .int ik, .int jk n, c => iff' (eqIK ik jk) (c n) .fail
  | .bool, .bool b, c => c b
  | .pair a b, .pr u v, c => vw a u fun x => vw b v fun y => c (x, y)
  | .sl _, .nils, c => c []
  | .sl k, .vsl k' xs, c => match K.same k' k with | some ⟨h⟩ => c (h ▸ xs) | none => .fail
  | .sl k, .rf r gen hc p, c => rdSl r gen hc p fun k' xs => match K.same k' k with | some ⟨h⟩ => c (h ▸ xs) | none => .fail
  | .sl k, .cut r gen hc p lo hi, c => rdSl r gen hc p fun k' xs => match K.same k' k with | some ⟨h⟩ => c (h ▸ ((List.take hi xs).drop lo)) | none => .fail
  | _, _, _ => .fail
/-- A value seen as an owned tree: its roots are used up. -/
def cls : (k : K) → AV → (k.T → Prog) → Prog
  | .int ik, .int jk n, c => iff' (eqIK ik jk) (c n) .fail
  | .bool, .bool b, c => c b
  | .pair a b, .pr u v, c => cls a u fun x => cls b v fun y => c (x, y)
  | .sl _, .nils, c => c []
  | .sl k, .rf r gen _ [], c => .rdR r fun rv => live gen rv fun rc =>
      iff' rc.inn (match K.same rc.k k with | some ⟨h⟩ => .wrR r { rv with gen := Nat.succ rv.gen, c := none } (c (h ▸ rc.xs)) | none => .fail) .fail
  | _, _, _ => .fail
end Go.Am
namespace Go.Am
def AV.listOf : AV → List AV
  | .cons a b => a :: b.listOf
  | _ => []
/-- A list of values. -/
def AV.isList : AV → Bool
  | .cons _ b => b.isList
  | .nil => true
  | _ => false
/-- One value, no tuple. -/
def AV.one : AV → Bool
  | .cons _ _ => false
  | .nil => false
  | .gd _ _ => false
  | _ => true
/-- Patterns of what is only looked at. -/
inductive QPat where
  | val (k : K)
  | vs (k : K)
  | same (i : Nat)
  | rbx (q : QPat)
  | fn (f : FuncId) (first capt : QPat)
  | nil
  | cons (a b : QPat)
/-- Patterns of arguments: looked at; owned for the call's time; taken for good; a struct's slices; a box. -/
inductive Pat where
  | q (q : QPat)
  | own (k : K)
  | take (k : K)
  | ro (k : K)
  | box (own : Bool) (k : K)
  | bp (k : K)
inductive RP where
  | vw (k : K)
  | own (k : K)
  | fz (k : K)
  | bx (k : K)
  | nil
  | cons (a b : RP)
def RP.isS : RP → Bool
  | .nil => false
  | .cons _ _ => false
  | _ => true
structure Alt where
  upd : Cont
  rp : RP
  res : Cont
structure FSpec where
  ps : List Pat
  pre : Cont → Prop
  alt : Cont → Alt
structure Env where
  tab : TypeId → Ty
  bytes : TypeId → Nat
  sig : FuncId → List FSpec
def nthA : List AV → Nat → AV
  | [], _ => .dead
  | v :: _, 0 => v
  | _ :: l, n + 1 => nthA l n
/-- Does a pattern fit, by shape alone (which function a function value is)? -/
def fits : Pat → AV → Bool
  | .q (.fn f _ _), .fn h _ _ => Nat.beq f h
  | .q (.fn _ _ _), _ => false
  | _, _ => true
def fitsAll : List Pat → List AV → Bool
  | [], [] => true
  | p :: ps, v :: vs => andB (fits p v) (fitsAll ps vs)
  | _, _ => false
/-- Does it hand views out? -/
def Pat.gives : Pat → Bool
  | .box false k => notB k.flat
  | _ => false
/-- Does it take in views of memory that may change later? -/
def QPat.lax : QPat → Bool
  | .val k => notB k.flat
  | .rbx _ => true
  | .fn _ a b => orB a.lax b.lax
  | .cons a b => orB a.lax b.lax
  | _ => false
def Pat.lax : Pat → Bool
  | .q x => x.lax
  | .ro _ => true
  | .bp _ => true
  | _ => false
def RP.gives : RP → Bool
  | .vw k => notB k.flat
  | .fz k => notB k.flat
  | .bx k => notB k.flat
  | .cons a b => orB a.gives b.gives
  | _ => false
/-- A value seen as a tree, in memory that lasts. -/
def vwS : (k : K) → AV → (k.T → Prog) → Prog
  | .int ik, .int jk n, c => iff' (eqIK ik jk) (c n) .fail
  | .bool, .bool b, c => c b
  | .pair a b, .pr u v, c => vwS a u fun x => vwS b v fun y => c (x, y)
  | .sl _, .nils, c => c []
  | .sl k, .vsl k' xs, c => match K.same k' k with | some ⟨h⟩ => c (h ▸ xs) | none => .fail
  | _, _, _ => .fail
/-- An owned value's content, read. -/
def ownRd : (k : K) → AV → (k.T → Prog) → Prog
  | .int ik, .int jk n, c => iff' (eqIK ik jk) (c n) .fail
  | .bool, .bool b, c => c b
  | .pair a b, .pr u v, c => ownRd a u fun x => ownRd b v fun y => c (x, y)
  | .sl k, .rf r gen hc p, c => .rdR r fun rv => live gen rv fun rc => iff' rc.inn (fresh hc p rv rc.inn 1
      (match K.same ((K.sl rc.k).at p) (.sl k) with | some ⟨h⟩ => c (h ▸ (K.sl rc.k).get p rc.xs) | none => .fail)) .fail
  | _, _, _ => .fail
/-- An owned value's content, written. -/
def ownWr : (k : K) → AV → k.T → Prog → Prog
  | .int _, _, _, c => c
  | .bool, _, _, c => c
  | .pair a b, .pr u v, x, c => ownWr a u x.1 (ownWr b v x.2 c)
  | .sl k, .rf r _ _ p, xs, c => .rdR r fun rv => match rv.c with
    | none => .fail
    | some rc => match K.same (.sl k) ((K.sl rc.k).at p) with
      | some ⟨h⟩ => .wrR r { rv with hc := Nat.succ rv.hc, c := some { rc with xs := (K.sl rc.k).set p rc.xs (h ▸ xs) } } c
      | none => .fail
  | _, _, _, _ => .fail
/-- Numbers of the first, slices of the second. -/
def mrg : (k : K) → k.T → k.T → k.T
  | .int _, n, _ => n
  | .bool, b, _ => b
  | .pair a b, x, y => (mrg a x.1 y.1, mrg b x.2 y.2)
  | .sl _, _, ys => ys
/-- A box's content behind a call: numbers anew, slices where they are. -/
def bxO : (k : K) → AV → k.T → AV
  | .int ik, _, n => .int ik n
  | .bool, _, b => .bool b
  | .pair a b, .pr u v, x => .pr (bxO a u x.1) (bxO b v x.2)
  | .sl _, u, _ => u
  | .pair _ _, _, _ => .dead
/-- The roots that a value names. -/
def roots : AV → List Nat
  | .pr a b => cat (roots a) (roots b)
  | .rf r _ _ _ => [r]
  | .cut r _ _ _ _ _ => [r]
  | _ => []
/-- What arguments are: contents; roots owned, seen; boxes owned, seen. -/
structure MR where
  xs : Cont
  o : List Nat
  v : List Nat
  b : List Nat
  rb : List Nat
def MR.join (m n : MR) : MR := ⟨cat m.xs n.xs, cat m.o n.o, cat m.v n.v, cat m.b n.b, cat m.rb n.rb⟩
def MR.nil : MR := ⟨[], [], [], [], []⟩
def mtq (args : List AV) : QPat → AV → (MR → Prog) → Prog
  | .val k, v, c => vw k v fun x => c ⟨[⟨k, x⟩], [], roots v, [], []⟩
  | .vs k, v, c => vwS k v fun x => c ⟨[⟨k, x⟩], [], [], [], []⟩
  | .same i, v, c => match v, nthA args i with
    | .pb b gen [], .pb b' gen' [] => .rdB b fun bv => match bv.c with
      | some _ => iff' (andB (Nat.beq gen bv.gen) (andB (Nat.beq b b') (Nat.beq gen gen'))) (c .nil) .fail
      | none => .fail
    | _, _ => .fail
  | .rbx q, v, c => match v with
    | .pb b gen [] => .rdB b fun bv => match bv.c with
      | some u => iff' (Nat.beq gen bv.gen) (mtq args q u fun m => c (m.join ⟨[], [], [], [], [b]⟩)) .fail
      | none => .fail
    | _ => .fail
  | .fn f p q, v, c => match v with
    | .fn h a b => iff' (andB (Nat.beq f h) (andB a.isList b.isList)) (mtq args p a fun x => mtq args q b fun y => c (x.join y)) .fail
    | _ => .fail
  | .nil, v, c => match v with | .nil => c .nil | _ => .fail
  | .cons p q, v, c => match v with
    | .cons a b => iff' (andB a.one b.isList) (mtq args p a fun x => mtq args q b fun y => c (x.join y)) .fail
    | _ => .fail
def mt (args : List AV) : Pat → AV → (MR → Prog) → Prog
  | .q q, v, c => mtq args q v c
  | .own k, v, c => ownRd k v fun x => c ⟨[⟨k, x⟩], roots v, [], [], []⟩
  | .take k, v, c => cls k v fun x => c ⟨[⟨k, x⟩], roots v, [], [], []⟩
  | .ro k, v, c => match v with
    | .rp r gen hc p => .rdR r fun rv => live gen rv fun rc => fresh hc p rv rc.inn 2 <| iff' rc.inn
        (match K.same ((K.sl rc.k).at p) k with | some ⟨h⟩ => c ⟨[⟨k, h ▸ (K.sl rc.k).get p rc.xs⟩], [r], [], [], []⟩ | none => .fail) .fail
    | .pb b gen [] => .rdB b fun bv => match bv.c with
      | some u => iff' (Nat.beq gen bv.gen) (ownRd k u fun x => c ⟨[⟨k, x⟩], roots u, [], [], [b]⟩) .fail
      | none => .fail
    | _ => .fail
  | .box own k, v, c => match v with
    | .pb b gen [] => .rdB b fun bv => match bv.c with
      | some u => iff' (andB (Nat.beq gen bv.gen) (notB bv.ro)) (iff' own (ownRd k u fun x => c ⟨[⟨k, x⟩], roots u, [], [b], []⟩) (vwS k u fun x => c ⟨[⟨k, x⟩], [], [], [b], []⟩)) .fail
      | none => .fail
    | _ => .fail
  | .bp k, v, c => match v with
    | .pb b gen [] => .rdB b fun bv => match bv.c with
      | some (.pb b2 gen2 []) => iff' (Nat.beq gen bv.gen) (.rdB b2 fun bv2 => match bv2.c with
        | some u => iff' (andB (Nat.beq gen2 bv2.gen) (notB bv2.ro)) (ownRd k u fun x => c ⟨[⟨k, x⟩], roots u, [], [b2], [b]⟩) .fail
        | none => .fail) .fail
      | _ => .fail
    | _ => .fail
def mts (args : List AV) : List Pat → List AV → (MR → Prog) → Prog
  | [], [], c => c .nil
  | p :: ps, v :: vs, c => mt args p v fun x => mts args ps vs fun y => c (x.join y)
  | _, _, _ => .fail
def memN (n : Nat) : List Nat → Bool
  | [] => false
  | m :: l => orB (Nat.beq n m) (memN n l)
def nodupN : List Nat → Bool
  | [] => true
  | n :: l => andB (notB (memN n l)) (nodupN l)
def apartN : List Nat → List Nat → Bool
  | [], _ => true
  | n :: l, m => andB (notB (memN n m)) (apartN l m)
/-- Nothing is handed on twice. -/
def MR.ok (m : MR) : Bool := andB (andB (nodupN m.o) (apartN m.o m.v)) (andB (nodupN m.b) (apartN m.b m.rb))
/-- Writes back what a call has made of its arguments' contents. -/
def wb : Pat → AV → Cont → (Cont → Prog) → Prog
  | .q _, _, ys, c => c ys
  | .take _, _, ys, c => c ys
  | .own k, v, ys, c => match ys with | y :: r => y.as k fun x => ownWr k v x (c r) | [] => .fail
  | .ro k, v, ys, c => match ys, v with
    | y :: r, .rp i _ _ p => y.as k fun x => .rdR i fun rv => match rv.c with
      | none => .fail
      | some rc => match K.same k ((K.sl rc.k).at p) with
        | some ⟨h⟩ => .wrR i { rv with hc := Nat.succ rv.hc, c := some { rc with xs := (K.sl rc.k).set p rc.xs (mrg _ ((K.sl rc.k).get p rc.xs) (h ▸ x)) } } (c r)
        | none => .fail
    | y :: r, .pb b _ [] => y.as k fun x => .rdB b fun bv => match bv.c with
      | some u => ownWr k u x (c r)
      | none => .fail
    | _, _ => .fail
  | .box own k, v, ys, c => match ys, v with
    | y :: r, .pb b _ [] => y.as k fun x => .rdB b fun bv => match bv.c with
      | some u => iff' own (ownWr k u x (.wrB b { bv with c := some (bxO k u x) } (c r))) (.wrB b { bv with c := some (opnV k x) } (c r))
      | none => .fail
    | _, _ => .fail
  | .bp k, v, ys, c => match ys, v with
    | y :: r, .pb b _ [] => y.as k fun x => .rdB b fun bv => match bv.c with
      | some (.pb b2 _ []) => .rdB b2 fun bv2 => match bv2.c with
        | some u => ownWr k u x (.wrB b2 { bv2 with c := some (bxO k u x) } (c r))
        | none => .fail
      | _ => .fail
    | _, _ => .fail
def wbs : List Pat → List AV → Cont → Prog → Prog
  | [], [], [], c => c
  | p :: ps, v :: vs, ys, c => wb p v ys fun r => wbs ps vs r c
  | _, _, _, _ => .fail
/-- The owned slices of a value, in order. -/
def slices : AV → List AV
  | .pr a b => cat (slices a) (slices b)
  | .rf r gen hc p => [.rf r gen hc p]
  | _ => []
def rid (dst j : Nat) : Nat := Nat.add (Nat.add 1000 (Nat.mul dst 8)) j
def bid (dst : Nat) : Nat := Nat.add 1000 dst
/-- A new root. -/
def newR (id : Nat) (k : K) (xs : List k.T) (inn : Bool) (c : AV → Prog) : Prog :=
  .rdR id fun rv => .wrR id ⟨Nat.succ rv.gen, 0, some ⟨k, xs, inn⟩, none⟩ (c (.rf id (Nat.succ rv.gen) 0 []))
/-- Fresh memory of a result. -/
def opnN (dst : Nat) : (k : K) → k.T → Nat → (AV → Nat → Prog) → Prog
  | .int ik, n, j, c => c (.int ik n) j
  | .bool, b, j, c => c (.bool b) j
  | .pair a b, x, j, c => opnN dst a x.1 j fun u j => opnN dst b x.2 j fun v j => c (.pr u v) j
  | .sl k, xs, j, c => newR (rid dst j) k xs true fun v => c v (j + 1)
def mkR (g : Gd) (dst : Nat) : RP → Cont → Nat → (AV → Cont → Nat → Prog) → Prog
  | .vw k, ys, j, c => match ys with | y :: r => y.as k fun x => c (opnV k x) r j | [] => .fail
  | .fz k, ys, j, c => match ys with | y :: r => y.as k fun x => c (opnV k x) r j | [] => .fail
  | .own k, ys, j, c => match ys with
    | y :: r => y.as k fun x => match g with
      | none => opnN dst k x j fun v j => c v r j
      | some _ => c (opnV k x) r j
    | [] => .fail
  | .bx k, ys, j, c => match ys, g with
    | y :: r, none => y.as k fun x => .rdB (bid dst) fun bv => .wrB (bid dst) ⟨Nat.succ bv.gen, some (opnV k x), false⟩ (c (.pb (bid dst) (Nat.succ bv.gen) []) r j)
    | _, _ => .fail
  | .nil, ys, j, c => c .nil ys j
  | .cons a b, ys, j, c => iff' (andB a.isS (notB b.isS)) (mkR g dst a ys j fun u ys j => mkR g dst b ys j fun v ys j => c (.cons u v) ys j) .fail
/-- Only looks. -/
def quiet : List Pat → Bool
  | [] => true
  | .q _ :: ps => quiet ps
  | _ => false
def altP (g : Gd) (dst : Option Nat) (S : FSpec) (args : List AV) (a : Alt) : Prog :=
  iff' (andB (orB (anyL Pat.gives S.ps) a.rp.gives) (anyL Pat.lax S.ps)) .fail <|
  wbs S.ps args a.upd <|
    match dst with
    | some d => mkR g d a.rp a.res 0 fun v _ _ => wrg g dst v .ret
    | none => .ret
/-- One contract's call. -/
def callS (g : Gd) (dst : Option Nat) (args : List AV) (S : FSpec) : Prog :=
  mts args S.ps args fun m => iff' m.ok (vcg g (S.pre m.xs) <| altP g dst S args (S.alt m.xs)) .fail
/-- A call under a guard: what only looks is looked at all the same; else the run splits, and a nought stands for the answer that isn't there. -/
def callP (E : Env) (g : Gd) (dst : Option Nat) (f : FuncId) (args : List AV) : Prog :=
  go (E.sig f)
where
  go : List FSpec → Prog
    | [] => .fail
    | S :: l => iff' (fitsAll S.ps args) (match g with
      | none => callS none dst args S
      | some b => iff' (quiet S.ps) (callS (some b) dst args S) (.alt (b = true) (callS none dst args S) (.alt (b = false) (wrg (some b) dst (.int .i64 0) .ret) .tt))) (go l)
def toCons : List AV → AV
  | [] => .nil
  | v :: l => .cons v (toCons l)
def andAll : List (Option Bool) → Option Bool
  | [] => some true
  | [e] => e
  | e :: l => match e, andAll l with
    | some a, some b => some (a && b)
    | _, _ => none
/-- Equality at a type: bools, integers, structs of these. -/
def eqT (E : Env) : Nat → TypeId → AV → AV → Option Bool
  | 0, _, _, _ => none
  | n + 1, t, x, y => match E.tab t with
    | .bool => match x, y with
      | .bool a, .bool b => some (a == b)
      | _, _ => none
    | .int ik => match x, y with
      | .int jk a, .int lk b => iff' (andB (eqIK ik jk) (eqIK ik lk)) (some (a == b)) none
      | _, _ => none
    | .struct fs => iff' (andB (andB x.ok y.ok) (andB (likeK (kind E.tab t) x) (likeK (kind E.tab t) y))) (andAll (eqFs (eqT E n) (lenL fs) 0 fs x y)) none
    | _ => none
where
  eqFs (f : TypeId → AV → AV → Option Bool) (m : Nat) : Nat → List TypeId → AV → AV → List (Option Bool)
    | _, [], _, _ => []
    | j, t :: ts, x, y => f t (x.sub (fld m j)) (y.sub (fld m j)) :: eqFs f m (Nat.succ j) ts x y
def xorI (k : IntKind) (m n : Int) : Int := k.wrap ((BitVec.ofInt k.bits m ^^^ BitVec.ofInt k.bits n).toNat : Nat)
def binP (E : Env) (t : TypeId) (g : Gd) (dst : Option Nat) (op : BinOp) (x y : AV) : Prog :=
  match x, y with
  | .int ik m, .int jk n =>
    iff' (eqIK ik jk) (match op with
      | .add => wrg g dst (.int ik (ik.wrap (m + n))) .ret
      | .sub => wrg g dst (.int ik (ik.wrap (m - n))) .ret
      | .mul => wrg g dst (.int ik (ik.wrap (m * n))) .ret
      | .quo => vcg g (n ≠ 0) (wrg g dst (.int ik (ik.wrap (m.tdiv n))) .ret)
      | .rem => vcg g (n ≠ 0) (wrg g dst (.int ik (m.tmod n)) .ret)
      | .xor => wrg g dst (.int ik (xorI ik m n)) .ret
      | .eql => wrg g dst (.bool (m == n)) .ret
      | .neq => wrg g dst (.bool (m != n)) .ret
      | .lss => wrg g dst (.bool (decide (m < n))) .ret
      | .leq => wrg g dst (.bool (decide (m ≤ n))) .ret
      | .gtr => wrg g dst (.bool (decide (m > n))) .ret
      | .geq => wrg g dst (.bool (decide (m ≥ n))) .ret
      | _ => .fail) .fail
  | _, _ =>
    match op, eqT E 3 t x y with
    | .eql, some b => wrg g dst (.bool b) .ret
    | .neq, some b => wrg g dst (.bool (!b)) .ret
    | _, _ => .fail
def lenP (g : Gd) (dst : Option Nat) (x : AV) : Prog :=
  match x with
  | .vsl _ xs => wrg g dst (.int .i64 xs.length) .ret
  | .nils => wrg g dst (.int .i64 0) .ret
  | .rf r gen hc p => rdSl r gen hc p fun _ xs => wrg g dst (.int .i64 xs.length) .ret
  | .cut _ _ _ _ lo hi => wrg g dst (.int .i64 ((hi - lo : Nat) : Int)) .ret
  | _ => .fail
def idxP (E : Env) (e : TypeId) (g : Gd) (dst : Option Nat) (x i : AV) : Prog :=
  match i with
  | .int .i64 n =>
    match x with
    | .vsl k xs => iff' (Nat.beq k.sz (kind E.tab e).sz) (vcg g (0 ≤ n ∧ n < (xs.length : Int)) (wrg g dst (.vp k (List.getD xs n.toNat k.d)) .ret)) .fail
    | .rf r gen hc p => .rdR r fun rv => (fun c => match rv.c with
        | none => .fail
        | some rc => iff' (Nat.beq gen rv.gen) (fresh hc p rv rc.inn 1 (match h : (K.sl rc.k).at p with | .sl k' => c k' (cast (congrArg K.T h) ((K.sl rc.k).get p rc.xs)) | _ => .fail)) .fail)
        fun (k' : K) (xs : List k'.T) => iff' (Nat.beq k'.sz (kind E.tab e).sz) (vcg g (0 ≤ n ∧ n < (xs.length : Int)) (wrg g dst (.rp r gen hc (cat p [.i n.toNat])) .ret)) .fail
    | _ => .fail
  | _ => .fail
/-- What lies at a place of a root may be read though the root bears a hole elsewhere. -/
def liveL (gen : Nat) (p : Pth) (rv : RootV) (k : RC → Prog) : Prog :=
  match rv.c with
  | none => .fail
  | some rc => iff' (Nat.beq gen rv.gen) (match rv.hole with | none => k rc | some h => iff' (Nat.blt (ix p) (ix h)) (k rc) .fail) .fail
/-- Is a value of this type's shape? -/
def shape (E : Env) (t : TypeId) (v : AV) : Bool :=
  match E.tab t with
  | .other => false
  | _ => likeK (kind E.tab t) v
def K.likeK : K → K → Bool
  | .pair a b, .pair c d => andB (K.likeK a c) (K.likeK b d)
  | .pair _ _, _ => false
  | _, .pair _ _ => false
  | _, _ => true
/-- Is a place of this kind one of this type? -/
def shapeK (E : Env) (t : TypeId) (k : K) : Bool :=
  match E.tab t with
  | .other => false
  | _ => K.likeK (kind E.tab t) k
def loadP (E : Env) (t : TypeId) (g : Gd) (dst : Option Nat) (x : AV) : Prog :=
  match x with
  | .pb b gen p => .rdB b fun bv => match bv.c with
    | some v => iff' (andB (Nat.beq gen bv.gen) (shape E t (v.sub p))) (wrg g dst (v.sub p) .ret) .fail
    | none => .fail
  | .rp r gen hc p => .rdR r fun rv => liveL gen p rv fun rc => fresh hc p rv rc.inn 2 <| iff' (shapeK E t ((K.sl rc.k).at p))
      (iff' rc.inn (wrg g dst (opnO r gen rv.hc ((K.sl rc.k).at p) p ((K.sl rc.k).get p rc.xs)) .ret)
        (iff' (Nat.blt (ix p) 2) (wrg g dst (opnV ((K.sl rc.k).at p) ((K.sl rc.k).get p rc.xs)) .ret) .fail)) .fail
  | .vp k x => iff' (shapeK E t k) (wrg g dst (opnV k x) .ret) .fail
  | _ => .fail
def fldP (E : Env) (t : TypeId) (q : Pth) (g : Gd) (dst : Option Nat) (v : AV) : Prog :=
  match v with
  | .pb b gen p => .rdB b fun bv => match bv.c with
    | some u => iff' (andB (Nat.beq gen bv.gen) (likeK (kind E.tab t) (u.sub p))) (wrg g dst (.pb b gen (cat p q)) .ret) .fail
    | none => .fail
  | .rp r gen hc p => .rdR r fun rv => match rv.c with
    | some rc => iff' (andB (Nat.beq gen rv.gen) (K.likeK (kind E.tab t) ((K.sl rc.k).at p))) (fresh hc p rv rc.inn 2 (wrg g dst (.rp r gen hc (cat p q)) .ret)) .fail
    | none => .fail
  | .vp k y => iff' (K.likeK (kind E.tab t) k) (wrg g dst (.vp (k.at q) (k.get q y)) .ret) .fail
  | _ => .fail
def storeB (E : Env) (t : TypeId) (b gen : Nat) (p : Pth) (v : AV) : Prog :=
  .rdB b fun bv => match bv.c with
  | none => .fail
  | some u => iff' (andB (andB (Nat.beq gen bv.gen) (notB bv.ro)) (andB (shape E t v) (shape E t (u.sub p))))
      (match v with
      | .cut r rg hc [] lo hi => .rdR r fun rv => live rg rv fun rc => .vc (hi = rc.xs.length)
          (.wrR r { rv with gen := Nat.succ rv.gen, c := some { rc with xs := rc.xs.drop lo } } (iff' (u.upd p (.rf r (Nat.succ rv.gen) hc [])).ok (.wrB b { bv with c := some (u.upd p (.rf r (Nat.succ rv.gen) hc [])) } .ret) .fail))
      | _ => iff' (u.upd p v).ok (.wrB b { bv with c := some (u.upd p v) } .ret) .fail)
      .fail
/-- A slice that lies in a root is moved to a place of another one: the first bears a hole. -/
def storeMv (r : Nat) (p : Pth) (rv : RootV) (rc : RC) (r2 gen2 hc2 : Nat) (p2 : Pth) : Prog :=
  iff' (orB (Nat.beq r r2) (notB rc.inn)) .fail <|
  match rv.hole with
  | some _ => .fail
  | none => .rdR r2 fun rv2 => live gen2 rv2 fun rc2 => fresh hc2 p2 rv2 rc2.inn 1 <| iff' rc2.inn
    (match K.same ((K.sl rc2.k).at p2) ((K.sl rc.k).at p), (K.sl rc2.k).at p2 with
    | some ⟨h⟩, .sl _ =>
      .wrR r2 { rv2 with hole := some p2 }
      (.wrR r { rv with hc := Nat.succ rv.hc, c := some { rc with xs := (K.sl rc.k).set p rc.xs (h ▸ (K.sl rc2.k).get p2 rc2.xs) } } .ret)
    | _, _ => .fail) .fail
/-- A slice is cut where it lies. -/
def storeCut (r : Nat) (p : Pth) (rv : RootV) (rc : RC) (r2 gen gen2 hc2 : Nat) (p2 : Pth) (lo hi : Nat) : Prog :=
  iff' (andB (andB (Nat.beq r r2) (Nat.beq gen gen2)) (andB (Nat.beq hc2 rv.hc) rc.inn))
    (match rv.hole with
    | some _ => .fail
    | none => match h : (K.sl rc.k).at p with
      | .sl k' => .vc (p2 = p ∧ hi = (cast (congrArg K.T h) ((K.sl rc.k).get p rc.xs) : List k'.T).length)
          (.wrR r { rv with hc := Nat.succ rv.hc, c := some { rc with xs := (K.sl rc.k).set p rc.xs (cast (congrArg K.T h.symm) (List.drop lo (cast (congrArg K.T h) ((K.sl rc.k).get p rc.xs) : List k'.T))) } } .ret)
      | _ => .fail) .fail
/-- Does a value name this root? -/
def AV.has (r : Nat) : AV → Bool
  | .pr a b => orB (a.has r) (b.has r)
  | .rf r' _ _ _ => Nat.beq r' r
  | _ => false
def storeO (r : Nat) (p : Pth) (rv : RootV) (rc : RC) (v : AV) : Prog :=
  iff' (v.has r) .fail <| cls ((K.sl rc.k).at p) v fun y =>
    match rv.hole with
    | none => .wrR r { rv with hc := Nat.succ rv.hc, c := some { rc with xs := (K.sl rc.k).set p rc.xs y } } .ret
    | some h => .vc (p = h) (.wrR r { rv with hc := Nat.succ rv.hc, hole := none, c := some { rc with xs := (K.sl rc.k).set p rc.xs y } } .ret)
/-- A store into a row whose inner slices are not owned: what is stored is owned no more. -/
def storeN (r : Nat) (p : Pth) (rv : RootV) (rc : RC) (v : AV) : Prog :=
  iff' (v.has r) .fail <| cls ((K.sl rc.k).at p) v fun y =>
    match rv.hole with
    | none => .wrR r { rv with c := some { rc with xs := (K.sl rc.k).set p rc.xs y } } .ret
    | some _ => .fail
def storeR (E : Env) (t : TypeId) (r gen hc : Nat) (p : Pth) (v : AV) : Prog :=
  .rdR r fun rv => match rv.c with
  | none => .fail
  | some rc => iff' (andB (Nat.beq gen rv.gen) (andB (shape E t v) (shapeK E t ((K.sl rc.k).at p)))) (fresh hc p rv rc.inn 2 <|
      iff' rc.inn (iff' ((K.sl rc.k).at p).flat
        (match rv.hole with
        | some _ => .fail
        | none => cls ((K.sl rc.k).at p) v fun y => .wrR r { rv with c := some { rc with xs := (K.sl rc.k).set p rc.xs y } } .ret)
        (match v with
        | .rf r2 gen2 hc2 (q :: p2) => storeMv r p rv rc r2 gen2 hc2 (q :: p2)
        | .cut r2 gen2 hc2 p2 lo hi => storeCut r p rv rc r2 gen gen2 hc2 p2 lo hi
        | _ => storeO r p rv rc v)) (storeN r p rv rc v)) .fail
def storeP (E : Env) (t : TypeId) (x v : AV) : Prog :=
  match x with
  | .pb b gen p => storeB E t b gen p v
  | .rp r gen hc p => storeR E t r gen hc p v
  | _ => .fail
def nilP {α : Type} (xs : List α) : Bool := match xs with | [] => true | _ => false
/-- append: the first slice is used up. -/
def appS (E : Env) (e : TypeId) (s : AV) (c : (k : K) → Bool → List k.T → Prog) : Prog :=
  match s with
  | .nils => c (kind E.tab e) true []
  | .rf r gen _ [] => .rdR r fun rv => live gen rv fun rc => .wrR r { rv with gen := Nat.succ rv.gen, c := none } (c rc.k rc.inn rc.xs)
  | _ => .fail
def appX (k : K) (inn : Bool) (x : AV) (c : (k : K) → Bool → List k.T → Prog) : Prog :=
  match x with
  | .nils => c k inn []
  | .vsl k' ys => c k' false ys
  | .rf r gen hc p => iff' k.flat (rdSl r gen hc p fun k' ys => c k' true ys)
      (match p with
      | [] => .rdR r fun rv => live gen rv fun rc => .wrR r { rv with gen := Nat.succ rv.gen, c := none } (c rc.k rc.inn rc.xs)
      | _ => .fail)
  | .cut r gen hc p lo hi => iff' k.flat (rdSl r gen hc p (fun k' ys => c k' true ((List.take hi ys).drop lo))) .fail
  | _ => .fail
def appJ (E : Env) (dst : Nat) (e : TypeId) (k : K) (inn : Bool) (xs : List k.T) (k' : K) (inn' : Bool) (ys : List k'.T) : Prog :=
  match K.same k' k with
  | none => .fail
  | some ⟨h⟩ => iff' (notB (Nat.beq k.sz (kind E.tab e).sz)) .fail <| .vc ((xs.length + ys.length) * E.bytes e ≤ 140737488355328) <|
      iff' (orB k.flat (andB inn inn')) (newR (rid dst 0) k (List.append xs (h ▸ ys)) true fun v => .wrS dst v .ret)
      (iff' (andB (notB inn') (orB (notB inn) (nilP xs))) (newR (rid dst 0) k (List.append xs (h ▸ ys)) false fun v => .wrS dst v .ret) .fail)
def appP (E : Env) (dst : Nat) (t : TypeId) (s x : AV) : Prog :=
  match E.tab t with
  | .slice e => appS E e s fun k inn xs => appX k inn x fun k' inn' ys => appJ E dst e k inn xs k' inn' ys
  | _ => .fail
def clsAll (k : K) : List AV → (List k.T → Prog) → Prog
  | [], c => c []
  | v :: vs, c => cls k v fun x => clsAll k vs fun xs => c (x :: xs)
/-- Does a value hold a slice that lies in a root? -/
def AV.inner : AV → Bool
  | .pr a b => orB a.inner b.inner
  | .rf _ _ _ (_ :: _) => true
  | _ => false
def vwAll (k : K) : List AV → (List k.T → Prog) → Prog
  | [], c => c []
  | v :: vs, c => vw k v fun x => vwAll k vs fun xs => c (x :: xs)
/-- Its slices lie in roots, none of them at a root's head. -/
def AV.frzOk : AV → Bool
  | .int _ _ => true
  | .bool _ => true
  | .nils => true
  | .vsl _ _ => true
  | .pr a b => andB a.frzOk b.frzOk
  | .rf _ _ _ (_ :: _) => true
  | _ => false
/-- The inner slices of the roots are owned no more. -/
def frz : List AV → Prog → Prog
  | [], c => c
  | .rf r gen _ _ :: l, c => .rdR r fun rv => live gen rv fun rc => .wrR r { rv with c := some { rc with inn := false } } (frz l c)
  | _ :: l, c => frz l c
def partsIn : Nat → List (Nat × Operand) → Option (List Operand)
  | _, [] => some []
  | n, (i, o) :: l => iff' (Nat.beq i n) (match partsIn (n + 1) l with | some r => some (o :: r) | none => none) none
def updAll (n : Nat) : AV → List Nat → List AV → AV
  | u, i :: is, v :: vs => updAll n (u.upd (fld n i) v) is vs
  | u, _, _ => u
def shapes (E : Env) (fs : List TypeId) : List Nat → List AV → Bool
  | i :: is, v :: vs => match nth fs i with
    | some t => andB (andB v.ok (shape E t v)) (shapes E fs is vs)
    | none => false
  | [], [] => true
  | _, _ => false
def boundP (v : Option AV) (d : Int) (c : Int → Prog) : Prog :=
  match v with
  | none => c d
  | some (.int .i64 n) => c n
  | _ => .fail
def sliceP (E : Env) (e : TypeId) (g : Gd) (dst : Option Nat) (x : AV) (lo hi : Option AV) : Prog :=
  match x with
  | .vsl k xs => iff' (Nat.beq k.sz (kind E.tab e).sz) (boundP lo 0 fun a => boundP hi xs.length fun b => vcg g (0 ≤ a ∧ a ≤ b ∧ b ≤ (xs.length : Int)) (wrg g dst (.vsl k ((xs.take b.toNat).drop a.toNat)) .ret)) .fail
  | .rf r gen hc p => rdSl r gen hc p fun k xs => iff' (Nat.beq k.sz (kind E.tab e).sz) (boundP lo 0 fun a => boundP hi xs.length fun b =>
      vcg g (0 ≤ a ∧ a ≤ b ∧ b ≤ (xs.length : Int)) (wrg g dst (.cut r gen hc p a.toNat b.toNat) .ret)) .fail
  | _ => .fail
/-- An operand that is wanted under a condition alone. -/
def evC (g : Gd) (t : Prop) (o : Operand) (k : AV → Prog) : Prog :=
  match o with
  | .tmp i => .rdS i fun v => match v with
    | .gd q u => vcg g (t → q = true) (k u)
    | v => k v
  | o => ev g o k
def pickB (t x y : Bool) (a b : Operand) : Bool :=
  match a, b with
  | _, .const (.bool false) => t && x
  | .const (.bool true), _ => t || y
  | _, _ => cond t x y
def opP (E : Env) (g : Gd) (o : Oper) : Prog :=
  match o.op with
  | .move x => ev g x fun v => wrg g o.dst v .ret
  | .assign x => ev g x fun v => wrg g o.dst v .ret
  | .pick c a b => ev g c fun cv => match cv with
    | .bool t =>
      evC g (t = true) a fun va => evC g (t = false) b fun vb =>
      match va, vb with
      | .bool x, .bool y => wrg g o.dst (.bool (pickB t x y a b)) .ret
      | .int ik x, .int jk y => iff' (eqIK ik jk) (wrg g o.dst (.int ik (cond t x y)) .ret) .fail
      | _, _ => .fail
    | _ => .fail
  | .alloc t => match g, o.dst with
    | none, some d => iff' (match E.tab t with | .struct _ => true | .int _ => true | .bool => true | .slice _ => true | _ => false)
      (.rdB (bid d) fun bv => .wrB (bid d) ⟨Nat.succ bv.gen, some (zeroAV (kind E.tab t)), false⟩ (.wrS d (.pb (bid d) (Nat.succ bv.gen) []) .ret)) .fail
    | _, _ => .fail
  | .box t x => match g, o.dst with
    | none, some d => ev g x fun v => iff' (andB v.ok (shape E t v)) (.rdB (bid d) fun bv => .wrB (bid d) ⟨Nat.succ bv.gen, some v, false⟩ (.wrS d (.pb (bid d) (Nat.succ bv.gen) []) .ret)) .fail
    | _, _ => .fail
  | .build t ps => match E.tab t with
    | .struct fs => evs g (mapL (fun p => p.2) ps.toList) fun vs => iff' (shapes E fs (mapL (fun p => p.1) ps.toList) vs) (wrg g o.dst (updAll (lenL fs) (zeroAV (kind E.tab t)) (mapL (fun p => p.1) ps.toList) vs) .ret) .fail
    | _ => .fail
  | .buildSlice t n ps => match g, o.dst, E.tab t, partsIn 0 ps.toList with
    | none, some d, .slice e, some os => iff' (andB (Nat.beq (lenL os) n) (Nat.ble (Nat.mul n (kind E.tab e).sz) 16777216)) (evs g os fun vs =>
        iff' (anyL AV.inner vs) (iff' (allL AV.frzOk vs)
          (vwAll (kind E.tab e) vs fun xs => frz (flatL slices vs) (newR (rid d 0) (kind E.tab e) xs false fun v => .wrS d v .ret)) .fail)
          (clsAll (kind E.tab e) vs fun xs => newR (rid d 0) (kind E.tab e) xs true fun v => .wrS d v .ret)) .fail
    | _, _, _, _ => .fail
  | .load t a => ev g a fun v => loadP E t g o.dst v
  | .store t a x => match g with
    | none => ev g a fun p => ev g x fun v => storeP E t p v
    | some _ => .fail
  | .nilCheck x => ev g x fun v => match v with
    | .pb b gen p => wrg g o.dst (.pb b gen p) .ret
    | .rp r gen hc p => wrg g o.dst (.rp r gen hc p) .ret
    | .vp k x => wrg g o.dst (.vp k x) .ret
    | _ => .fail
  | .binOp op t x y _ => ev g x fun u => ev g y fun v => binP E t g o.dst op u v
  | .unOp op _ x => ev g x fun v => match op, v with
    | .not, .bool b => wrg g o.dst (.bool (!b)) .ret
    | .neg, .int ik n => wrg g o.dst (.int ik (ik.wrap (0 - n))) .ret
    | _, _ => .fail
  | .convert t' t x => ev g x fun v => match E.tab t', E.tab t, v with
    | .int _, .int ik, .int _ n => wrg g o.dst (.int ik (ik.wrap n)) .ret
    | _, _, _ => .fail
  | .makeFunc (.func f) first capt => evs g first.toList fun a => evs g capt.toList fun b => iff' (andB (allL AV.one a) (allL AV.one b)) (wrg g o.dst (.fn f (toCons a) (toCons b)) .ret) .fail
  | .makeSlice t l c => match g, o.dst, E.tab t with
    | none, some d, .slice e => ev g l fun u => ev g c fun v => match u, v with
      | .int .i64 m, .int .i64 n => .vc (m = n ∧ 0 ≤ n ∧ n * (E.bytes e : Int) ≤ 140737488355328) <| newR (rid d 0) (kind E.tab e) (List.replicate n.toNat (kind E.tab e).d) true fun v => .wrS d v .ret
      | _, _ => .fail
    | _, _, _ => .fail
  | .slice t x lo hi mx => match mx, E.tab t with
    | none, .slice e => ev g x fun v => evs g (cat lo.toList hi.toList) fun vs => match lo, hi, vs with
      | none, none, _ => sliceP E e g o.dst v none none
      | some _, none, a :: _ => sliceP E e g o.dst v (some a) none
      | none, some _, b :: _ => sliceP E e g o.dst v none (some b)
      | some _, some _, a :: b :: _ => sliceP E e g o.dst v (some a) (some b)
      | _, _, _ => .fail
    | _, _ => .fail
  | .fieldAddr t x j => match E.tab t with
    | .struct fs => ev g x fun v => fldP E t (fld (lenL fs) j) g o.dst v
    | _ => .fail
  | .indexAddr t x i => match E.tab t with
    | .slice e => ev g x fun v => ev g i fun n => idxP E e g o.dst v n
    | _ => .fail
  | .extract x i => ev g x fun v => match nthA v.listOf i with
    | .dead => .fail
    | u => iff' u.one (wrg g o.dst u .ret) .fail
  | .call c => match c.callee with
    | .builtin .len => evs g c.args.toList fun vs => match vs, c.argTypes.toList with
      | [v], t :: _ => match E.tab t with
        | .slice _ => lenP g o.dst v
        | _ => .fail
      | _, _ => .fail
    | .builtin .append => match g, o.dst with
      | none, some d => evs g c.args.toList fun vs => match vs, c.argTypes.toList with
        | [s, x], [t, t'] => match E.tab t' with
          | .slice _ => appP E d t s x
          | _ => .fail
        | _, _ => .fail
      | _, _ => .fail
    | .builtin .max => evs g c.args.toList fun vs => match vs with
      | [.int ik m, .int jk n] => iff' (eqIK ik jk) (wrg g o.dst (.int ik (if n > m then n else m)) .ret) .fail
      | _ => .fail
    | .builtin .min => evs g c.args.toList fun vs => match vs with
      | [.int ik m, .int jk n] => iff' (eqIK ik jk) (wrg g o.dst (.int ik (if n < m then n else m)) .ret) .fail
      | _ => .fail
    | .value f => ev g f fun fv => match fv with
      | .fn h first capt => iff' (andB (andB first.isList capt.isList) (andB (allL AV.one first.listOf) (allL AV.one capt.listOf))) (evs g c.args.toList fun vs => callP E g o.dst h (cat first.listOf (cat vs capt.listOf))) .fail
      | _ => .fail
    | _ => .fail
  | _ => .fail
/-- With its guard. -/
def stepP (E : Env) (ops : List Oper) (o : Oper) : Prog :=
  match o.guard with
  | none => opP E none o
  | some (j, want) =>
    match nth ops j with
    | none => .fail
    | some oj => match oj.dst with
      | none => .fail
      | some t => .rdS t fun v => match v with
        | .bool b => opP E (some (iff' want b (!b))) o
        | .gd c (.bool b) => opP E (some (c && iff' want b (!b))) o
        | _ => .fail
end Go.Am
namespace Go.Am
structure Tr where
  rd : List Nat
  wr : List Nat
def Prog.tr : Prog → St → Tr → Option (Tr × St)
  | .ret, st, l => some (l, st)
  | .rdS t k, st, l => (k (st.s t)).tr st ⟨(3 * t) :: l.rd, l.wr⟩
  | .rdR i k, st, l => (k (st.r i)).tr st ⟨(3 * i + 1) :: l.rd, l.wr⟩
  | .rdB i k, st, l => (k (st.b i)).tr st ⟨(3 * i + 2) :: l.rd, l.wr⟩
  | .wrS t v k, st, l => k.tr (st.ws t v) ⟨l.rd, (3 * t) :: l.wr⟩
  | .wrR i v k, st, l => k.tr (st.wr i v) ⟨l.rd, (3 * i + 1) :: l.wr⟩
  | .wrB i v k, st, l => k.tr (st.wb i v) ⟨l.rd, (3 * i + 2) :: l.wr⟩
  | .vc _ k, st, l => k.tr st l
  | _, _, _ => none
def trAll (E : Env) (ops : List Oper) : List Oper → St → Option (List Tr)
  | [], _ => some []
  | o :: os, st => match (stepP E ops o).tr st ⟨[], []⟩ with
    | some (t, st') => match trAll E ops os st' with
      | some l => some (t :: l)
      | none => none
    | none => none
def meet : List Nat → List Nat → Bool
  | [], _ => false
  | n :: l, m => orB (memN n m) (meet l m)
def sure (e : Edge) : Bool :=
  match e.ground with
  | .textOnly _ => false
  | .gcOnly _ => false
  | _ => true
/-- What comes before each operation, surely (itself apart). -/
def nthL {α : Type} (l : List (List α)) (i : Nat) : List α := match nth l i with | some x => x | none => []
/-- Each number once. -/
def uniqN : List Nat → List Nat
  | [] => []
  | n :: l => iff' (memN n l) (uniqN l) (n :: uniqN l)
def befores : List Oper → List (List Nat) → List (List Nat)
  | [], acc => acc
  | o :: os, acc => befores os (cat acc [uniqN (flatL (fun e => e.on :: nthL acc e.on) (filterL sure o.after.toList))])
def pairOk (bs : List (List Nat)) (ts : List Tr) (i j : Nat) : Bool :=
  orB (memN i (nthL bs j)) <|
  match nth ts i, nth ts j with
  | some a, some b => notB (orB (meet a.wr b.rd) (orB (meet a.wr b.wr) (meet b.wr a.rd)))
  | _, _ => false
def drawOk (E : Env) (ops : List Oper) (st : St) : Bool :=
  match trAll E ops ops st with
  | none => false
  | some ts => allL (fun j => andB (allL (fun i => Nat.blt i j) (nthL (befores ops []) j)) (allL (fun i => pairOk (befores ops []) ts i j) (upto j))) (upto (lenL ops))
def opsRun (E : Env) (ops : List Oper) : List Oper → St → (St → Prop) → Prop
  | [], st, Q => Q st
  | o :: os, st, Q => (stepP E ops o).run st fun st => opsRun E ops os st Q
def ren (l : List (Nat × Nat)) (i : Nat) : Option Nat := look none (mapL (fun p => (p.1, some p.2)) l) i
def AV.eqP (rr rb : Nat → Option Nat) (sr : Nat → RootV) (sb : Nat → BoxV) : AV → AV → Prop
  | .dead, _ => True
  | .int ik m, .int jk n => iff' (eqIK ik jk) (m = n) False
  | .bool a, .bool b => a = b
  | .pr a b, .pr c d => a.eqP rr rb sr sb c ∧ b.eqP rr rb sr sb d
  | .nils, .nils => True
  | .nilp, .nilp => True
  | .vsl k xs, .vsl k' ys => match K.same k' k with | some ⟨h⟩ => xs = h ▸ ys | none => False
  | .vsl _ xs, .nils => xs = []
  | .rf r g h p, .rf r' g' h' p' => match rr r with
    | some i => iff' (andB (andB (Nat.beq i r') (andB (Nat.beq g 0) (Nat.beq h 0))) (andB (Nat.beq g' (sr i).gen) (orB (Nat.beq h' (sr i).hc) (Nat.blt (ix p') 1)))) (p = p') False
    | none => False
  | .rp r g h p, .rp r' g' h' p' => match rr r with
    | some i => iff' (andB (andB (Nat.beq i r') (andB (Nat.beq g 0) (Nat.beq h 0))) (andB (Nat.beq g' (sr i).gen) (orB (Nat.beq h' (sr i).hc) (Nat.blt (ix p') 2)))) (p = p') False
    | none => False
  | .pb b g p, .pb b' g' p' => match rb b with
    | some i => iff' (andB (Nat.beq i b') (andB (Nat.beq g 0) (Nat.beq g' (sb i).gen))) (p = p') False
    | none => False
  | .vp k x, .vp k' y => match K.same k' k with | some ⟨h⟩ => x = h ▸ y | none => False
  | .fn f a b, .fn g c d => iff' (Nat.beq f g) (a.eqP rr rb sr sb c ∧ b.eqP rr rb sr sb d) False
  | .cons a b, .cons c d => a.eqP rr rb sr sb c ∧ b.eqP rr rb sr sb d
  | .nil, .nil => True
  | _, _ => False
def RC.eqP (a b : RC) : Prop :=
  match K.same b.k a.k with
  | some ⟨h⟩ => iff' (iff' a.inn b.inn (notB b.inn)) (a.xs = h ▸ b.xs) False
  | none => False
def inj : List (Nat × Nat) → Bool
  | [] => true
  | (a, b) :: l => andB (allL (fun p => notB (orB (Nat.beq a p.1) (Nat.beq b p.2))) l) (inj l)
def pairsOf : AV → AV → List (Nat × Nat) × List (Nat × Nat)
  | .rf r _ _ _, .rf r' _ _ _ => ([(r, r')], [])
  | .rp r _ _ _, .rp r' _ _ _ => ([(r, r')], [])
  | .pb b _ _, .pb b' _ _ => ([], [(b, b')])
  | .pr a b, .pr c d => (cat (pairsOf a c).1 (pairsOf b d).1, cat (pairsOf a c).2 (pairsOf b d).2)
  | .fn _ a b, .fn _ c d => (cat (pairsOf a c).1 (pairsOf b d).1, cat (pairsOf a c).2 (pairsOf b d).2)
  | .cons a b, .cons c d => (cat (pairsOf a c).1 (pairsOf b d).1, cat (pairsOf a c).2 (pairsOf b d).2)
  | _, _ => ([], [])
def addP (l : List (Nat × Nat)) : List (Nat × Nat) → List (Nat × Nat)
  | [] => l
  | p :: ps => addP (iff' (anyL (fun q => andB (Nat.beq q.1 p.1) (Nat.beq q.2 p.2)) l) l (cat l [p])) ps
def envPairs (st : St) : List (Nat × AV) → List (Nat × Nat) × List (Nat × Nat) → List (Nat × Nat) × List (Nat × Nat)
  | [], acc => acc
  | (t, v) :: l, acc => envPairs st l (addP acc.1 (pairsOf v (st.s t)).1, addP acc.2 (pairsOf v (st.s t)).2)
def boxPairs (st st' : St) : List (Nat × Nat) → List (Nat × Nat) × List (Nat × Nat) → List (Nat × Nat) × List (Nat × Nat)
  | [], acc => acc
  | (i, j) :: l, acc => match (st'.b i).c, (st.b j).c with
    | some u, some v => boxPairs st st' l (addP acc.1 (pairsOf u v).1, addP acc.2 (pairsOf u v).2)
    | _, _ => boxPairs st st' l acc
def renOf (st st' : St) : List (Nat × Nat) × List (Nat × Nat) :=
  (fun a : List (Nat × Nat) × List (Nat × Nat) => (fun b : List (Nat × Nat) × List (Nat × Nat) => boxPairs st st' b.2 b) (boxPairs st st' a.2 a)) (envPairs st st'.env ([], []))
def allP {α : Type} (P : α → Prop) : List α → Prop
  | [] => True
  | [x] => P x
  | x :: l => P x ∧ allP P l
def weakR (st : St) (r : List (Nat × Nat)) (p : Nat × RootV) : Prop :=
  match p.2.c with
  | none => True
  | some rc => match ren r p.1 with
    | none => False
    | some i => match (st.r i).c, (st.r i).hole, p.2.hole with
      | some rc', none, none => iff' (andB (Nat.beq p.2.gen 0) (Nat.beq p.2.hc 0)) (rc.eqP rc') False
      | _, _, _ => False
def weakB (st : St) (r : List (Nat × Nat) × List (Nat × Nat)) (p : Nat × BoxV) : Prop :=
  match p.2.c with
  | none => True
  | some u => match ren r.2 p.1 with
    | none => False
    | some i => match (st.b i).c with
      | none => False
      | some v => iff' (andB (andB u.ok (Nat.beq p.2.gen 0)) (iff' p.2.ro (st.b i).ro (notB (st.b i).ro))) (u.eqP (ren r.1) (ren r.2) st.r st.b v) False
def weakS (st : St) (r : List (Nat × Nat) × List (Nat × Nat)) (p : Nat × AV) : Prop :=
  p.2.eqP (ren r.1) (ren r.2) st.r st.b (st.s p.1)
/-- What came in stays where it is. -/
def stays (gen : Nat → Nat) (p : Nat × Nat) : Bool := orB (notB (Nat.blt p.1 1000)) (andB (Nat.beq p.1 p.2) (Nat.beq (gen p.2) 0))
def weakBy (st st' : St) (r : List (Nat × Nat) × List (Nat × Nat)) : Prop :=
  iff' (andB (andB (inj r.1) (inj r.2)) (andB (allL (stays fun i => (st.r i).gen) r.1) (allL (stays fun i => (st.b i).gen) r.2))) (allP (weakS st r) st'.env ∧ allP (weakR st r.1) st'.roots ∧ allP (weakB st r) st'.boxes) False
def Weak (st st' : St) : Prop := weakBy st st' (renOf st st')
inductive Ex where
  | normal
  | exit (id : Nat)
  | ret
def loopR (run : St → (Ex → St → Prop) → Prop) (st : St) (Q : Ex → St → Prop) : Prop :=
  ∃ (α : Type) (f : α → St) (m : α → Nat) (I : α → Prop), ((∃ a, I a ∧ Weak st (f a)) ∨ ∃ B : Nat, run st fun e st' => match e with
      | .normal => ∃ a', (I a' ∧ m a' < B) ∧ Weak st' (f a')
      | .exit i => Q (.exit i) st'
      | .ret => Q .ret st') ∧
    ∀ a, I a → run (f a) fun e st' => match e with
      | .normal => ∃ a', (I a' ∧ m a' < m a) ∧ Weak st' (f a')
      | .exit i => Q (.exit i) st'
      | .ret => Q .ret st'
def thenR (Q : Ex → St → Prop) (k : St → Prop) (e : Ex) (st : St) : Prop :=
  match e with
  | .normal => k st
  | .exit i => Q (.exit i) st
  | .ret => Q .ret st
def blockR (id : Nat) (Q : Ex → St → Prop) (e : Ex) (st : St) : Prop :=
  match e with
  | .normal => Q .normal st
  | .exit i => iff' (Nat.beq i id) (Q .normal st) (Q (.exit i) st)
  | .ret => Q .ret st
def run (E : Env) : Code → St → (Ex → St → Prop) → Prop
  | .skip, st, Q => Q .normal st
  | .label _, st, Q => Q .normal st
  | .region _ ops draw, st, Q => iff' draw (iff' (drawOk E ops.toList st) (opsRun E ops.toList ops.toList st (Q .normal)) False) (opsRun E ops.toList ops.toList st (Q .normal))
  | .seq a b, st, Q => run E a st (thenR Q fun st => run E b st Q)
  | .cond c a b, st, Q => match c with
    | .tmp t => match st.s t with
      | .bool x => (x = true → run E a (st.ws t (.bool true)) Q) ∧ (x = false → run E b (st.ws t (.bool false)) Q)
      | .gd q (.bool x) => q = true ∧ (x = true → run E a (st.ws t (.bool true)) Q) ∧ (x = false → run E b (st.ws t (.bool false)) Q)
      | _ => False
    | .const (.bool x) => match x with
      | true => run E a st Q
      | false => run E b st Q
    | _ => False
  | .block id c, st, Q => run E c st (blockR id Q)
  | .loop c, st, Q => loopR (run E c) st Q
  | .exit id, st, Q => Q (.exit id) st
  | .ret, st, Q => Q .ret st
  | _, _, _ => False
structure Ini where
  avs : List AV
  nr : Nat
  nb : Nat
  roots : List (Nat × RootV)
  boxes : List (Nat × BoxV)
def iniO : (k : K) → k.T → Nat → AV × List (Nat × RootV) × Nat
  | .int ik, n, j => (.int ik n, [], j)
  | .bool, b, j => (.bool b, [], j)
  | .pair a b, x, j =>
    let u := iniO a x.1 j
    let v := iniO b x.2 u.2.2
    (.pr u.1 v.1, cat u.2.1 v.2.1, v.2.2)
  | .sl k, xs, j => (.rf j 0 0 [], [(j, ⟨0, 0, some ⟨k, xs, true⟩, none⟩)], j + 1)
/-- How many slices, how many read-only boxes. -/
def K.nsl : K → Nat
  | .int _ => 0
  | .bool => 0
  | .pair a b => Nat.add a.nsl b.nsl
  | .sl _ => 1
def QPat.nb : QPat → Nat
  | .rbx q => Nat.succ q.nb
  | .fn _ a b => Nat.add a.nb b.nb
  | .cons a b => Nat.add a.nb b.nb
  | _ => 0
/-- The value that a pattern begins with, and what is left of the contents. -/
def iniq : QPat → Cont → Ini → Option (AV × Cont × Ini)
  | .val k, xs, s => match xs with
    | ⟨k', x⟩ :: r => match K.same k' k with
      | some ⟨h⟩ => some (opnV k (h ▸ x), r, s)
      | none => none
    | [] => none
  | .vs k, xs, s => match xs with
    | ⟨k', x⟩ :: r => match K.same k' k with
      | some ⟨h⟩ => some (opnV k (h ▸ x), r, s)
      | none => none
    | [] => none
  | .same i, xs, s => some (nthA s.avs i, xs, s)
  | .rbx q, xs, s => match iniq q xs s with
    | some (v, r, s') => iff' (notB v.ok) none <| some (.pb s'.nb 0 [], r, { s' with nb := s'.nb + 1, boxes := cat s'.boxes [(s'.nb, ⟨0, some v, true⟩)] })
    | none => none
  | .fn f p q, xs, s => match iniq p xs s with
    | some (a, r, s') => match iniq q r s' with
      | some (b, r', s'') => iff' (andB a.isList b.isList) (some (.fn f a b, r', s'')) none
      | none => none
    | none => none
  | .nil, xs, s => some (.nil, xs, s)
  | .cons p q, xs, s => match iniq p xs s with
    | some (a, r, s') => match iniq q r s' with
      | some (b, r', s'') => iff' (andB a.one b.isList) (some (.cons a b, r', s'')) none
      | none => none
    | none => none
def ini : Pat → Cont → Ini → Option (AV × Cont × Ini)
  | .q q, xs, s => iniq q xs s
  | .own k, xs, s => match xs with
    | ⟨k', x⟩ :: r => match K.same k' k with
      | some ⟨h⟩ => (fun u : AV × List (Nat × RootV) × Nat => some (u.1, r, { s with nr := u.2.2, roots := cat s.roots u.2.1 })) (iniO k (h ▸ x) s.nr)
      | none => none
    | [] => none
  | .take k, xs, s => match xs with
    | ⟨k', x⟩ :: r => match K.same k' k with
      | some ⟨h⟩ => (fun u : AV × List (Nat × RootV) × Nat => some (u.1, r, { s with nr := u.2.2, roots := cat s.roots u.2.1 })) (iniO k (h ▸ x) s.nr)
      | none => none
    | [] => none
  | .ro k, xs, s => match xs with
    | ⟨k', x⟩ :: r => match K.same k' k with
      | some ⟨h⟩ => (fun u : AV × List (Nat × RootV) × Nat => some (.pb s.nb 0 [], r, { s with nr := u.2.2, nb := s.nb + 1, roots := cat s.roots u.2.1, boxes := cat s.boxes [(s.nb, ⟨0, some u.1, true⟩)] })) (iniO k (h ▸ x) s.nr)
      | none => none
    | [] => none
  | .box own k, xs, s => match xs with
    | ⟨k', x⟩ :: r => match K.same k' k with
      | some ⟨h⟩ => iff' own ((fun u : AV × List (Nat × RootV) × Nat => some (.pb s.nb 0 [], r, { s with nr := u.2.2, nb := s.nb + 1, roots := cat s.roots u.2.1, boxes := cat s.boxes [(s.nb, ⟨0, some u.1, false⟩)] })) (iniO k (h ▸ x) s.nr))
        (some (.pb s.nb 0 [], r, { s with nb := s.nb + 1, boxes := cat s.boxes [(s.nb, ⟨0, some (opnV k (h ▸ x)), false⟩)] }))
      | none => none
    | [] => none
  | .bp k, xs, s => match xs with
    | ⟨k', x⟩ :: r => match K.same k' k with
      | some ⟨h⟩ => (fun u : AV × List (Nat × RootV) × Nat => some (.pb s.nb 0 [], r, { s with nr := u.2.2, nb := s.nb + 2, roots := cat s.roots u.2.1, boxes := cat s.boxes [(s.nb, ⟨0, some (.pb (s.nb + 1) 0 []), true⟩), (s.nb + 1, ⟨0, some u.1, false⟩)] })) (iniO k (h ▸ x) s.nr)
      | none => none
    | [] => none
def inis : List Pat → Cont → Ini → Option Ini
  | [], [], s => some s
  | p :: ps, xs, s => match ini p xs s with
    | some (v, r, s') => inis ps r { s' with avs := cat s'.avs [v] }
    | none => none
  | _, _, _ => none
def zipN : Nat → List AV → List (Nat × AV)
  | _, [] => []
  | n, v :: l => (n, v) :: zipN (n + 1) l
def St.init (i : Ini) : St := ⟨zipN 0 i.avs, i.roots, i.boxes⟩
/-- A root of the start that must hold this. -/
def endR (j : Nat) (k : K) (xs : List k.T) (c : Prog) : Prog :=
  .rdR j fun rv => live 0 rv fun rc => iff' rc.inn (match K.same rc.k k with | some ⟨h⟩ => .vc ((h ▸ rc.xs : List k.T) = xs) c | none => .fail) .fail
def endO : (k : K) → k.T → Nat → (Nat → Prog) → Prog
  | .int _, _, j, c => c j
  | .bool, _, j, c => c j
  | .pair a b, x, j, c => endO a x.1 j fun j => endO b x.2 j c
  | .sl k, xs, j, c => endR j k xs (c (j + 1))
/-- A box's content at the end: numbers told, slices where they were. -/
def endB : (k : K) → AV → k.T → Nat → (Nat → Prog) → Prog
  | .int ik, .int jk n, m, j, c => iff' (eqIK ik jk) (.vc (n = m) (c j)) .fail
  | .bool, .bool b, b', j, c => .vc (b = b') (c j)
  | .pair a b, .pr u v, x, j, c => endB a u x.1 j fun j => endB b v x.2 j c
  | .sl k, .rf r gen _ [], xs, j, c => iff' (andB (Nat.beq r j) (Nat.beq gen 0)) (endR j k xs (c (j + 1))) .fail
  | _, _, _, _, _ => .fail
def fin : Pat → Cont → Nat → Nat → (Cont → Nat → Nat → Prog) → Prog
  | .q q, ys, nr, nb, c => c ys nr (Nat.add nb q.nb)
  | .take k, ys, nr, nb, c => c ys (Nat.add nr k.nsl) nb
  | .own k, ys, nr, nb, c => match ys with | y :: r => y.as k fun x => endO k x nr fun nr => c r nr nb | [] => .fail
  | .ro k, ys, nr, nb, c => match ys with | y :: r => y.as k fun x => endO k x nr fun nr => c r nr (nb + 1) | [] => .fail
  | .box own k, ys, nr, nb, c => match ys with
    | y :: r => y.as k fun x => .rdB nb fun bv => match bv.c with
      | some u => iff' (andB (Nat.beq bv.gen 0) (notB bv.ro)) (iff' own (endB k u x nr fun nr => c r nr (nb + 1)) (vwS k u fun z => .vc (z = x) (c r nr (nb + 1)))) .fail
      | none => .fail
    | [] => .fail
  | .bp k, ys, nr, nb, c => match ys with
    | y :: r => y.as k fun x => .rdB (nb + 1) fun bv => match bv.c with
      | some u => iff' (andB (Nat.beq bv.gen 0) (notB bv.ro)) (endB k u x nr fun nr => c r nr (nb + 2)) .fail
      | none => .fail
    | [] => .fail
def fins : List Pat → Cont → Nat → Nat → Prog → Prog
  | [], [], _, _, c => c
  | p :: ps, ys, nr, nb, c => fin p ys nr nb fun ys nr nb => fins ps ys nr nb c
  | _, _, _, _, _ => .fail
/-- A value seen as a tree for good: its roots are used up. -/
def clsV : (k : K) → AV → (k.T → Prog) → Prog
  | .int ik, .int jk n, c => iff' (eqIK ik jk) (c n) .fail
  | .bool, .bool b, c => c b
  | .pair a b, .pr u v, c => clsV a u fun x => clsV b v fun y => c (x, y)
  | .sl _, .nils, c => c []
  | .sl k, .vsl k' xs, c => match K.same k' k with | some ⟨h⟩ => c (h ▸ xs) | none => .fail
  | .sl k, .rf r gen _ [], c => .rdR r fun rv => live gen rv fun rc =>
      match K.same rc.k k with | some ⟨h⟩ => .wrR r { rv with gen := Nat.succ rv.gen, c := none } (c (h ▸ rc.xs)) | none => .fail
  | _, _, _ => .fail
/-- As 'cls', and a root's slice cut at its front. -/
def clsR (k : K) (v : AV) (c : k.T → Prog) : Prog :=
  match k, v, c with
  | .sl k', .cut r gen hc [] lo hi, c => cls (.sl k') (.rf r gen hc []) fun xs => .vc (lo ≤ hi ∧ hi = List.length xs) (c (List.drop lo xs))
  | k, v, c => cls k v c
/-- A result. -/
def res : RP → AV → Cont → (Cont → Prog) → Prog
  | .vw k, v, ys, c => match ys with | y :: r => y.as k fun x => vwS k v fun z => .vc (z = x) (c r) | [] => .fail
  | .own k, v, ys, c => match ys with | y :: r => y.as k fun x => clsR k v fun z => .vc (z = x) (c r) | [] => .fail
  | .fz k, v, ys, c => match ys with | y :: r => y.as k fun x => clsV k v fun z => .vc (z = x) (c r) | [] => .fail
  | .bx k, v, ys, c => match ys, v with
    | y :: r, .pb b gen [] => y.as k fun x => iff' (Nat.blt b 1000) .fail <| .rdB b fun bv => match bv.c with
      | some u => iff' (andB (Nat.beq gen bv.gen) (notB bv.ro)) (vwS k u fun z => .vc (z = x) (.wrB b { bv with gen := Nat.succ bv.gen, c := none } (c r))) .fail
      | none => .fail
    | _, _ => .fail
  | .nil, v, ys, c => match v with | .nil => c ys | _ => .fail
  | .cons a b, v, ys, c => match v with
    | .cons u w => iff' (andB u.one w.isList) (res a u ys fun ys => res b w ys c) .fail
    | _ => .fail
/-- The result variables read. -/
def rv1 (E : Env) (r : ResultVar) (c : AV → Prog) : Prog :=
  match r with
  | .tmp t => .rdS t c
  | .cell t ty => .rdS t fun v => match v with
    | .pb b gen p => .rdB b fun bv => match bv.c with
      | some u => iff' (andB (Nat.beq gen bv.gen) (shape E ty (u.sub p))) (c (u.sub p)) .fail
      | none => .fail
    | _ => .fail
def rvs (E : Env) : List ResultVar → (AV → Prog) → Prog
  | [], c => c .nil
  | r :: l, c => rv1 E r fun v => iff' v.one (rvs E l fun w => c (.cons v w)) .fail
def rvAll (E : Env) (l : List ResultVar) (c : AV → Prog) : Prog :=
  match l with
  | [r] => rv1 E r c
  | l => rvs E l c
def altE (E : Env) (fn : Func) (S : FSpec) (st : St) (a : Alt) : Prop :=
  (rvAll E fn.results.toList fun v => res a.rp v a.res fun ys => match ys with
    | [] => fins S.ps a.upd 0 0 .ret
    | _ => .fail).run st fun _ => True
def finQ (E : Env) (fn : Func) (S : FSpec) (xs : Cont) (e : Ex) (st : St) : Prop :=
  match e with
  | .exit _ => False
  | _ => altE E fn S st (S.alt xs)
def FOk (E : Env) (fn : Func) (S : FSpec) : Prop :=
  ∀ xs, S.pre xs → match inis S.ps xs ⟨[], 0, 0, [], []⟩, fn.body with
    | some i, some c => run E c (St.init i) (finQ E fn S xs)
    | _, _ => False
end Go.Am
namespace Go.Am
structure SL (α : Type) where
  a : Option Nat
  pre : List Value
  post : List Value
  cap : Nat
  els : List α
@[reducible] def K.L : K → Type
  | .int _ => Unit
  | .bool => Unit
  | .pair a b => a.L × b.L
  | .sl k => SL k.L
def K.dl : (k : K) → k.L
  | .int _ => ()
  | .bool => ()
  | .pair a b => (a.dl, b.dl)
  | .sl _ => ⟨none, [], [], 0, []⟩
def hdr : (k : K) → k.T → k.L → List Value
  | .int ik, n, _ => [.int ik n]
  | .bool, b, _ => [.bool b]
  | .pair a b, x, l => hdr a x.1 l.1 ++ hdr b x.2 l.2
  | .sl _, xs, l => [.slice (l.a.map fun b => ⟨b, l.pre.length, none⟩) (List.length xs) l.cap]
def zipC {α β : Type} (f : α → β → List Value) : List α → List β → List Value
  | x :: xs, l :: ls => f x l ++ zipC f xs ls
  | _, _ => []
def zipR {α β : Type} (f : α → β → List (Nat × List Value)) : List α → List β → List (Nat × List Value)
  | x :: xs, l :: ls => f x l ++ zipR f xs ls
  | _, _ => []
def row0 (k : K) (xs : List k.T) (l : SL k.L) : List (Nat × List Value) :=
  match l.a with
  | none => []
  | some b => [(b, l.pre ++ zipC (hdr k) xs l.els ++ l.post)]
def rows : (k : K) → k.T → k.L → List (Nat × List Value)
  | .int _, _, _ => []
  | .bool, _, _ => []
  | .pair a b, x, l => rows a x.1 l.1 ++ rows b x.2 l.2
  | .sl k, xs, l => row0 k xs l ++ zipR (rows k) xs l.els
def allZ {α β : Type} (f : α → β → Prop) : List α → List β → Prop
  | x :: xs, l :: ls => f x l ∧ allZ f xs ls
  | [], [] => True
  | _, _ => False
def Fit : (k : K) → k.T → k.L → Prop
  | .int _, _, _ => True
  | .bool, _, _ => True
  | .pair a b, x, l => Fit a x.1 l.1 ∧ Fit b x.2 l.2
  | .sl k, xs, l => allZ (Fit k) xs l.els ∧ List.length xs ≤ l.cap ∧ (l.cap - List.length xs) * k.sz ≤ l.post.length ∧ (l.a = none → l.cap = 0 ∧ l.pre = [])
theorem hdr_length : ∀ (k : K) (x : k.T) (l : k.L), (hdr k x l).length = k.sz
  | .int _, _, _ => rfl
  | .bool, _, _ => rfl
  | .pair a b, x, l => by simp [hdr, K.sz, hdr_length a, hdr_length b]
  | .sl _, _, _ => rfl
theorem sz_pos : ∀ k : K, 0 < k.sz
  | .int _ => Nat.one_pos
  | .bool => Nat.one_pos
  | .pair a b => by have := sz_pos a; simp only [K.sz]; omega
  | .sl _ => Nat.one_pos
theorem allZ_length {α β : Type} {f : α → β → Prop} : ∀ {xs : List α} {ls : List β}, allZ f xs ls → xs.length = ls.length
  | [], [], _ => rfl
  | _ :: _, _ :: _, h => by simp [allZ_length h.2]
  | [], _ :: _, h => h.elim
  | _ :: _, [], h => h.elim
theorem allZ_get {α β : Type} {f : α → β → Prop} : ∀ {xs : List α} {ls : List β} (_ : allZ f xs ls) (n : Nat) (d : α) (e : β), n < xs.length → f (xs.getD n d) (ls.getD n e)
  | [], [], _, _, _, _, h => by simp at h
  | _ :: _, _ :: _, h, 0, _, _, _ => by simpa using h.1
  | _ :: xs, _ :: ls, h, n + 1, d, e, hn => by simpa using allZ_get h.2 n d e (by simpa using hn)
  | [], _ :: _, h, _, _, _, _ => h.elim
  | _ :: _, [], h, _, _, _, _ => h.elim
theorem allZ_set {α β : Type} {f : α → β → Prop} : ∀ {xs : List α} {ls : List β} (_ : allZ f xs ls) (n : Nat) (x : α) (l : β), f x l → allZ f (xs.set n x) (ls.set n l)
  | [], [], _, _, _, _, _ => by simp [allZ]
  | _ :: _, _ :: _, h, 0, _, _, hx => ⟨hx, h.2⟩
  | _ :: _, _ :: _, h, n + 1, x, l, hx => ⟨h.1, allZ_set h.2 n x l hx⟩
  | [], _ :: _, h, _, _, _, _ => h.elim
  | _ :: _, [], h, _, _, _, _ => h.elim
theorem allZ_append {α β : Type} {f : α → β → Prop} : ∀ {xs : List α} {ls : List β} {ys : List α} {ms : List β}, allZ f xs ls → allZ f ys ms → allZ f (xs ++ ys) (ls ++ ms)
  | [], [], _, _, _, h => h
  | _ :: _, _ :: _, _, _, g, h => ⟨g.1, allZ_append g.2 h⟩
  | [], _ :: _, _, _, g, _ => g.elim
  | _ :: _, [], _, _, g, _ => g.elim
theorem allZ_drop {α β : Type} {f : α → β → Prop} : ∀ (n : Nat) {xs : List α} {ls : List β}, allZ f xs ls → allZ f (xs.drop n) (ls.drop n)
  | 0, _, _, h => h
  | _ + 1, [], [], _ => trivial
  | n + 1, _ :: _, _ :: _, h => allZ_drop n h.2
  | _ + 1, [], _ :: _, h => h.elim
  | _ + 1, _ :: _, [], h => h.elim
theorem zipC_length {k : K} : ∀ (xs : List k.T) (ls : List k.L), xs.length = ls.length → (zipC (hdr k) xs ls).length = xs.length * k.sz
  | [], [], _ => by simp [zipC]
  | x :: xs, l :: ls, h => by
    simp only [zipC, List.length_append, hdr_length, List.length_cons, zipC_length xs ls (by simpa using h), Nat.add_mul, Nat.one_mul]
    omega
  | [], _ :: _, h => by simp at h
  | _ :: _, [], h => by simp at h
theorem zipC_append {α β : Type} {f : α → β → List Value} : ∀ (xs : List α) (ls : List β) (ys : List α) (ms : List β), xs.length = ls.length → zipC f (xs ++ ys) (ls ++ ms) = zipC f xs ls ++ zipC f ys ms
  | [], [], _, _, _ => rfl
  | x :: xs, l :: ls, ys, ms, h => by simp [zipC, zipC_append xs ls ys ms (by simpa using h)]
  | [], _ :: _, _, _, h => by simp at h
  | _ :: _, [], _, _, h => by simp at h
theorem zipR_append {α β : Type} {f : α → β → List (Nat × List Value)} : ∀ (xs : List α) (ls : List β) (ys : List α) (ms : List β), xs.length = ls.length → zipR f (xs ++ ys) (ls ++ ms) = zipR f xs ls ++ zipR f ys ms
  | [], [], _, _, _ => rfl
  | x :: xs, l :: ls, ys, ms, h => by simp [zipR, zipR_append xs ls ys ms (by simpa using h)]
  | [], _ :: _, _, _, h => by simp at h
  | _ :: _, [], _, _, h => by simp at h
/-- A row's cells, parted at element n. -/
theorem zipC_split {k : K} (d : k.T) (e : k.L) : ∀ (xs : List k.T) (ls : List k.L) (n : Nat), xs.length = ls.length → n < xs.length →
    ∃ A B, A.length = n * k.sz ∧ zipC (hdr k) xs ls = A ++ hdr k (xs.getD n d) (ls.getD n e) ++ B ∧ ∀ y m, zipC (hdr k) (xs.set n y) (ls.set n m) = A ++ hdr k y m ++ B
  | [], _, _, _, h => by simp at h
  | _ :: _, [], _, h, _ => by simp at h
  | x :: xs, l :: ls, 0, _, _ => ⟨[], zipC (hdr k) xs ls, by simp, by simp [zipC], fun y m => by simp [zipC]⟩
  | x :: xs, l :: ls, n + 1, h, hn => by
    obtain ⟨A, B, hA, h1, h2⟩ := zipC_split d e xs ls n (by simpa using h) (by simpa using hn)
    refine ⟨hdr k x l ++ A, B, by simp [hdr_length, hA, Nat.add_mul]; omega, by simp [zipC, h1], fun y m => by simp [zipC, h2 y m]⟩
theorem zipR_split {k : K} (d : k.T) (e : k.L) : ∀ (xs : List k.T) (ls : List k.L) (n : Nat), xs.length = ls.length → n < xs.length →
    ∃ A B, zipR (rows k) xs ls = A ++ rows k (xs.getD n d) (ls.getD n e) ++ B ∧ ∀ y m, zipR (rows k) (xs.set n y) (ls.set n m) = A ++ rows k y m ++ B
  | [], _, _, _, h => by simp at h
  | _ :: _, [], _, h, _ => by simp at h
  | x :: xs, l :: ls, 0, _, _ => ⟨[], zipR (rows k) xs ls, by simp [zipR], fun y m => by simp [zipR]⟩
  | x :: xs, l :: ls, n + 1, h, hn => by
    obtain ⟨A, B, h1, h2⟩ := zipR_split d e xs ls n (by simpa using h) (by simpa using hn)
    exact ⟨rows k x l ++ A, B, by simp [zipR, h1], fun y m => by simp [zipR, h2 y m]⟩
def K.getL1 : (k : K) → (q : Stp) → k.L → (k.st q).L
  | .pair _ _, .f, l => l.1
  | .pair _ _, .sn, l => l.2
  | .pair _ _, .i _, _ => ()
  | .sl k, .i n, l => List.getD l.els n k.dl
  | .sl _, .f, _ => ()
  | .sl _, .sn, _ => ()
  | .int _, _, _ => ()
  | .bool, _, _ => ()
def K.setL1 : (k : K) → (q : Stp) → k.L → (k.st q).L → k.L
  | .pair _ _, .f, l, m => (m, l.2)
  | .pair _ _, .sn, l, m => (l.1, m)
  | .pair _ _, .i _, l, _ => l
  | .sl _, .i n, l, m => { l with els := List.set l.els n m }
  | .sl _, .f, l, _ => l
  | .sl _, .sn, l, _ => l
  | .int _, _, l, _ => l
  | .bool, _, l, _ => l
def K.getL (k : K) : (p : Pth) → k.L → (k.at p).L
  | [], l => l
  | q :: p, l => (k.st q).getL p (k.getL1 q l)
def K.setL (k : K) : (p : Pth) → k.L → (k.at p).L → k.L
  | [], _, m => m
  | q :: p, l, m => k.setL1 q l ((k.st q).setL p (k.getL1 q l) m)
def Ok1 : (k : K) → (q : Stp) → k.T → Prop
  | .pair _ _, .f, _ => True
  | .pair _ _, .sn, _ => True
  | .sl _, .i n, xs => n < List.length xs
  | _, _, _ => False
def Okp (k : K) : (p : Pth) → k.T → Prop
  | [], _ => True
  | q :: p, x => Ok1 k q x ∧ Okp (k.st q) p (k.get1 q x)
abbrev Base := Option (Nat × Nat)
def ad1 : (k : K) → (q : Stp) → k.L → Base → Base
  | .pair _ _, .f, _, b => b
  | .pair a _, .sn, _, b => b.map fun b => (b.1, b.2 + a.sz)
  | .sl k, .i n, l, _ => l.a.map fun b => (b, l.pre.length + n * k.sz)
  | _, _, _, _ => none
def ad (k : K) : (p : Pth) → k.L → Base → Base
  | [], _, b => b
  | q :: p, l, b => ad (k.st q) p (k.getL1 q l) (ad1 k q l b)
theorem Fit_get1 : ∀ {k : K} {q : Stp} {x : k.T} {l : k.L}, Fit k x l → Ok1 k q x → Fit (k.st q) (k.get1 q x) (k.getL1 q l)
  | .pair _ _, .f, _, _, h, _ => h.1
  | .pair _ _, .sn, _, _, h, _ => h.2
  | .pair _ _, .i _, _, _, _, h => h.elim
  | .sl _, .i _, _, _, h, hn => allZ_get h.1 _ _ _ hn
  | .sl _, .f, _, _, _, h => h.elim
  | .sl _, .sn, _, _, _, h => h.elim
  | .int _, .f, _, _, _, h => h.elim
  | .int _, .sn, _, _, _, h => h.elim
  | .int _, .i _, _, _, _, h => h.elim
  | .bool, .f, _, _, _, h => h.elim
  | .bool, .sn, _, _, _, h => h.elim
  | .bool, .i _, _, _, _, h => h.elim
theorem Fit_get {k : K} : ∀ {p : Pth} {x : k.T} {l : k.L}, Fit k x l → Okp k p x → Fit (k.at p) (k.get p x) (k.getL p l) := by
  intro p
  induction p generalizing k with
  | nil => exact fun h _ => h
  | cons q p ih => exact fun h hp => ih (Fit_get1 h hp.1) hp.2
theorem Fit_set1 : ∀ {k : K} {q : Stp} {x : k.T} {l : k.L} {y : (k.st q).T} {m : (k.st q).L}, Fit k x l → Ok1 k q x → Fit (k.st q) y m → Fit k (k.set1 q x y) (k.setL1 q l m)
  | .pair _ _, .f, _, _, _, _, h, _, g => ⟨g, h.2⟩
  | .pair _ _, .sn, _, _, _, _, h, _, g => ⟨h.1, g⟩
  | .pair _ _, .i _, _, _, _, _, _, h, _ => h.elim
  | .sl _, .i n, xs, l, y, m, h, hn, g => by
    refine ⟨allZ_set h.1 n y m g, ?_, ?_, h.2.2.2⟩
    · show (List.set xs n y).length ≤ _
      rw [List.length_set]; exact h.2.1
    · show (_ - (List.set xs n y).length) * _ ≤ _
      rw [List.length_set]; exact h.2.2.1
  | .sl _, .f, _, _, _, _, _, h, _ => h.elim
  | .sl _, .sn, _, _, _, _, _, h, _ => h.elim
  | .int _, .f, _, _, _, _, _, h, _ => h.elim
  | .int _, .sn, _, _, _, _, _, h, _ => h.elim
  | .int _, .i _, _, _, _, _, _, h, _ => h.elim
  | .bool, .f, _, _, _, _, _, h, _ => h.elim
  | .bool, .sn, _, _, _, _, _, h, _ => h.elim
  | .bool, .i _, _, _, _, _, _, h, _ => h.elim
theorem Fit_set {k : K} : ∀ {p : Pth} {x : k.T} {l : k.L} {y : (k.at p).T} {m : (k.at p).L}, Fit k x l → Okp k p x → Fit (k.at p) y m → Fit k (k.set p x y) (k.setL p l m) := by
  intro p
  induction p generalizing k with
  | nil => exact fun _ _ h => h
  | cons q p ih => exact fun h hp g => Fit_set1 h hp.1 (ih (Fit_get1 h hp.1) hp.2 g)
/-- A value's cells at a place of it that lies in no other row. -/
theorem hdr_shallow {k : K} : ∀ {p : Pth} {x : k.T} {l : k.L}, Okp k p x → ix p = 0 → ∀ b o, ∃ A B, hdr k x l = A ++ hdr (k.at p) (k.get p x) (k.getL p l) ++ B ∧
    ad k p l (some (b, o)) = some (b, o + A.length) ∧ ∀ y m, hdr k (k.set p x y) (k.setL p l m) = A ++ hdr (k.at p) y m ++ B := by
  intro p
  induction p generalizing k with
  | nil => exact fun _ _ b o => ⟨[], [], by simp [K.at, K.get, K.getL], by simp [ad], fun y m => by simp [K.at, K.set, K.setL]⟩
  | cons q p ih =>
    intro x l hp hi b o
    cases k with
    | pair a c =>
      cases q with
      | f =>
        obtain ⟨A, B, h1, h2, h3⟩ := ih (k := a) (x := x.1) (l := l.1) hp.2 hi b o
        exact ⟨A, B ++ hdr c x.2 l.2, by simp only [hdr, h1, List.append_assoc]; rfl, h2, fun y m => by
          show hdr a (a.set p x.1 y) (a.setL p l.1 m) ++ hdr c x.2 l.2 = _
          rw [h3 y m]; simp only [List.append_assoc]⟩
      | sn =>
        obtain ⟨A, B, h1, h2, h3⟩ := ih (k := c) (x := x.2) (l := l.2) hp.2 hi b (o + a.sz)
        refine ⟨hdr a x.1 l.1 ++ A, B, by simp only [hdr, h1, List.append_assoc]; rfl, ?_, fun y m => by
          show hdr a x.1 l.1 ++ hdr c (c.set p x.2 y) (c.setL p l.2 m) = _
          rw [h3 y m]; simp only [List.append_assoc]⟩
        rw [List.length_append, hdr_length, ← Nat.add_assoc]
        exact h2
      | i n => exact hp.1.elim
    | sl k => cases q with
      | i n => simp [ix] at hi
      | f => exact hp.1.elim
      | sn => exact hp.1.elim
    | int ik => cases q <;> exact hp.1.elim
    | bool => cases q <;> exact hp.1.elim
/-- .. at a place behind a slice: they don't change. -/
theorem hdr_deep {k : K} : ∀ {p : Pth} {x : k.T} {l : k.L}, Okp k p x → 0 < ix p → ∀ y m, hdr k (k.set p x y) (k.setL p l m) = hdr k x l := by
  intro p
  induction p generalizing k with
  | nil => intro x l _ h; simp [ix] at h
  | cons q p ih =>
    intro x l hp hi y m
    cases k with
    | pair a c =>
      cases q with
      | f => exact congrArg (· ++ hdr c x.2 l.2) (ih (k := a) (x := x.1) (l := l.1) hp.2 hi y m)
      | sn => exact congrArg (hdr a x.1 l.1 ++ ·) (ih (k := c) (x := x.2) (l := l.2) hp.2 hi y m)
      | i n => exact hp.1.elim
    | sl k => cases q with
      | i n =>
        show [Value.slice (l.a.map _) (List.set x n _).length l.cap] = _
        rw [List.length_set]; rfl
      | f => exact hp.1.elim
      | sn => exact hp.1.elim
    | int ik => cases q <;> exact hp.1.elim
    | bool => cases q <;> exact hp.1.elim
/-- The rows of a value, parted at a place of it that lies in no other row. -/
theorem rows_shallow {k : K} : ∀ {p : Pth} {x : k.T} {l : k.L}, Okp k p x → ix p = 0 → ∃ A B, rows k x l = A ++ rows (k.at p) (k.get p x) (k.getL p l) ++ B ∧
    ∀ y m, rows k (k.set p x y) (k.setL p l m) = A ++ rows (k.at p) y m ++ B := by
  intro p
  induction p generalizing k with
  | nil => exact fun _ _ => ⟨[], [], by simp [K.at, K.get, K.getL], fun y m => by simp [K.at, K.set, K.setL]⟩
  | cons q p ih =>
    intro x l hp hi
    cases k with
    | pair a c =>
      cases q with
      | f =>
        obtain ⟨A, B, h1, h3⟩ := ih (k := a) (x := x.1) (l := l.1) hp.2 hi
        exact ⟨A, B ++ rows c x.2 l.2, by simp only [rows, h1, List.append_assoc]; rfl, fun y m => by
          show rows a (a.set p x.1 y) (a.setL p l.1 m) ++ rows c x.2 l.2 = _
          rw [h3 y m]; simp only [List.append_assoc]⟩
      | sn =>
        obtain ⟨A, B, h1, h3⟩ := ih (k := c) (x := x.2) (l := l.2) hp.2 hi
        exact ⟨rows a x.1 l.1 ++ A, B, by simp only [rows, h1, List.append_assoc]; rfl, fun y m => by
          show rows a x.1 l.1 ++ rows c (c.set p x.2 y) (c.setL p l.2 m) = _
          rw [h3 y m]; simp only [List.append_assoc]⟩
      | i n => exact hp.1.elim
    | sl k => cases q with
      | i n => simp [ix] at hi
      | f => exact hp.1.elim
      | sn => exact hp.1.elim
    | int ik => cases q <;> exact hp.1.elim
    | bool => cases q <;> exact hp.1.elim
/-- The rows of a value, parted at a place behind a slice: the row that holds the place, and the rows that hang at it. -/
theorem rows_deep {k : K} : ∀ {p : Pth} {x : k.T} {l : k.L}, Fit k x l → Okp k p x → 0 < ix p → ∀ base, ∃ A b c1 c2 R B,
    rows k x l = A ++ (b, c1 ++ hdr (k.at p) (k.get p x) (k.getL p l) ++ c2) :: (R ++ rows (k.at p) (k.get p x) (k.getL p l) ++ B) ∧
    ad k p l base = some (b, c1.length) ∧
    ∀ y m, rows k (k.set p x y) (k.setL p l m) = A ++ (b, c1 ++ hdr (k.at p) y m ++ c2) :: (R ++ rows (k.at p) y m ++ B) := by
  intro p
  induction p generalizing k with
  | nil => intro x l _ _ h; simp [ix] at h
  | cons q p ih =>
    intro x l hf hp hi base
    cases k with
    | pair a c =>
      cases q with
      | f =>
        obtain ⟨A, b, c1, c2, R, B, h1, h2, h3⟩ := ih (k := a) (x := x.1) (l := l.1) hf.1 hp.2 hi base
        exact ⟨A, b, c1, c2, R, B ++ rows c x.2 l.2, by simp only [rows, h1, List.append_assoc, List.cons_append]; rfl, h2, fun y m => by
          show rows a (a.set p x.1 y) (a.setL p l.1 m) ++ rows c x.2 l.2 = _
          rw [h3 y m]; simp only [List.append_assoc, List.cons_append]⟩
      | sn =>
        obtain ⟨A, b, c1, c2, R, B, h1, h2, h3⟩ := ih (k := c) (x := x.2) (l := l.2) hf.2 hp.2 hi (base.map fun b => (b.1, b.2 + a.sz))
        exact ⟨rows a x.1 l.1 ++ A, b, c1, c2, R, B, by simp only [rows, h1, List.append_assoc]; rfl, h2, fun y m => by
          show rows a x.1 l.1 ++ rows c (c.set p x.2 y) (c.setL p l.2 m) = _
          rw [h3 y m]; simp only [List.append_assoc]⟩
      | i n => exact hp.1.elim
    | sl k => cases q with
      | i n =>
        have hlen := allZ_length hf.1
        have hn : n < List.length x := hp.1
        obtain ⟨b, hb⟩ : ∃ b, l.a = some b := by
          cases h : l.a with
          | some b => exact ⟨b, rfl⟩
          | none => have h1 := (hf.2.2.2 h).1; have h2 := hf.2.1; omega
        obtain ⟨C1, C2, hC, hc1, hc2⟩ := zipC_split k.d k.dl x l.els n hlen hn
        obtain ⟨R1, R2, hr1, hr2⟩ := zipR_split k.d k.dl x l.els n hlen hn
        have hfe := Fit_get1 (k := .sl k) (q := .i n) hf hp.1
        by_cases h0 : ix p = 0
        · obtain ⟨A, B, h1, h2, h3⟩ := hdr_shallow (k := k) (x := List.getD x n k.d) (l := List.getD l.els n k.dl) hp.2 h0 b (l.pre.length + n * k.sz)
          obtain ⟨RA, RB, g1, g3⟩ := rows_shallow (k := k) (x := List.getD x n k.d) (l := List.getD l.els n k.dl) hp.2 h0
          refine ⟨[], b, l.pre ++ C1 ++ A, B ++ C2 ++ l.post, R1 ++ RA, RB ++ R2, ?_, ?_, fun y m => ?_⟩
          · simp only [rows, row0, hb, hc1, hr1, h1, g1, List.append_assoc, List.nil_append, List.cons_append]; rfl
          · simp only [List.length_append, hC]
            show ad k p _ (l.a.map _) = _
            rw [hb]
            exact h2.trans (by simp only [Nat.add_assoc])
          · show row0 k (List.set x n (k.set p (List.getD x n k.d) y)) { l with els := List.set l.els n (k.setL p (List.getD l.els n k.dl) m) } ++ zipR (rows k) (List.set x n (k.set p (List.getD x n k.d) y)) (List.set l.els n (k.setL p (List.getD l.els n k.dl) m)) = _
            simp only [row0, hb]
            rw [hc2, hr2, h3 y m, g3 y m]
            simp only [List.append_assoc, List.nil_append, List.cons_append]
        · obtain ⟨A, b', c1, c2, R, B, h1, h2, h3⟩ := ih (k := k) (x := List.getD x n k.d) (l := List.getD l.els n k.dl) hfe hp.2 (by omega) (l.a.map fun b => (b, l.pre.length + n * k.sz))
          refine ⟨row0 k x l ++ R1 ++ A, b', c1, c2, R, B ++ R2, ?_, h2, fun y m => ?_⟩
          · simp only [rows, hr1, h1, List.append_assoc, List.cons_append]; rfl
          · show row0 k (List.set x n (k.set p (List.getD x n k.d) y)) { l with els := List.set l.els n (k.setL p (List.getD l.els n k.dl) m) } ++ zipR (rows k) (List.set x n (k.set p (List.getD x n k.d) y)) (List.set l.els n (k.setL p (List.getD l.els n k.dl) m)) = _
            have hd := hdr_deep (k := k) (x := List.getD x n k.d) (l := List.getD l.els n k.dl) hp.2 (by omega) y m
            have e0 : row0 k (List.set x n (k.set p (List.getD x n k.d) y)) { l with els := List.set l.els n (k.setL p (List.getD l.els n k.dl) m) } = row0 k x l := by
              simp only [row0, hb]
              rw [hc2, hd, hc1]
            rw [hr2, e0, h3 y m]
            simp only [List.append_assoc, List.cons_append]
      | f => exact hp.1.elim
      | sn => exact hp.1.elim
    | int ik => cases q <;> exact hp.1.elim
    | bool => cases q <;> exact hp.1.elim
theorem rows_flat : ∀ {k : K} (_ : k.flat = true) (x : k.T) (l : k.L), rows k x l = []
  | .int _, _, _, _ => rfl
  | .bool, _, _, _ => rfl
  | .pair a b, h, x, l => by
    have : a.flat = true ∧ b.flat = true := by
      revert h; simp only [K.flat]; cases a.flat <;> simp [andB]
    simp [rows, rows_flat this.1, rows_flat this.2]
  | .sl _, h, _, _ => by simp [K.flat] at h
theorem Fit_flat : ∀ {k : K} (_ : k.flat = true) (x : k.T) (l : k.L), Fit k x l
  | .int _, _, _, _ => trivial
  | .bool, _, _, _ => trivial
  | .pair a b, h, x, l => by
    have : a.flat = true ∧ b.flat = true := by
      revert h; simp only [K.flat]; cases a.flat <;> simp [andB]
    exact ⟨Fit_flat this.1 _ _, Fit_flat this.2 _ _⟩
  | .sl _, h, _, _ => by simp [K.flat] at h
end Go.Am
namespace Go.Am
def Blk (w : World) (b : Nat) (c : List Value) : Prop := ∃ E, w.heap[b]? = some (.cells c.toArray E (0, 0))
def Cells (w : World) (b o : Nat) (cs : List Value) : Prop := ∀ j c, cs[j]? = some c → w.cell? ⟨b, o + j, none⟩ = some c
theorem Blk.cell {w : World} {b : Nat} {c : List Value} (h : Blk w b c) (o : Nat) : w.cell? ⟨b, o, none⟩ = c[o]? := by
  obtain ⟨E, h⟩ := h
  simp [World.cell?, h]
theorem Blk.cells {w : World} {b : Nat} {A c B : List Value} (h : Blk w b (A ++ c ++ B)) : Cells w b A.length c := by
  intro j v hj
  rw [h.cell]
  have hlt : j < c.length := by
    rcases Nat.lt_or_ge j c.length with g | g
    · exact g
    · rw [List.getElem?_eq_none g] at hj; cases hj
  rw [List.append_assoc, List.getElem?_append_right (by omega), Nat.add_sub_cancel_left, List.getElem?_append_left hlt]
  exact hj
theorem Blk.same {w w' : World} {b : Nat} {c : List Value} (h : Blk w b c) (e : w'.heap[b]? = w.heap[b]?) : Blk w' b c := by
  obtain ⟨E, h⟩ := h
  exact ⟨E, by rw [e, h]⟩
theorem Blk.lt {w : World} {b : Nat} {c : List Value} (h : Blk w b c) : b < w.heap.size := by
  obtain ⟨E, h⟩ := h
  rcases Nat.lt_or_ge b w.heap.size with g | g
  · exact g
  · rw [Array.getElem?_eq_none g] at h; cases h
theorem Cells.same {w w' : World} {b o : Nat} {cs : List Value} (h : Cells w b o cs) (e : w'.heap[b]? = w.heap[b]?) : Cells w' b o cs := by
  intro j c hj
  rw [← h j c hj]
  simp [World.cell?, e]
theorem Cells.left {w : World} {b o : Nat} {c d : List Value} (h : Cells w b o (c ++ d)) : Cells w b o c := by
  intro j v hj
  refine h j v ?_
  have hlt : j < c.length := by
    rcases Nat.lt_or_ge j c.length with g | g
    · exact g
    · rw [List.getElem?_eq_none g] at hj; cases hj
  rw [List.getElem?_append_left hlt]; exact hj
theorem Cells.right {w : World} {b o : Nat} {c d : List Value} (h : Cells w b o (c ++ d)) : Cells w b (o + c.length) d := by
  intro j v hj
  rw [Nat.add_assoc]
  refine h (c.length + j) v ?_
  rw [List.getElem?_append_right (by omega), Nat.add_sub_cancel_left]; exact hj
def RV (U : Nat → Prop) (w : World) : (k : K) → k.T → List Value → Prop
  | .int ik, n, cs => cs = [.int ik n]
  | .bool, b, cs => cs = [.bool b]
  | .pair a b, x, cs => ∃ c1 c2, cs = c1 ++ c2 ∧ RV U w a x.1 c1 ∧ RV U w b x.2 c2
  | .sl k, xs, cs => ∃ A cap, cs = [.slice A (List.length xs) cap] ∧ List.length xs ≤ cap ∧
      (∀ ad, A = some ad → 0 < List.length xs → ad.spot = none) ∧
      ∀ i, i < List.length xs → ∃ ad ci, A = some ad ∧ U ad.block ∧ Cells w ad.block (ad.off + i * k.sz) ci ∧ RV U w k (List.getD xs i k.d) ci
theorem RV.length {U : Nat → Prop} {w : World} : ∀ {k : K} {x : k.T} {cs : List Value}, RV U w k x cs → cs.length = k.sz
  | .int _, _, _, h => by rw [show _ = _ from h]; rfl
  | .bool, _, _, h => by rw [show _ = _ from h]; rfl
  | .pair _ _, _, _, ⟨_, _, e, h1, h2⟩ => by rw [e, List.length_append, h1.length, h2.length]; rfl
  | .sl _, _, _, ⟨_, _, e, _⟩ => by rw [e]; rfl
theorem RV.mono {U U' : Nat → Prop} {w w' : World} (hU : ∀ b, U b → U' b ∧ w'.heap[b]? = w.heap[b]?) : ∀ {k : K} {x : k.T} {cs : List Value}, RV U w k x cs → RV U' w' k x cs
  | .int _, _, _, h => h
  | .bool, _, _, h => h
  | .pair _ _, _, _, ⟨c1, c2, e, h1, h2⟩ => ⟨c1, c2, e, h1.mono hU, h2.mono hU⟩
  | .sl _, _, _, ⟨A, cap, e, hc, hs, h⟩ => ⟨A, cap, e, hc, hs, fun i hi => by
      obtain ⟨ad, ci, e1, hu, hci, hr⟩ := h i hi
      exact ⟨ad, ci, e1, (hU _ hu).1, hci.same (hU _ hu).2, hr.mono hU⟩⟩
theorem RV.flat {U : Nat → Prop} {w : World} : ∀ {k : K} (_ : k.flat = true) {x : k.T} {cs : List Value} (l : k.L), RV U w k x cs → cs = hdr k x l
  | .int _, _, _, _, _, h => h
  | .bool, _, _, _, _, h => h
  | .pair a b, hf, x, cs, l, ⟨c1, c2, e, h1, h2⟩ => by
    have : a.flat = true ∧ b.flat = true := by
      revert hf; simp only [K.flat]; cases a.flat <;> simp [andB]
    rw [e, h1.flat this.1 l.1, h2.flat this.2 l.2]; rfl
  | .sl _, hf, _, _, _, _ => by simp [K.flat] at hf
theorem RV.of_flat {U : Nat → Prop} {w : World} : ∀ {k : K} (_ : k.flat = true) (x : k.T) (l : k.L), RV U w k x (hdr k x l)
  | .int _, _, _, _ => rfl
  | .bool, _, _, _ => rfl
  | .pair a b, hf, x, l => by
    have : a.flat = true ∧ b.flat = true := by
      revert hf; simp only [K.flat]; cases a.flat <;> simp [andB]
    exact ⟨_, _, rfl, RV.of_flat this.1 _ _, RV.of_flat this.2 _ _⟩
  | .sl _, hf, _, _ => by simp [K.flat] at hf
theorem zipC_at {w : World} {b o : Nat} {k : K} {d : k.T} {e : k.L} {xs : List k.T} {ls : List k.L} (h : Cells w b o (zipC (hdr k) xs ls)) (hl : xs.length = ls.length) {i : Nat} (hi : i < xs.length) :
    Cells w b (o + i * k.sz) (hdr k (xs.getD i d) (ls.getD i e)) := by
  obtain ⟨A, B, hA, h1, _⟩ := zipC_split d e xs ls i hl hi
  rw [h1] at h
  rw [← hA]
  exact h.left.right
/-- What is owned may be seen. -/
theorem RV.own {U : Nat → Prop} {w : World} : ∀ {k : K} {x : k.T} {l : k.L}, Fit k x l → (∀ b c, (b, c) ∈ rows k x l → Blk w b c ∧ U b) → RV U w k x (hdr k x l)
  | .int _, _, _, _, _ => rfl
  | .bool, _, _, _, _ => rfl
  | .pair _ _, x, l, hf, h => ⟨_, _, rfl, RV.own hf.1 fun b c hb => h b c (by simp [rows, hb]), RV.own hf.2 fun b c hb => h b c (by simp [rows, hb])⟩
  | .sl k, xs, l, hf, h => by
    refine ⟨_, _, rfl, hf.2.1, ?_, fun i hi => ?_⟩
    · intro ad hA _
      cases ha : l.a with
      | none => rw [ha] at hA; cases hA
      | some b => rw [ha] at hA; cases hA; rfl
    · have hlen := allZ_length hf.1
      cases ha : l.a with
      | none => have h1 := (hf.2.2.2 ha).1; have h2 := hf.2.1; omega
      | some b =>
        have h0 := h b (l.pre ++ zipC (hdr k) xs l.els ++ l.post) (by simp [rows, row0, ha])
        refine ⟨⟨b, l.pre.length, none⟩, hdr k (List.getD xs i k.d) (l.els.getD i k.dl), rfl, h0.2, zipC_at h0.1.cells hlen hi, RV.own (allZ_get hf.1 i _ _ hi) fun b' c' hb => h b' c' ?_⟩
        obtain ⟨A, B, h1, _⟩ := zipR_split k.d k.dl xs l.els i hlen hi
        simp only [rows]
        rw [h1]
        exact List.mem_append_right _ (List.mem_append_left _ (List.mem_append_right _ hb))
structure Gh where
  ow : Nat → Option Nat
  lay : Nat → (k : K) → k.L
  bx : Nat → Nat × Nat
def Gh.U (g : Gh) (w : World) (b : Nat) : Prop := b < w.heap.size ∧ g.ow b = none
/-- Where in a struct's cells a place lies. -/
def AV.off : AV → Pth → Nat
  | _, [] => 0
  | .pr a _, .f :: p => a.off p
  | .pr a b, .sn :: p => a.w + b.off p
  | _, _ => 0
def AV.okp : AV → Pth → Prop
  | _, [] => True
  | .pr a _, .f :: p => a.okp p
  | .pr _ b, .sn :: p => b.okp p
  | _, _ => False
/-- A reference from a root, in a store's present state. -/
def valid (rv : RootV) (gen hc n : Nat) (p : Pth) (rc : RC) : Prop := rv.c = some rc ∧ gen = rv.gen ∧ (ix p < n ∨ (rc.inn = true ∧ hc = rv.hc))
def cutV (A : Option Addr) (cap sz lo hi : Nat) : Value := .slice (if cap = lo then A else A.map (·.add (lo * sz))) (hi - lo) (cap - lo)
section
variable (st : St) (g : Gh) (w : World)
def Rep : AV → List Value → Prop
  | .dead, _ => True
  | .int k n, cs => cs = [.int k n]
  | .bool b, cs => cs = [.bool b]
  | .pr a b, cs => ∃ c1 c2, cs = c1 ++ c2 ∧ Rep a c1 ∧ Rep b c2
  | .nils, cs => cs = [.slice none 0 0]
  | .nilp, cs => cs = [.pointer none]
  | .vsl k xs, cs => RV (g.U w) w (.sl k) xs cs
  | .rf r gen hc p, cs => (∃ A n c, cs = [.slice A n c]) ∧ (gen ≤ (st.r r).gen ∧ (gen = (st.r r).gen → hc ≤ (st.r r).hc)) ∧ ∀ rc, valid (st.r r) gen hc 1 p rc →
      Okp (.sl rc.k) p rc.xs ∧ (∃ k', (K.sl rc.k).at p = .sl k') ∧ cs = hdr _ ((K.sl rc.k).get p rc.xs) ((K.sl rc.k).getL p (g.lay r (.sl rc.k)))
  | .cut r gen hc p lo hi, cs => (∃ A c, cs = [.slice A (hi - lo) c]) ∧ (gen ≤ (st.r r).gen ∧ (gen = (st.r r).gen → hc ≤ (st.r r).hc)) ∧ ∀ rc, valid (st.r r) gen hc 1 p rc →
      Okp (.sl rc.k) p rc.xs ∧ ∃ k', ∃ e : (K.sl rc.k).at p = .sl k', lo ≤ hi ∧ hi ≤ (cast (congrArg K.T e) ((K.sl rc.k).get p rc.xs) : List k'.T).length ∧
        ∃ A n cap, hdr _ ((K.sl rc.k).get p rc.xs) ((K.sl rc.k).getL p (g.lay r (.sl rc.k))) = [.slice A n cap] ∧ cs = [cutV A cap k'.sz lo hi]
  | .rp r gen hc p, cs => (∃ A, cs = [.pointer (some A)]) ∧ (gen ≤ (st.r r).gen ∧ (gen = (st.r r).gen → hc ≤ (st.r r).hc)) ∧ ∀ rc, valid (st.r r) gen hc 2 p rc →
      Okp (.sl rc.k) p rc.xs ∧ 0 < ix p ∧ ∃ b o, ad (.sl rc.k) p (g.lay r (.sl rc.k)) none = some (b, o) ∧ cs = [.pointer (some ⟨b, o, none⟩)]
  | .pb b gen p, cs => (∃ A, cs = [.pointer (some A)]) ∧ gen ≤ (st.b b).gen ∧ ∀ v, (st.b b).c = some v → gen = (st.b b).gen → v.okp p ∧ cs = [.pointer (some ⟨(g.bx b).1, (g.bx b).2 + v.off p, none⟩)]
  | .vp k x, cs => ∃ b o ci, cs = [.pointer (some ⟨b, o, none⟩)] ∧ g.U w b ∧ Cells w b o ci ∧ RV (g.U w) w k x ci
  | .fn f a b, cs => ∃ va vb, cs = [.func (.func f) va vb] ∧ Rep a va.toList ∧ Rep b vb.toList
  | .cons a b, cs => ∃ v vs, cs = v :: vs ∧ ((a.isPr = true ∧ ∃ c, v = .agg c ∧ Rep a c.toList) ∨ (a.isPr = false ∧ Rep a [v])) ∧ Rep b vs
  | .nil, cs => cs = []
  | .gd _ _, _ => False
/-- A value in a slot. -/
def RepV : AV → Value → Prop
  | .pr a b, v => ∃ c, v = .agg c ∧ Rep st g w (.pr a b) c.toList
  | .cons a b, v => ∃ vs, v = .tuple vs ∧ Rep st g w (.cons a b) vs.toList
  | .nil, v => ∃ vs, v = .tuple vs ∧ Rep st g w .nil vs.toList
  | .gd c u, v => (c = true → RepV u v) ∧ (c = false → v = undef)
  | a, v => Rep st g w a [v]
end
def plain : Value → Prop
  | .agg _ => False
  | .tuple _ => False
  | _ => True
theorem andB_true {a b : Bool} : andB a b = true ↔ a = true ∧ b = true := by cases a <;> simp [andB]
theorem orB_true {a b : Bool} : orB a b = true ↔ a = true ∨ b = true := by cases a <;> simp [orB]
theorem notB_true {a : Bool} : notB a = true ↔ a = false := by cases a <;> simp [notB]
theorem RV.plain1 {U : Nat → Prop} {w : World} : ∀ {k : K} {x : k.T} {cs : List Value}, RV U w k x cs → ∀ c ∈ cs, plain c
  | .int _, _, _, h => by rw [show _ = _ from h]; simp [plain]
  | .bool, _, _, h => by rw [show _ = _ from h]; simp [plain]
  | .pair _ _, _, _, ⟨_, _, e, h1, h2⟩ => by
    rw [e]; intro c hc
    rcases List.mem_append.1 hc with g | g
    · exact h1.plain1 c g
    · exact h2.plain1 c g
  | .sl _, _, _, ⟨_, _, e, _⟩ => by rw [e]; simp [plain]
theorem Rep.plain {st : St} {g : Gh} {w : World} : ∀ {v : AV} {cs : List Value}, v.ok = true → Rep st g w v cs → cs.length = v.w ∧ ∀ c ∈ cs, plain c
  | .int _ _, _, _, h => by rw [show _ = _ from h]; simp [AV.w, Am.plain]
  | .bool _, _, _, h => by rw [show _ = _ from h]; simp [AV.w, Am.plain]
  | .pr a b, cs, ho, ⟨c1, c2, e, h1, h2⟩ => by
    obtain ⟨o1, o2⟩ := andB_true.1 (show andB a.ok b.ok = true from ho)
    obtain ⟨l1, p1⟩ := Rep.plain o1 h1
    obtain ⟨l2, p2⟩ := Rep.plain o2 h2
    rw [e]
    refine ⟨by rw [List.length_append, l1, l2]; rfl, fun c hc => ?_⟩
    rcases List.mem_append.1 hc with g | g
    · exact p1 c g
    · exact p2 c g
  | .nils, _, _, h => by rw [show _ = _ from h]; simp [AV.w, Am.plain]
  | .nilp, _, _, h => by rw [show _ = _ from h]; simp [AV.w, Am.plain]
  | .vsl _ _, _, _, h => ⟨RV.length (show RV _ _ _ _ _ from h), RV.plain1 (show RV _ _ _ _ _ from h)⟩
  | .rf _ _ _ _, _, _, ⟨⟨_, _, _, e⟩, _⟩ => by rw [e]; simp [AV.w, Am.plain]
  | .rp _ _ _ _, _, _, ⟨⟨_, e⟩, _⟩ => by rw [e]; simp [AV.w, Am.plain]
  | .pb _ _ _, _, _, ⟨⟨_, e⟩, _⟩ => by rw [e]; simp [AV.w, Am.plain]
  | .vp _ _, _, _, ⟨_, _, _, e, _⟩ => by rw [e]; simp [AV.w, Am.plain]
  | .dead, _, h, _ => by simp [AV.ok] at h
  | .cut _ _ _ _ _ _, _, h, _ => by simp [AV.ok] at h
  | .fn _ _ _, _, h, _ => by simp [AV.ok] at h
  | .cons _ _, _, h, _ => by simp [AV.ok] at h
  | .nil, _, h, _ => by simp [AV.ok] at h
  | .gd _ _, _, h, _ => by simp [AV.ok] at h
/-- Same lengths all through. -/
def Shp : (k : K) → k.T → k.T → Prop
  | .int _, _, _ => True
  | .bool, _, _ => True
  | .pair a b, x, y => Shp a x.1 y.1 ∧ Shp b x.2 y.2
  | .sl k, xs, ys => List.length xs = List.length ys ∧ ∀ i, i < List.length xs → Shp k (List.getD xs i k.d) (List.getD ys i k.d)
theorem Shp.refl : ∀ {k : K} (x : k.T), Shp k x x
  | .int _, _ => trivial
  | .bool, _ => trivial
  | .pair _ _, x => ⟨Shp.refl x.1, Shp.refl x.2⟩
  | .sl _, _ => ⟨rfl, fun _ _ => Shp.refl _⟩
theorem Shp.flat : ∀ {k : K} (_ : k.flat = true) (x y : k.T), Shp k x y
  | .int _, _, _, _ => trivial
  | .bool, _, _, _ => trivial
  | .pair a b, hf, x, y => by
    have := andB_true.1 (show andB a.flat b.flat = true from hf)
    exact ⟨Shp.flat this.1 _ _, Shp.flat this.2 _ _⟩
  | .sl _, hf, _, _ => by simp [K.flat] at hf
theorem Shp.get1 : ∀ {k : K} {q : Stp} {x y : k.T}, Shp k x y → Ok1 k q x → Ok1 k q y ∧ Shp (k.st q) (k.get1 q x) (k.get1 q y)
  | .pair _ _, .f, _, _, h, _ => ⟨trivial, h.1⟩
  | .pair _ _, .sn, _, _, h, _ => ⟨trivial, h.2⟩
  | .pair _ _, .i _, _, _, _, h => h.elim
  | .sl _, .i n, xs, ys, h, hn => ⟨by have h1 := h.1; have h2 : n < List.length xs := hn; show n < List.length ys; omega, h.2 n hn⟩
  | .sl _, .f, _, _, _, h => h.elim
  | .sl _, .sn, _, _, _, h => h.elim
  | .int _, .f, _, _, _, h => h.elim
  | .int _, .sn, _, _, _, h => h.elim
  | .int _, .i _, _, _, _, h => h.elim
  | .bool, .f, _, _, _, h => h.elim
  | .bool, .sn, _, _, _, h => h.elim
  | .bool, .i _, _, _, _, h => h.elim
theorem Shp.get {k : K} : ∀ {p : Pth} {x y : k.T}, Shp k x y → Okp k p x → Okp k p y ∧ Shp (k.at p) (k.get p x) (k.get p y) := by
  intro p
  induction p generalizing k with
  | nil => exact fun h _ => ⟨trivial, h⟩
  | cons q p ih =>
    intro x y h hp
    obtain ⟨h1, h2⟩ := h.get1 hp.1
    obtain ⟨h3, h4⟩ := ih h2 hp.2
    exact ⟨⟨h1, h3⟩, h4⟩
theorem Shp.set1 : ∀ {k : K} {q : Stp} {x : k.T} {y : (k.st q).T}, Ok1 k q x → Shp (k.st q) (k.get1 q x) y → Shp k x (k.set1 q x y)
  | .pair _ _, .f, x, _, _, h => ⟨h, Shp.refl x.2⟩
  | .pair _ _, .sn, x, _, _, h => ⟨Shp.refl x.1, h⟩
  | .pair _ _, .i _, _, _, h, _ => h.elim
  | .sl k, .i n, xs, y, hn, h => by
    refine ⟨(List.length_set ..).symm, fun i hi => ?_⟩
    by_cases e : n = i
    · subst e
      have : List.getD (List.set xs n y) n k.d = y := by
        simp [List.getD_eq_getElem?_getD, show n < List.length xs from hn]
      show Shp k (List.getD xs n k.d) (List.getD (List.set xs n y) n k.d)
      rw [this]; exact h
    · have : List.getD (List.set xs n y) i k.d = List.getD xs i k.d := by
        simp [List.getD_eq_getElem?_getD, e]
      show Shp k (List.getD xs i k.d) (List.getD (List.set xs n y) i k.d)
      rw [this]; exact Shp.refl _
  | .sl _, .f, _, _, h, _ => h.elim
  | .sl _, .sn, _, _, h, _ => h.elim
  | .int _, .f, _, _, h, _ => h.elim
  | .int _, .sn, _, _, h, _ => h.elim
  | .int _, .i _, _, _, h, _ => h.elim
  | .bool, .f, _, _, h, _ => h.elim
  | .bool, .sn, _, _, h, _ => h.elim
  | .bool, .i _, _, _, h, _ => h.elim
theorem Shp.set {k : K} : ∀ {p : Pth} {x : k.T} {y : (k.at p).T}, Okp k p x → Shp (k.at p) (k.get p x) y → Shp k x (k.set p x y) := by
  intro p
  induction p generalizing k with
  | nil => exact fun _ h => h
  | cons q p ih => exact fun hp h => Shp.set1 hp.1 (ih hp.2 h)
theorem Shp.hdr : ∀ {k : K} {x y : k.T} (l : k.L), Shp k x y → (∃ k', k = .sl k') → Am.hdr k x l = Am.hdr k y l
  | .sl _, xs, ys, l, h, _ => by simp only [Am.hdr]; rw [h.1]
  | .int _, _, _, _, _, h => by obtain ⟨_, h⟩ := h; cases h
  | .bool, _, _, _, _, h => by obtain ⟨_, h⟩ := h; cases h
  | .pair _ _, _, _, _, _, h => by obtain ⟨_, h⟩ := h; cases h
/-- What a root may become while its references stay what they are. -/
def RStep (rv rv' : RootV) (l l' : (k : K) → k.L) : Prop :=
  rv.gen < rv'.gen ∨ (rv.gen = rv'.gen ∧ rv.hc ≤ rv'.hc ∧ ∀ rc', rv'.c = some rc' → ∃ xs inn, rv.c = some ⟨rc'.k, xs, inn⟩ ∧ (rc'.inn = true → inn = true) ∧
    List.length xs = List.length rc'.xs ∧ (l (.sl rc'.k)).a = (l' (.sl rc'.k)).a ∧ (l (.sl rc'.k)).pre.length = (l' (.sl rc'.k)).pre.length ∧ (l (.sl rc'.k)).cap = (l' (.sl rc'.k)).cap ∧
    (rv.hc = rv'.hc → rc'.inn = true → Shp (.sl rc'.k) xs rc'.xs ∧ l (.sl rc'.k) = l' (.sl rc'.k)))
theorem RStep.refl (rv : RootV) (l : (k : K) → k.L) : RStep rv rv l l :=
  .inr ⟨rfl, Nat.le_refl _, fun rc h => ⟨rc.xs, rc.inn, h, id, rfl, rfl, rfl, rfl, fun _ _ => ⟨Shp.refl _, rfl⟩⟩⟩
def AV.like : AV → AV → Bool
  | .pr a b, .pr c d => andB (a.like c) (b.like d)
  | .pr _ _, _ => false
  | _, .pr _ _ => false
  | _, _ => true
def BStep (bv bv' : BoxV) (p p' : Nat × Nat) : Prop :=
  bv.gen < bv'.gen ∨ (bv.gen = bv'.gen ∧ ∀ v', bv'.c = some v' → ∃ v, bv.c = some v ∧ v.like v' = true ∧ p = p')
theorem like_refl : ∀ v : AV, v.like v = true
  | .pr a b => andB_true.2 ⟨like_refl a, like_refl b⟩
  | .dead | .int _ _ | .bool _ | .nils | .nilp | .vsl _ _ | .rf _ _ _ _ | .cut _ _ _ _ _ _ | .rp _ _ _ _ | .pb _ _ _ | .vp _ _ | .fn _ _ _ | .cons _ _ | .nil | .gd _ _ => rfl
theorem BStep.refl (bv : BoxV) (p : Nat × Nat) : BStep bv bv p p := .inr ⟨rfl, fun v h => ⟨v, h, like_refl v, rfl⟩⟩
theorem like_w : ∀ {u v : AV}, u.like v = true → u.w = v.w := by
  intro u
  induction u with
  | pr a b ia ib =>
    intro v h
    cases v <;> simp only [AV.like] at h <;> first | (cases h; done) | skip
    rename_i c d
    obtain ⟨h1, h2⟩ := andB_true.1 h
    simp only [AV.w, ia h1, ib h2]
  | _ => intro v h; cases v <;> first | rfl | (simp [AV.like] at h)
theorem like_okp : ∀ {u v : AV} {p : Pth}, u.like v = true → u.okp p → v.okp p ∧ u.off p = v.off p := by
  intro u
  induction u with
  | pr a b ia ib =>
    intro v p h hp
    cases v <;> simp only [AV.like] at h <;> first | (cases h; done) | skip
    rename_i c d
    obtain ⟨h1, h2⟩ := andB_true.1 h
    cases p with
    | nil => exact ⟨trivial, rfl⟩
    | cons q p => cases q with
      | f => exact ia h1 hp
      | sn =>
        obtain ⟨g1, g2⟩ := ib h2 hp
        exact ⟨g1, by simp only [AV.off, like_w h1, g2]⟩
      | i n => exact hp.elim
  | _ =>
    intro v p h hp
    cases p with
    | nil => exact ⟨by cases v <;> trivial, by cases v <;> rfl⟩
    | cons q p => cases q <;> exact hp.elim
end Go.Am
namespace Go.Am
theorem ok_nil {k : K} : ∀ {p : Pth} {x : (K.sl k).T}, Okp (.sl k) p x → ix p < 1 → p = []
  | [], _, _, _ => rfl
  | .i _ :: _, _, _, h => by simp [ix] at h
  | .f :: _, _, h, _ => h.1.elim
  | .sn :: _, _, h, _ => h.1.elim
theorem okp_any {k : K} : ∀ {p : Pth} {x : k.T} (y : k.T), Okp k p x → ix p = 0 → Okp k p y := by
  intro p
  induction p generalizing k with
  | nil => exact fun _ _ _ => trivial
  | cons q p ih =>
    intro x y h hi
    cases k with
    | pair a b =>
      cases q with
      | f => exact ⟨trivial, ih (k := a) y.1 h.2 hi⟩
      | sn => exact ⟨trivial, ih (k := b) y.2 h.2 hi⟩
      | i n => exact h.1.elim
    | sl k => cases q with
      | i n => simp [ix] at hi
      | f => exact h.1.elim
      | sn => exact h.1.elim
    | int ik => cases q <;> exact h.1.elim
    | bool => cases q <;> exact h.1.elim
theorem ad_any {k : K} : ∀ {p : Pth} {x : k.T} (l m : k.L) (b : Base), Okp k p x → ix p = 0 → ad k p l b = ad k p m b := by
  intro p
  induction p generalizing k with
  | nil => exact fun _ _ _ _ _ => rfl
  | cons q p ih =>
    intro x l m b h hi
    cases k with
    | pair a c =>
      cases q with
      | f => exact ih (k := a) l.1 m.1 b h.2 hi
      | sn => exact ih (k := c) l.2 m.2 _ h.2 hi
      | i n => exact h.1.elim
    | sl k => cases q with
      | i n => simp [ix] at hi
      | f => exact h.1.elim
      | sn => exact h.1.elim
    | int ik => cases q <;> exact h.1.elim
    | bool => cases q <;> exact h.1.elim
theorem cast_len {k k' : K} (e : k = .sl k') {x y : k.T} (h : Shp k x y) : (cast (congrArg K.T e) x : List k'.T).length = (cast (congrArg K.T e) y : List k'.T).length := by
  cases e; exact h.1
theorem RStep.top {rv rv' : RootV} {l l' : (k : K) → k.L} (h : RStep rv rv' l l') {gen hc n : Nat} {p : Pth} {rc' : RC} (hg : gen ≤ rv.gen ∧ (gen = rv.gen → hc ≤ rv.hc)) (hv : valid rv' gen hc n p rc') :
    ∃ xs inn, rv.c = some ⟨rc'.k, xs, inn⟩ ∧ valid rv gen hc n p ⟨rc'.k, xs, inn⟩ ∧ List.length xs = List.length rc'.xs ∧ (l (.sl rc'.k)).a = (l' (.sl rc'.k)).a ∧
      (l (.sl rc'.k)).pre.length = (l' (.sl rc'.k)).pre.length ∧ (l (.sl rc'.k)).cap = (l' (.sl rc'.k)).cap ∧ (ix p < n ∨ (Shp (.sl rc'.k) xs rc'.xs ∧ l (.sl rc'.k) = l' (.sl rc'.k))) := by
  obtain ⟨h1, h2, h3⟩ := hv
  rcases h with h | ⟨e1, e2, h⟩
  · omega
  · obtain ⟨xs, inn, g1, g2, g3, g4, g5, g6, g7⟩ := h rc' h1
    refine ⟨xs, inn, g1, ⟨g1, by omega, ?_⟩, g3, g4, g5, g6, ?_⟩
    · rcases h3 with h3 | ⟨h3, h4⟩
      · exact .inl h3
      · have := hg.2 (by omega)
        exact .inr ⟨g2 h3, by show hc = rv.hc; omega⟩
    · rcases h3 with h3 | ⟨h3, h4⟩
      · exact .inl h3
      · have := hg.2 (by omega)
        exact .inr (g7 (by omega) h3)
theorem RStep.le {rv rv' : RootV} {l l' : (k : K) → k.L} (h : RStep rv rv' l l') {gen hc : Nat} (hg : gen ≤ rv.gen ∧ (gen = rv.gen → hc ≤ rv.hc)) : gen ≤ rv'.gen ∧ (gen = rv'.gen → hc ≤ rv'.hc) := by
  rcases h with h | ⟨e1, e2, _⟩
  · exact ⟨by omega, fun _ => by omega⟩
  · exact ⟨by omega, fun e => Nat.le_trans (hg.2 (by omega)) e2⟩
theorem hdr_top {k : K} {xs ys : List k.T} {l m : (K.sl k).L} (h1 : xs.length = ys.length) (h2 : l.a = m.a) (h3 : l.pre.length = m.pre.length) (h4 : l.cap = m.cap) : hdr (.sl k) xs l = hdr (.sl k) ys m := by
  simp only [hdr, h1, h2, h3, h4]
theorem Rep.step {st st' : St} {g g' : Gh} {w w' : World} (hU : ∀ b, g.U w b → g'.U w' b ∧ w'.heap[b]? = w.heap[b]?)
    (hR : ∀ r, RStep (st.r r) (st'.r r) (g.lay r) (g'.lay r)) (hB : ∀ b, BStep (st.b b) (st'.b b) (g.bx b) (g'.bx b)) :
    ∀ {v : AV} {cs : List Value}, Rep st g w v cs → Rep st' g' w' v cs := by
  intro v
  induction v with
  | dead => exact fun _ => trivial
  | int k n => exact fun h => h
  | bool b => exact fun h => h
  | pr a b ia ib => exact fun ⟨c1, c2, e, h1, h2⟩ => ⟨c1, c2, e, ia h1, ib h2⟩
  | nils => exact fun h => h
  | nilp => exact fun h => h
  | vsl k xs => exact fun h => RV.mono hU h
  | rf r gen hc p =>
    intro cs h
    obtain ⟨hs, hg, hv⟩ := h
    refine ⟨hs, (hR r).le hg, fun rc' v' => ?_⟩
    obtain ⟨xs, inn, _, g2, g3, g4, g5, g6, g7⟩ := (hR r).top hg v'
    obtain ⟨h1, ⟨k', h2⟩, h3⟩ := hv _ g2
    rcases g7 with g7 | ⟨g7, g8⟩
    · obtain rfl := ok_nil h1 g7
      exact ⟨trivial, ⟨_, rfl⟩, h3.trans (hdr_top g3 g4 g5 g6)⟩
    · obtain ⟨q1, q2⟩ := g7.get h1
      exact ⟨q1, ⟨k', h2⟩, by rw [h3, ← g8]; exact q2.hdr _ ⟨k', h2⟩⟩
  | cut r gen hc p lo hi =>
    intro cs h
    obtain ⟨hs, hg, hv⟩ := h
    refine ⟨hs, (hR r).le hg, fun rc' v' => ?_⟩
    obtain ⟨xs, inn, _, g2, g3, g4, g5, g6, g7⟩ := (hR r).top hg v'
    obtain ⟨h1, k', e, h2, h3, A, n, cap, h4, h5⟩ := hv _ g2
    rcases g7 with g7 | ⟨g7, g8⟩
    · obtain rfl := ok_nil h1 g7
      refine ⟨trivial, k', e, h2, ?_, A, n, cap, (hdr_top g3 g4 g5 g6).symm.trans h4, h5⟩
      cases e
      exact Nat.le_trans h3 (Nat.le_of_eq g3)
    · obtain ⟨q1, q2⟩ := g7.get h1
      refine ⟨q1, k', e, h2, by rw [← cast_len e q2]; exact h3, A, n, cap, ?_, h5⟩
      rw [← g8, ← h4]
      exact (q2.hdr _ ⟨k', e⟩).symm
  | rp r gen hc p =>
    intro cs h
    obtain ⟨hs, hg, hv⟩ := h
    refine ⟨hs, (hR r).le hg, fun rc' v' => ?_⟩
    obtain ⟨xs, inn, _, g2, g3, g4, g5, g6, g7⟩ := (hR r).top hg v'
    obtain ⟨h1, h0, b, o, h2, h3⟩ := hv _ g2
    rcases g7 with g7 | ⟨g7, g8⟩
    · cases p with
      | nil => simp [ix] at h0
      | cons q p => cases q with
        | f => exact h1.1.elim
        | sn => exact h1.1.elim
        | i n =>
          have hi : ix p = 0 := by simp only [ix] at g7; omega
          have hn : n < List.length xs := h1.1
          refine ⟨⟨by show n < List.length rc'.xs; omega, okp_any _ h1.2 hi⟩, h0, b, o, ?_, h3⟩
          rw [← h2]
          show ad rc'.k p _ ((g'.lay r (.sl rc'.k)).a.map _) = ad rc'.k p _ ((g.lay r (.sl rc'.k)).a.map _)
          rw [← g4, ← g5]
          exact ad_any _ _ _ h1.2 hi
    · obtain ⟨q1, q2⟩ := g7.get h1
      exact ⟨q1, h0, b, o, by rw [← g8]; exact h2, h3⟩
  | pb b gen p =>
    intro cs h
    obtain ⟨hs, hg, hv⟩ := h
    rcases hB b with h | ⟨e1, h⟩
    · exact ⟨hs, by omega, fun v' _ e => by omega⟩
    · refine ⟨hs, by omega, fun v' hv' e => ?_⟩
      obtain ⟨v, g1, g2, g3⟩ := h v' hv'
      obtain ⟨q1, q2⟩ := hv v g1 (by omega)
      obtain ⟨r1, r2⟩ := like_okp g2 q1
      exact ⟨r1, by rw [q2, g3, r2]⟩
  | vp k x => exact fun ⟨b, o, ci, e, h1, h2, h3⟩ => ⟨b, o, ci, e, (hU b h1).1, h2.same (hU b h1).2, RV.mono hU h3⟩
  | fn f a b ia ib => exact fun ⟨va, vb, e, h1, h2⟩ => ⟨va, vb, e, ia h1, ib h2⟩
  | cons a b ia ib =>
    intro cs h
    obtain ⟨v, vs, e, h1, h2⟩ := h
    refine ⟨v, vs, e, ?_, ib h2⟩
    rcases h1 with ⟨e1, c, e2, h1⟩ | ⟨e1, h1⟩
    · exact .inl ⟨e1, c, e2, ia h1⟩
    · exact .inr ⟨e1, ia h1⟩
  | nil => exact fun h => h
  | gd c u iu => exact fun h => h
theorem RepV.step {st st' : St} {g g' : Gh} {w w' : World} (hU : ∀ b, g.U w b → g'.U w' b ∧ w'.heap[b]? = w.heap[b]?)
    (hR : ∀ r, RStep (st.r r) (st'.r r) (g.lay r) (g'.lay r)) (hB : ∀ b, BStep (st.b b) (st'.b b) (g.bx b) (g'.bx b)) :
    ∀ {v : AV} {x : Value}, RepV st g w v x → RepV st' g' w' v x := by
  intro v
  induction v with
  | pr a b => exact fun ⟨c, e, h⟩ => ⟨c, e, h.step hU hR hB⟩
  | cons a b => exact fun ⟨c, e, h⟩ => ⟨c, e, h.step hU hR hB⟩
  | nil => exact fun ⟨c, e, h⟩ => ⟨c, e, h⟩
  | gd c u iu => exact fun ⟨h1, h2⟩ => ⟨fun e => iu (h1 e), h2⟩
  | dead => exact fun _ => trivial
  | _ => exact fun h => Rep.step (v := _) hU hR hB h
/-- The rows that have gone on to another root. -/
def gone (rc : RC) (l : (K.sl rc.k).L) (hole : Option Pth) (b : Nat) : Prop :=
  match hole with
  | none => False
  | some h => b ∈ (rows _ ((K.sl rc.k).get h rc.xs) ((K.sl rc.k).getL h l)).map Prod.fst
def RootM (g : Gh) (w : World) (r : Nat) (rv : RootV) : Prop :=
  ∀ rc, rv.c = some rc →
    if rc.inn = true then
      Fit (.sl rc.k) rc.xs (g.lay r (.sl rc.k)) ∧ ((rows (.sl rc.k) rc.xs (g.lay r (.sl rc.k))).map Prod.fst).Nodup ∧
      (∀ b c, (b, c) ∈ rows (.sl rc.k) rc.xs (g.lay r (.sl rc.k)) → ¬ gone rc (g.lay r (.sl rc.k)) rv.hole b → g.ow b = some (2 * r) ∧ Blk w b c) ∧
      ∀ h, rv.hole = some h → Okp (.sl rc.k) h rc.xs ∧ 0 < ix h
    else
      rv.hole = none ∧ List.length rc.xs ≤ (g.lay r (.sl rc.k)).cap ∧ ((g.lay r (.sl rc.k)).a = none → (g.lay r (.sl rc.k)).cap = 0) ∧
      ∀ b, (g.lay r (.sl rc.k)).a = some b → g.ow b = some (2 * r) ∧ ∃ cs : List (List Value), cs.length = List.length rc.xs ∧ Blk w b ((g.lay r (.sl rc.k)).pre ++ cs.flatten ++ (g.lay r (.sl rc.k)).post) ∧
        ((g.lay r (.sl rc.k)).cap - List.length rc.xs) * rc.k.sz ≤ (g.lay r (.sl rc.k)).post.length ∧
        ∀ i, i < List.length rc.xs → RV (g.U w) w rc.k (List.getD rc.xs i rc.k.d) (cs.getD i [])
def BoxM (st : St) (g : Gh) (w : World) (b : Nat) (bv : BoxV) : Prop :=
  ∀ v, bv.c = some v → v.ok = true ∧
    if bv.ro = true then g.U w (g.bx b).1 ∧ ∃ cs, Cells w (g.bx b).1 (g.bx b).2 cs ∧ Rep st g w v cs
    else (g.bx b).2 = 0 ∧ g.ow (g.bx b).1 = some (2 * b + 3) ∧ ∃ cs, Blk w (g.bx b).1 cs ∧ Rep st g w v cs
/-- What a call has begun with: its world, which blocks were its own (some 1: those that stay another's), its roots and boxes. -/
structure Start where
  w : World
  ow : Nat → Option Nat
  n : Nat
  r : Nat → RootV
  lay : Nat → (k : K) → k.L
  bx : Nat → Nat × Nat
/-- The same place. -/
def Top {k : K} (l m : (K.sl k).L) : Prop := l.a = m.a ∧ l.pre.length = m.pre.length ∧ l.cap = m.cap
structure Sim (S : Start) (st : St) (g : Gh) (w : World) (a : Act) : Prop where
  size : a.tmps.size = S.n
  defers : a.defers = []
  slot : ∀ t, RepV st g w (st.s t) (a.tmps.getD t undef)
  root : ∀ r, RootM g w r (st.r r)
  box : ∀ b, BoxM st g w b (st.b b)
  own : ∀ b x, g.ow b = some x → b < w.heap.size
  os : w.os = S.w.os
  tape : w.tape = S.w.tape
  output : w.output = S.w.output
  grow : S.w.heap.size ≤ w.heap.size
  old : ∀ b, b < S.w.heap.size → S.ow b = none → g.ow b = none ∧ w.heap[b]? = S.w.heap[b]?
  was : ∀ b x, g.ow b = some x → b < S.w.heap.size → S.ow b ≠ none
  far : ∀ b, S.ow b = some 1 → g.ow b = some 1 ∧ w.heap[b]? = S.w.heap[b]?
  topr : ∀ r rc, r < 1000 → (st.r r).gen = 0 → (st.r r).c = some rc → ∃ xs inn, (S.r r).c = some ⟨rc.k, xs, inn⟩ ∧ List.length xs = List.length rc.xs ∧ Top (S.lay r (.sl rc.k)) (g.lay r (.sl rc.k))
  topb : ∀ b v, b < 1000 → (st.b b).gen = 0 → (st.b b).c = some v → g.bx b = S.bx b
def Good (S : Start) (Q : St → Prop) (a : Act) (w : World) : Prop := ∃ st g, Q st ∧ Sim S st g w a
end Go.Am
namespace Go.Am
def K.isPair : K → Bool
  | .pair _ _ => true
  | _ => false
def zcells : K → List Value
  | .int ik => [.int ik 0]
  | .bool => [.bool false]
  | .pair a b => zcells a ++ zcells b
  | .sl _ => [.slice none 0 0]
def zval (k : K) : Value :=
  match k with
  | .pair _ _ => .agg (zcells k).toArray
  | .int ik => .int ik 0
  | .bool => .bool false
  | .sl _ => .slice none 0 0
/-- Where a place of a kind lies, by the path alone. -/
def K.off : K → Pth → Nat
  | _, [] => 0
  | .pair a _, .f :: p => a.off p
  | .pair a b, .sn :: p => a.sz + b.off p
  | _, _ => 0
def K.okp : K → Pth → Prop
  | _, [] => True
  | .pair a _, .f :: p => a.okp p
  | .pair _ b, .sn :: p => b.okp p
  | _, _ => False
def notAgg (d : TypeDesc) : Prop := match d with | .struct _ => False | .array _ _ => False | _ => True
def TyOk (P : Program) (E : Env) (t : TypeId) : Prop :=
  match E.tab t with
  | .other => True
  | .int ik => P.underlying t = some (.int ik) ∧ kind E.tab t = .int ik ∧ ∃ i, P.info? t = some i ∧ i.size = 1 ∧ i.bytes = E.bytes t ∧ i.zero = some (zval (.int ik))
  | .bool => P.underlying t = some .bool ∧ kind E.tab t = .bool ∧ ∃ i, P.info? t = some i ∧ i.size = 1 ∧ i.bytes = E.bytes t ∧ i.zero = some (zval .bool)
  | .slice e => P.underlying t = some (.slice e) ∧ kind E.tab t = .sl (kind E.tab e) ∧ (∃ i, P.info? t = some i ∧ i.size = 1 ∧ i.bytes = E.bytes t ∧ i.zero = some (.slice none 0 0)) ∧
      ∃ i, P.info? e = some i ∧ i.size = (kind E.tab e).sz ∧ i.bytes = E.bytes e ∧ 0 < i.bytes ∧ i.zero = some (zval (kind E.tab e)) ∧ (∃ d, P.underlying e = some d)
  | .ptr => (∃ d, P.underlying t = some d ∧ notAgg d) ∧ (kind E.tab t).isPair = false ∧ ∃ i, P.info? t = some i ∧ i.size = 1
  | .struct fs => (P.stoodInHeld t = false ∧ P.eqGuardType P.depth t = false) ∧ ∃ flds : Array Field, P.underlying t = some (.struct flds) ∧ (kind E.tab t).isPair = true ∧ flds.size = lenL fs ∧
      (∃ i, P.info? t = some i ∧ i.size = (kind E.tab t).sz ∧ i.bytes = E.bytes t ∧ i.zero = some (zval (kind E.tab t))) ∧
      ∀ j f, flds[j]? = some f → nth fs j = some f.type ∧ f.offset = (kind E.tab t).off (fld (lenL fs) j) ∧ (kind E.tab t).okp (fld (lenL fs) j) ∧ (kind E.tab t).at (fld (lenL fs) j) = kind E.tab f.type ∧
        f.name ≠ "_" ∧ (∃ i, P.info? f.type = some i ∧ i.size = (kind E.tab f.type).sz) ∧ ∃ d, P.underlying f.type = some d
def TabOk (P : Program) (E : Env) : Prop := ∀ t, TyOk P E t
def GOk (g : Gd) : Prop :=
  match g with
  | none => True
  | some b => b = true
theorem vcg_run {g : Gd} {p : Prop} {k : Prog} {st : St} {Q : St → Prop} (h : (vcg g p k).run st Q) (hg : GOk g) : p ∧ k.run st Q := by
  cases g with
  | none => exact h
  | some b => exact ⟨h.1 hg, h.2⟩
theorem Rep.ws {st : St} {g : Gh} {w : World} {t : Nat} {u : AV} {v : AV} {cs : List Value} (h : Rep st g w v cs) : Rep (st.ws t u) g w v cs :=
  h.step (st := st) (st' := st.ws t u) (fun _ hb => ⟨hb, rfl⟩) (fun _ => RStep.refl _ _) (fun _ => BStep.refl _ _)
theorem RepV.ws {st : St} {g : Gh} {w : World} {t : Nat} {u : AV} {v : AV} {x : Value} (h : RepV st g w v x) : RepV (st.ws t u) g w v x :=
  h.step (st := st) (st' := st.ws t u) (fun _ hb => ⟨hb, rfl⟩) (fun _ => RStep.refl _ _) (fun _ => BStep.refl _ _)
theorem look_cons {α : Type} (d : α) (i : Nat) (x : α) (l : List (Nat × α)) (n : Nat) : look d ((i, x) :: l) n = if i = n then x else look d l n := by
  simp only [look]
  by_cases h : i = n
  · subst h; simp [iff', Nat.beq_refl]
  · have : Nat.beq i n = false := by
      rw [Bool.eq_false_iff]; intro e; exact h (Nat.eq_of_beq_eq_true e)
    simp [this, iff', h]
theorem St.s_ws (st : St) (t : Nat) (v : AV) (n : Nat) : (st.ws t v).s n = if t = n then v else st.s n := look_cons _ _ _ _ _
theorem St.r_wr (st : St) (t : Nat) (v : RootV) (n : Nat) : (st.wr t v).r n = if t = n then v else st.r n := look_cons _ _ _ _ _
theorem St.b_wb (st : St) (t : Nat) (v : BoxV) (n : Nat) : (st.wb t v).b n = if t = n then v else st.b n := look_cons _ _ _ _ _
theorem put_get {a : Act} {d t : Nat} {x : Value} (hd : d < a.tmps.size) : (a.put (some d) x).tmps.getD t undef = if d = t then x else a.tmps.getD t undef := by
  simp only [Act.put, Array.getD_eq_getD_getElem?, Array.getElem?_setIfInBounds]
  by_cases e : d = t
  · subst e; simp [hd]
  · simp [e]
theorem BoxM.ws {st : St} {g : Gh} {w : World} {b t : Nat} {u : AV} {bv : BoxV} (h : BoxM st g w b bv) : BoxM (st.ws t u) g w b bv := by
  intro v hv
  obtain ⟨h1, h2⟩ := h v hv
  refine ⟨h1, ?_⟩
  split
  · rename_i e
    rw [if_pos e] at h2
    obtain ⟨h3, cs, h4, h5⟩ := h2
    exact ⟨h3, cs, h4, h5.ws⟩
  · rename_i e
    rw [if_neg e] at h2
    obtain ⟨h3, h3', cs, h4, h5⟩ := h2
    exact ⟨h3, h3', cs, h4, h5.ws⟩
theorem Sim.put {S : Start} {st : St} {g : Gh} {w : World} {a : Act} (h : Sim S st g w a) {d : Nat} (hd : d < S.n) {v : AV} {x : Value} (hr : RepV st g w v x) :
    Sim S (st.ws d v) g w (a.put (some d) x) := by
  refine ⟨?_, h.defers, fun t => ?_, h.root, fun b => (h.box b).ws, h.own, h.os, h.tape, h.output, h.grow, h.old, h.was, h.far, h.topr, h.topb⟩
  · simp [Act.put, h.size]
  · rw [put_get (by rw [h.size]; exact hd), St.s_ws]
    split
    · exact hr.ws
    · exact (h.slot t).ws
def inB (n : Nat) (d : Option Nat) : Prop := ∀ i, d = some i → i < n
theorem good_value {S : Start} {st : St} {g : Gh} {w : World} {a : Act} {Q : St → Prop} (h : Sim S st g w a) {gd : Gd} {dst : Option Nat} {v : AV} {x : Value}
    (hq : (wrg gd dst v .ret).run st Q) (hg : GOk gd) (hb : inB S.n dst) (hr : RepV st g w v x) : Good S Q (a.put dst x) w := by
  cases dst with
  | none => exact ⟨st, g, hq, h⟩
  | some d =>
    cases gd with
    | none => exact ⟨_, g, hq, h.put (hb d rfl) hr⟩
    | some b =>
      refine ⟨_, g, hq, h.put (hb d rfl) ?_⟩
      have hb' : b = true := hg
      show (b = true → RepV st g w v x) ∧ (b = false → x = undef)
      exact ⟨fun _ => hr, fun e => (by rw [hb'] at e; cases e)⟩
/-- A guarded operation whose guard says no. -/
theorem good_skip {S : Start} {st : St} {g : Gh} {w : World} {a : Act} {Q : St → Prop} (h : Sim S st g w a) {b : Bool} {dst : Option Nat} {v : AV}
    (hq : (wrg (some b) dst v .ret).run st Q) (hg : b = false) (hb : inB S.n dst) : Good S Q (a.put dst undef) w := by
  cases dst with
  | none => exact ⟨st, g, hq, h⟩
  | some d => exact ⟨_, g, hq, h.put (hb d rfl) (show (b = true → RepV st g w v undef) ∧ (b = false → undef = undef) from ⟨fun e => (by rw [hg] at e; cases e), fun _ => rfl⟩)⟩
theorem RepV.of {st : St} {g : Gh} {w : World} {v : AV} {x : Value} (h : Rep st g w v [x]) (h1 : v.isPr = false) (h2 : ∀ a b, v ≠ .cons a b) (h3 : v ≠ .nil) : RepV st g w v x := by
  cases v <;> first | exact h | (simp [AV.isPr] at h1; done) | exact absurd rfl (h2 _ _) | exact absurd rfl h3 | exact h.elim
theorem ofV_rep {st : St} {g : Gh} {w : World} (v : Value) : RepV st g w (ofV v) v := by
  unfold ofV
  split
  · exact rfl
  · exact rfl
  · exact rfl
  · exact rfl
  · exact trivial
theorem un_run {gd : Gd} {v : AV} {k : AV → Prog} {st : St} {Q : St → Prop} {g : Gh} {w : World} {x : Value} (h : (un gd v k).run st Q) (hg : GOk gd) (hr : RepV st g w v x) :
    ∃ u, RepV st g w u x ∧ (k u).run st Q := by
  cases v with
  | gd c u =>
    obtain ⟨h1, h2⟩ := vcg_run (p := c = true) h hg
    exact ⟨u, hr.1 h1, h2⟩
  | _ => exact ⟨_, hr, h⟩
theorem ev_run {S : Start} {st : St} {g : Gh} {w : World} {a : Act} {Q : St → Prop} {gd : Gd} {o : Operand} {k : AV → Prog} (h : (ev gd o k).run st Q) (hg : GOk gd) (hS : Sim S st g w a) :
    ∃ v, RepV st g w v (a.eval o) ∧ (k v).run st Q := by
  cases o with
  | tmp t => exact un_run (v := st.s t) (x := a.tmps.getD t undef) h hg (hS.slot t)
  | const v => exact ⟨_, ofV_rep v, h⟩
  | func f => exact ⟨.fn f .nil .nil, (show Rep st g w (.fn f .nil .nil) [.func (.func f) #[] #[]] from ⟨#[], #[], rfl, rfl, rfl⟩), h⟩
  | global n => exact h.elim
def All2 {α β : Type} (f : α → β → Prop) : List α → List β → Prop
  | [], [] => True
  | a :: l, b :: m => f a b ∧ All2 f l m
  | _, _ => False
theorem evs_run {S : Start} {st : St} {g : Gh} {w : World} {a : Act} {Q : St → Prop} {gd : Gd} : ∀ {os : List Operand} {k : List AV → Prog} (_ : (evs gd os k).run st Q) (_ : GOk gd) (_ : Sim S st g w a),
    ∃ vs, All2 (fun v o => RepV st g w v (a.eval o)) vs os ∧ (k vs).run st Q
  | [], _, h, _, _ => ⟨[], trivial, h⟩
  | o :: os, k, h, hg, hS => by
    obtain ⟨v, h1, h2⟩ := ev_run h hg hS
    obtain ⟨vs, h3, h4⟩ := evs_run h2 hg hS
    exact ⟨v :: vs, ⟨h1, h3⟩, h4⟩
theorem wp_val {P : Program} {o : Oper} {a : Act} {w w' : World} {x : Value} {K : Act → World → Prop} {Q : Exit → Act → World → Prop} (h : (execOp a.eval o).run P w = .ok (.value x) w')
    (hk : K (a.put o.dst x) w') : o.wp P a w K Q := by
  unfold Oper.wp; rw [h]; exact hk
theorem wp_skp {P : Program} {o : Oper} {a : Act} {w w' : World} {K : Act → World → Prop} {Q : Exit → Act → World → Prop} (h : (execOp a.eval o).run P w = .ok .skip w')
    (hk : K (a.put o.dst undef) w') : o.wp P a w K Q := by
  unfold Oper.wp; rw [h]; exact hk
end Go.Am
namespace Go.Am
theorem eqIK_eq {i j : IntKind} (h : eqIK i j = true) : i = j := by
  cases i <;> cases j <;> first | rfl | (simp [eqIK, sameIK] at h)
theorem iff'_fail {c : Bool} {a : Prog} {Q : St → Prop} {st : St} (h : (iff' c a .fail).run st Q) : c = true ∧ a.run st Q := by
  cases c with
  | true => exact ⟨rfl, h⟩
  | false => exact h.elim
theorem iff'_run {c : Bool} {a b : Prog} {Q : St → Prop} {st : St} (h : (iff' c a b).run st Q) : (c = true ∧ a.run st Q) ∨ (c = false ∧ b.run st Q) := by
  cases c with
  | true => exact .inl ⟨rfl, h⟩
  | false => exact .inr ⟨rfl, h⟩
section
variable {P : Program} {E : Env} {S : Start} {st : St} {g : Gh} {w : World} {a : Act} {Q : St → Prop} {gd : Gd} {o : Oper} {Qx : Exit → Act → World → Prop}
theorem rep_int {k : IntKind} {n : Int} {x : Value} (h : RepV st g w (.int k n) x) : x = .int k n := by
  have : [x] = [.int k n] := h
  simpa using this
theorem rep_bool {b : Bool} {x : Value} (h : RepV st g w (.bool b) x) : x = .bool b := by
  have : [x] = [.bool b] := h
  simpa using this
theorem op_move {x : Operand} (ho : o.op = .move x ∨ o.op = .assign x) (h : (opP E gd o).run st Q) (hg : GOk gd) (hS : Sim S st g w a) (hb : inB S.n o.dst) : o.wp P a w (Good S Q) Qx := by
  have h' : (ev gd x fun v => wrg gd o.dst v .ret).run st Q := by
    rcases ho with ho | ho <;> (unfold opP at h; rw [ho] at h; exact h)
  obtain ⟨v, h1, h2⟩ := ev_run h' hg hS
  refine wp_val (x := a.eval x) (w' := w) ?_ (good_value hS h2 hg hb h1)
  rcases ho with ho | ho <;> simp [execOp, ho]
theorem op_un {x : Operand} {op : UnOp} {t : TypeId} (ho : o.op = .unOp op t x) (h : (opP E gd o).run st Q) (hg : GOk gd) (hS : Sim S st g w a) (hb : inB S.n o.dst) : o.wp P a w (Good S Q) Qx := by
  unfold opP at h; rw [ho] at h
  obtain ⟨v, h1, h2⟩ := ev_run h hg hS
  split at h2
  · have e := rep_bool h1
    refine wp_val (x := .bool (!_)) (w' := w) ?_ (good_value hS h2 hg hb rfl)
    simp [execOp, ho, e, Op.unary]
  · have e := rep_int h1
    refine wp_val (x := .int _ _) (w' := w) ?_ (good_value hS h2 hg hb rfl)
    simp [execOp, ho, e, Op.unary, Op.intArith]
  · exact h2.elim
theorem op_convert {x : Operand} {t t' : TypeId} (T : TabOk P E) (ho : o.op = .convert t' t x) (h : (opP E gd o).run st Q) (hg : GOk gd) (hS : Sim S st g w a) (hb : inB S.n o.dst) : o.wp P a w (Good S Q) Qx := by
  unfold opP at h; rw [ho] at h
  obtain ⟨v, h1, h2⟩ := ev_run h hg hS
  split at h2
  · rename_i ik' ik jk n e' e
    have ht := T t
    unfold TyOk at ht; rw [e] at ht
    have ht' := T t'
    unfold TyOk at ht'; rw [e'] at ht'
    have ev := rep_int h1
    refine wp_val (x := .int _ _) (w' := w) ?_ (good_value hS h2 hg hb rfl)
    simp only [execOp, ho, ev, Go.convert, Sem.run_bind, underlying, run_program, Result.andThen_ok, ht'.1, ht.1, Sem.run_pure]
    simp [Conv.intToInt]
  · exact h2.elim
theorem one_cons {v : AV} {x : Value} (h : RepV st g w v x) (h1 : v.one = true) : (v.isPr = true ∧ ∃ c, x = .agg c ∧ Rep st g w v c.toList) ∨ (v.isPr = false ∧ Rep st g w v [x]) := by
  cases v with
  | pr a b => exact .inl ⟨rfl, h⟩
  | cons a b => simp [AV.one] at h1
  | nil => simp [AV.one] at h1
  | gd c u => simp [AV.one] at h1
  | dead => exact .inr ⟨rfl, trivial⟩
  | _ => exact .inr ⟨rfl, h⟩
theorem of_one {v : AV} {x : Value} (h1 : v.one = true) (h : (v.isPr = true ∧ ∃ c, x = .agg c ∧ Rep st g w v c.toList) ∨ (v.isPr = false ∧ Rep st g w v [x])) : RepV st g w v x := by
  cases v with
  | pr a b => rcases h with ⟨_, h⟩ | ⟨h, _⟩; exact h; simp [AV.isPr] at h
  | cons a b => simp [AV.one] at h1
  | nil => simp [AV.one] at h1
  | gd c u => simp [AV.one] at h1
  | dead => exact trivial
  | _ => rcases h with ⟨h, _⟩ | ⟨_, h⟩; (simp [AV.isPr] at h); exact h
theorem allL_true {α : Type} {f : α → Bool} {x : α} {l : List α} (h : allL f (x :: l) = true) : f x = true ∧ allL f l = true := andB_true.1 h
theorem toCons_rep : ∀ {vs : List AV} {os : List Operand}, All2 (fun v o => RepV st g w v (a.eval o)) vs os → allL AV.one vs = true → Rep st g w (toCons vs) (os.map a.eval)
  | [], [], _, _ => rfl
  | _ :: _, _ :: _, h, h1 => ⟨_, _, rfl, one_cons h.1 (allL_true h1).1, toCons_rep h.2 (allL_true h1).2⟩
  | [], _ :: _, h, _ => h.elim
  | _ :: _, [], h, _ => h.elim
theorem op_makeFunc {f : FuncId} {first capt : Array Operand} (ho : o.op = .makeFunc (.func f) first capt) (h : (opP E gd o).run st Q) (hg : GOk gd) (hS : Sim S st g w a) (hb : inB S.n o.dst) : o.wp P a w (Good S Q) Qx := by
  unfold opP at h; rw [ho] at h
  obtain ⟨vs, h1, h2⟩ := evs_run h hg hS
  obtain ⟨us, h3, h4⟩ := evs_run h2 hg hS
  obtain ⟨h5, h6⟩ := iff'_fail h4
  obtain ⟨h7, h8⟩ := andB_true.1 h5
  refine wp_val (x := .func (.func f) (first.map a.eval) (capt.map a.eval)) (w' := w) (by simp [execOp, ho, Instr.makeFunc]) (good_value hS h6 hg hb ?_)
  show Rep st g w _ [_]
  exact ⟨_, _, rfl, by simpa using toCons_rep h1 h7, by simpa using toCons_rep h3 h8⟩
theorem cons_nth : ∀ {v : AV} {vs : List Value}, Rep st g w v vs → ∀ i u, nthA v.listOf i = u → u ≠ .dead → ∃ x, vs[i]? = some x ∧ ((u.isPr = true ∧ ∃ c, x = .agg c ∧ Rep st g w u c.toList) ∨ (u.isPr = false ∧ Rep st g w u [x]))
  | .cons a b, _, ⟨x, xs, e, h1, h2⟩, 0, u, hu, _ => by
    subst hu
    exact ⟨x, by rw [e]; rfl, h1⟩
  | .cons a b, _, ⟨x, xs, e, h1, h2⟩, i + 1, u, hu, hd => by
    obtain ⟨y, h3, h4⟩ := cons_nth (v := b) h2 i u hu hd
    exact ⟨y, by rw [e]; simpa using h3, h4⟩
  | .dead, _, _, i, u, hu, hd => by cases i <;> exact absurd hu.symm hd
  | .int _ _, _, _, i, u, hu, hd => by cases i <;> exact absurd hu.symm hd
  | .bool _, _, _, i, u, hu, hd => by cases i <;> exact absurd hu.symm hd
  | .pr _ _, _, _, i, u, hu, hd => by cases i <;> exact absurd hu.symm hd
  | .nils, _, _, i, u, hu, hd => by cases i <;> exact absurd hu.symm hd
  | .nilp, _, _, i, u, hu, hd => by cases i <;> exact absurd hu.symm hd
  | .vsl _ _, _, _, i, u, hu, hd => by cases i <;> exact absurd hu.symm hd
  | .rf _ _ _ _, _, _, i, u, hu, hd => by cases i <;> exact absurd hu.symm hd
  | .cut _ _ _ _ _ _, _, _, i, u, hu, hd => by cases i <;> exact absurd hu.symm hd
  | .rp _ _ _ _, _, _, i, u, hu, hd => by cases i <;> exact absurd hu.symm hd
  | .pb _ _ _, _, _, i, u, hu, hd => by cases i <;> exact absurd hu.symm hd
  | .vp _ _, _, _, i, u, hu, hd => by cases i <;> exact absurd hu.symm hd
  | .fn _ _ _, _, _, i, u, hu, hd => by cases i <;> exact absurd hu.symm hd
  | .nil, _, _, i, u, hu, hd => by cases i <;> exact absurd hu.symm hd
  | .gd _ _, _, _, i, u, hu, hd => by cases i <;> exact absurd hu.symm hd
theorem repV_tuple {v : AV} {x : Value} (h : RepV st g w v x) (hd : ∃ i, nthA v.listOf i ≠ .dead) : ∃ vs, x = .tuple vs ∧ Rep st g w v vs.toList := by
  cases v with
  | cons a b => exact h
  | _ => obtain ⟨i, hi⟩ := hd; cases i <;> exact absurd rfl hi
theorem op_extract {x : Operand} {i : Nat} (ho : o.op = .extract x i) (h : (opP E gd o).run st Q) (hg : GOk gd) (hS : Sim S st g w a) (hb : inB S.n o.dst) : o.wp P a w (Good S Q) Qx := by
  unfold opP at h; rw [ho] at h
  obtain ⟨v, h1, h2⟩ := ev_run h hg hS
  have hd : nthA v.listOf i ≠ .dead := by intro e; rw [e] at h2; exact h2
  obtain ⟨vs, e1, h3⟩ := repV_tuple h1 ⟨i, hd⟩
  obtain ⟨y, h4, h5⟩ := cons_nth h3 i _ rfl hd
  have h6 : (iff' (nthA v.listOf i).one (wrg gd o.dst (nthA v.listOf i) .ret) .fail).run st Q := by
    split at h2
    · rename_i e; exact absurd e hd
    · exact h2
  obtain ⟨h7, h8⟩ := iff'_fail h6
  refine wp_val (x := y) (w' := w) ?_ (good_value hS h8 hg hb (of_one h7 h5))
  have h4' : vs[i]? = some y := by simpa using h4
  simp [execOp, ho, Instr.extract, e1, h4']
theorem op_nilCheck {x : Operand} (ho : o.op = .nilCheck x) (h : (opP E gd o).run st Q) (hg : GOk gd) (hS : Sim S st g w a) (hb : inB S.n o.dst) : o.wp P a w (Good S Q) Qx := by
  unfold opP at h; rw [ho] at h
  obtain ⟨v, h1, h2⟩ := ev_run h hg hS
  have key : ∃ A, a.eval x = .pointer (some A) ∧ (wrg gd o.dst v .ret).run st Q := by
    split at h2
    · obtain ⟨⟨A, e⟩, _⟩ := (show Rep st g w _ [_] from h1)
      exact ⟨A, by simpa using e, h2⟩
    · obtain ⟨⟨A, e⟩, _⟩ := (show Rep st g w _ [_] from h1)
      exact ⟨A, by simpa using e, h2⟩
    · obtain ⟨b, o, ci, e, _⟩ := (show Rep st g w _ [_] from h1)
      exact ⟨_, by simpa using e, h2⟩
    · exact h2.elim
  obtain ⟨A, e, h3⟩ := key
  refine wp_val (x := a.eval x) (w' := w) ?_ (good_value hS h3 hg hb h1)
  simp [execOp, ho, e]
theorem likeK_off : ∀ {k : K} {v : AV} {q : Pth}, likeK k v = true → k.okp q → v.okp q ∧ v.off q = k.off q ∧ likeK (k.at q) (v.sub q) = true := by
  intro k
  induction k with
  | pair a b ia ib =>
    intro v q h hq
    cases v <;> simp only [likeK] at h <;> first | (cases h; done) | skip
    rename_i u w
    obtain ⟨h1, h2⟩ := andB_true.1 h
    have hw : u.w = a.sz := by
      clear ia ib hq h h2
      induction a generalizing u with
      | pair c d ic id =>
        cases u <;> simp only [likeK] at h1 <;> first | (cases h1; done) | skip
        obtain ⟨g1, g2⟩ := andB_true.1 h1
        show Nat.add _ _ = _
        rw [ic _ g1, id _ g2]; rfl
      | _ => cases u <;> first | rfl | (simp [likeK] at h1)
    cases q with
    | nil => exact ⟨trivial, rfl, h⟩
    | cons q p => cases q with
      | f => exact ia h1 hq
      | sn =>
        obtain ⟨g1, g2, g3⟩ := ib h2 hq
        exact ⟨g1, by show u.w + _ = a.sz + _; rw [hw, g2], g3⟩
      | i n => exact hq.elim
  | _ =>
    intro v q h hq
    cases q with
    | nil => exact ⟨by cases v <;> trivial, by cases v <;> rfl, by cases v <;> exact h⟩
    | cons q p => cases q <;> exact hq.elim
theorem likeK_w : ∀ {k : K} {v : AV}, likeK k v = true → v.w = k.sz ∧ v.isPr = k.isPair := by
  intro k
  induction k with
  | pair a b ia ib =>
    intro v h
    cases v <;> simp only [likeK] at h <;> first | (cases h; done) | skip
    obtain ⟨h1, h2⟩ := andB_true.1 h
    exact ⟨by show Nat.add _ _ = _; rw [(ia h1).1, (ib h2).1]; rfl, rfl⟩
  | _ => intro v h; cases v <;> first | exact ⟨rfl, rfl⟩ | (simp [likeK] at h)
theorem KlikeK_off : ∀ {k k' : K} {q : Pth}, K.likeK k k' = true → k.okp q → k'.okp q ∧ k'.off q = k.off q := by
  intro k
  induction k with
  | pair a b ia ib =>
    intro v q h hq
    cases v <;> simp only [K.likeK] at h <;> first | (cases h; done) | skip
    rename_i u w
    obtain ⟨h1, h2⟩ := andB_true.1 h
    have hw : u.sz = a.sz := by
      clear ia ib hq h h2
      induction a generalizing u with
      | pair c d ic id =>
        cases u <;> simp only [K.likeK] at h1 <;> first | (cases h1; done) | skip
        obtain ⟨g1, g2⟩ := andB_true.1 h1
        show _ + _ = _
        rw [ic _ g1, id _ g2]; rfl
      | _ => cases u <;> first | rfl | (simp [K.likeK] at h1)
    cases q with
    | nil => exact ⟨trivial, rfl⟩
    | cons q p => cases q with
      | f => exact ia h1 hq
      | sn =>
        obtain ⟨g1, g2⟩ := ib h2 hq
        exact ⟨g1, by show u.sz + _ = a.sz + _; rw [hw, g2]⟩
      | i n => exact hq.elim
  | _ =>
    intro v q h hq
    cases q with
    | nil => exact ⟨by cases v <;> trivial, by cases v <;> rfl⟩
    | cons q p => cases q <;> exact hq.elim
theorem KlikeK_sz : ∀ {k k' : K}, K.likeK k k' = true → k'.sz = k.sz ∧ k'.isPair = k.isPair := by
  intro k
  induction k with
  | pair a b ia ib =>
    intro v h
    cases v <;> simp only [K.likeK] at h <;> first | (cases h; done) | skip
    obtain ⟨h1, h2⟩ := andB_true.1 h
    exact ⟨by show _ + _ = _; rw [(ia h1).1, (ib h2).1]; rfl, rfl⟩
  | _ => intro v h; cases v <;> first | exact ⟨rfl, rfl⟩ | (simp [K.likeK] at h)
theorem cat_eq {α : Type} : ∀ (l m : List α), cat l m = l ++ m
  | [], _ => rfl
  | a :: l, m => by simp [cat, cat_eq l m]
theorem okp_cons {v : AV} {s : Stp} {p : Pth} (h : v.okp (s :: p)) : ∃ a b, v = .pr a b ∧ ((s = .f ∧ a.okp p) ∨ (s = .sn ∧ b.okp p)) := by
  cases v with
  | pr a b =>
    cases s with
    | f => exact ⟨a, b, rfl, .inl ⟨rfl, h⟩⟩
    | sn => exact ⟨a, b, rfl, .inr ⟨rfl, h⟩⟩
    | i n => exact False.elim h
  | _ => cases s <;> exact False.elim h
theorem av_nil (v : AV) : v.sub [] = v ∧ v.off [] = 0 ∧ v.okp [] := by cases v <;> exact ⟨rfl, rfl, trivial⟩
theorem av_okp_cat : ∀ {p : Pth} {v : AV} {q : Pth}, v.okp p → (v.sub p).okp q → v.okp (p ++ q) ∧ v.off (p ++ q) = v.off p + (v.sub p).off q := by
  intro p
  induction p with
  | nil => intro v q _ h; rw [(av_nil v).1] at *; exact ⟨h, by rw [(av_nil v).2.1]; simp⟩
  | cons s p ih =>
    intro v q h h'
    obtain ⟨a, b, rfl, ⟨rfl, h1⟩ | ⟨rfl, h1⟩⟩ := okp_cons h
    · exact ih (v := a) h1 h'
    · obtain ⟨g1, g2⟩ := ih (v := b) h1 h'
      exact ⟨g1, by show a.w + b.off (p ++ q) = a.w + b.off p + (b.sub p).off q; rw [g2]; omega⟩
theorem okp_cat {k : K} : ∀ {p q : Pth} {x : k.T}, Okp k p x → Okp (k.at p) q (k.get p x) → Okp k (p ++ q) x := by
  intro p
  induction p generalizing k with
  | nil => exact fun _ h => h
  | cons s p ih => exact fun h h' => ⟨h.1, ih h.2 h'⟩
theorem ad_cat {k : K} : ∀ {p q : Pth} (l : k.L) (b : Base), ad k (p ++ q) l b = ad (k.at p) q (k.getL p l) (ad k p l b) := by
  intro p
  induction p generalizing k with
  | nil => exact fun _ _ => rfl
  | cons s p ih => exact fun l b => ih (k := k.st s) _ _
theorem ix_append : ∀ (p q : Pth), ix (p ++ q) = ix p + ix q
  | [], q => by simp [ix]
  | .f :: p, q => ix_append p q
  | .sn :: p, q => ix_append p q
  | .i _ :: p, q => by show ix (p ++ q) + 1 = ix p + 1 + ix q; rw [ix_append p q]; omega
theorem okp_k {k : K} : ∀ {q : Pth} (x : k.T), k.okp q → Okp k q x ∧ ix q = 0 := by
  intro q
  induction q generalizing k with
  | nil => exact fun _ _ => ⟨trivial, rfl⟩
  | cons s p ih =>
    intro x h
    cases k with
    | pair a b => cases s with
      | f => obtain ⟨h1, h2⟩ := ih (k := a) x.1 h; exact ⟨⟨trivial, h1⟩, h2⟩
      | sn => obtain ⟨h1, h2⟩ := ih (k := b) x.2 h; exact ⟨⟨trivial, h1⟩, h2⟩
      | i n => exact h.elim
    | _ => cases s <;> exact h.elim
theorem ad_k {k : K} : ∀ {q : Pth} (l : k.L) (b o : Nat), k.okp q → ad k q l (some (b, o)) = some (b, o + k.off q) := by
  intro q
  induction q generalizing k with
  | nil => intro l b o _; cases k <;> rfl
  | cons s p ih =>
    intro l b o h
    cases k with
    | pair a c => cases s with
      | f => exact ih (k := a) l.1 b o h
      | sn => exact (ih (k := c) l.2 b (o + a.sz) h).trans (by show _ = some (b, o + (a.sz + _)); rw [Nat.add_assoc])
      | i n => exact h.elim
    | _ => cases s <;> exact h.elim
theorem RV.sub {U : Nat → Prop} {w : World} {k : K} : ∀ {q : Pth} {x : k.T} {cs : List Value}, RV U w k x cs → k.okp q → ∃ A c B, cs = A ++ c ++ B ∧ A.length = k.off q ∧ RV U w (k.at q) (k.get q x) c := by
  intro q
  induction q generalizing k with
  | nil => intro x cs h _; exact ⟨[], cs, [], by simp, by cases k <;> rfl, h⟩
  | cons s p ih =>
    intro x cs h hq
    cases k with
    | pair a b =>
      obtain ⟨c1, c2, e, h1, h2⟩ := h
      cases s with
      | f =>
        obtain ⟨A, c, B, e1, e2, h3⟩ := ih (k := a) h1 hq
        exact ⟨A, c, B ++ c2, by rw [e, e1]; simp, e2, h3⟩
      | sn =>
        obtain ⟨A, c, B, e1, e2, h3⟩ := ih (k := b) h2 hq
        exact ⟨c1 ++ A, c, B, by rw [e, e1]; simp, by rw [List.length_append, h1.length, e2]; rfl, h3⟩
      | i n => exact hq.elim
    | _ => cases s <;> exact hq.elim
theorem Rep.sub : ∀ {p : Pth} {v : AV} {cs : List Value}, v.ok = true → Rep st g w v cs → v.okp p → ∃ A c B, cs = A ++ c ++ B ∧ A.length = v.off p ∧ Rep st g w (v.sub p) c ∧ (v.sub p).ok = true := by
  intro p
  induction p with
  | nil => intro v cs h h' _; exact ⟨[], cs, [], by simp, by rw [(av_nil v).2.1]; rfl, by rw [(av_nil v).1]; exact h', by rw [(av_nil v).1]; exact h⟩
  | cons s p ih =>
    intro v cs h hr hp
    obtain ⟨a, b, rfl, ⟨rfl, h1⟩ | ⟨rfl, h1⟩⟩ := okp_cons hp
    · obtain ⟨c1, c2, e, g1, g2⟩ := hr
      obtain ⟨A, c, B, e1, e2, h3, h4⟩ := ih (andB_true.1 h).1 g1 h1
      exact ⟨A, c, B ++ c2, by rw [e, e1]; simp, e2, h3, h4⟩
    · obtain ⟨c1, c2, e, g1, g2⟩ := hr
      obtain ⟨A, c, B, e1, e2, h3, h4⟩ := ih (andB_true.1 h).2 g2 h1
      exact ⟨c1 ++ A, c, B, by rw [e, e1]; simp, by rw [List.length_append, (Rep.plain (andB_true.1 h).1 g1).1, e2]; rfl, h3, h4⟩
theorem opnV_rep : ∀ {k : K} {x : k.T} {cs : List Value}, RV (g.U w) w k x cs → Rep st g w (opnV k x) cs ∧ likeK k (opnV k x) = true ∧ (opnV k x).ok = true
  | .int _, _, _, h => ⟨h, rfl, rfl⟩
  | .bool, _, _, h => ⟨h, rfl, rfl⟩
  | .pair _ _, _, _, ⟨c1, c2, e, h1, h2⟩ => ⟨⟨c1, c2, e, (opnV_rep h1).1, (opnV_rep h2).1⟩, andB_true.2 ⟨(opnV_rep h1).2.1, (opnV_rep h2).2.1⟩, andB_true.2 ⟨(opnV_rep h1).2.2, (opnV_rep h2).2.2⟩⟩
  | .sl _, _, _, h => ⟨h, rfl, rfl⟩
end
end Go.Am
namespace Go.Am
section
variable {P : Program} {E : Env} {S : Start} {st : St} {g : Gh} {w : World} {a : Act} {Q : St → Prop} {gd : Gd} {o : Oper} {Qx : Exit → Act → World → Prop}
theorem add_none (b o n : Nat) : (⟨b, o, none⟩ : Addr).add n = ⟨b, o + n, none⟩ := by
  unfold Addr.add; split <;> simp [*]
theorem add_spot {A : Addr} (h : A.spot = none) (n : Nat) : A.add n = ⟨A.block, A.off + n, none⟩ := by
  cases A; simp at h; subst h; exact add_none _ _ _
theorem struct_run {t : TypeId} {fs : List TypeId} (T : TabOk P E) (e : E.tab t = .struct fs) {j : Nat} (hj : j < lenL fs) (b o : Nat) (w : World) :
    (Instr.fieldAt t (.pointer (some ⟨b, o, none⟩)) j).run P w = .ok (.pointer (some ⟨b, o + (kind E.tab t).off (fld (lenL fs) j), none⟩)) w ∧ (kind E.tab t).okp (fld (lenL fs) j) := by
  have ht := T t
  unfold TyOk at ht; rw [e] at ht
  obtain ⟨_, flds, h1, _, h2, _, h3⟩ := ht
  obtain ⟨f, hf⟩ : ∃ f, flds[j]? = some f := ⟨flds[j]'(by omega), Array.getElem?_eq_getElem (by omega)⟩
  obtain ⟨_, h4, h5, _, _, ⟨i, h6, h7⟩, _⟩ := h3 j f hf
  have hz : ¬ i.size = 0 := by have := sz_pos (kind E.tab f.type); omega
  refine ⟨?_, h5⟩
  simp [Instr.fieldAt, underlying, h1, hf, Instr.sureAddr, fieldPlace, sizeOf, typeInfo, h6, hz, add_none, h4]
theorem fresh_run {hc n : Nat} {p : Pth} {rv : RootV} {inn : Bool} {k : Prog} (h : (fresh hc p rv inn n k).run st Q) : (ix p < n ∨ (inn = true ∧ hc = rv.hc)) ∧ k.run st Q := by
  obtain ⟨h1, h2⟩ := iff'_fail h
  refine ⟨?_, h2⟩
  rcases orB_true.1 h1 with h | h
  · left
    have := Nat.le_of_ble_eq_true (show Nat.ble (ix p + 1) n = true from h)
    omega
  · right
    obtain ⟨h3, h4⟩ := andB_true.1 h
    exact ⟨h3, Nat.eq_of_beq_eq_true h4⟩
theorem op_field {x : Operand} {t : TypeId} {j : Nat} (T : TabOk P E) (ho : o.op = .fieldAddr t x j) (hj : ∀ fs, E.tab t = .struct fs → j < lenL fs) (h : (opP E gd o).run st Q) (hg : GOk gd) (hS : Sim S st g w a) (hb : inB S.n o.dst) : o.wp P a w (Good S Q) Qx := by
  unfold opP at h; rw [ho] at h
  simp only [] at h
  split at h
  · rename_i fs e
    obtain ⟨v, h1, h2⟩ := ev_run h hg hS
    obtain ⟨_, hq⟩ := struct_run T e (hj fs e) 0 0 w
    unfold fldP at h2
    split at h2
    · rename_i b gen p
      simp only [Prog.run] at h2
      split at h2
      · rename_i u hu
        obtain ⟨h3, h4⟩ := iff'_fail h2
        obtain ⟨h5, h6⟩ := andB_true.1 h3
        have hgen : gen = (st.b b).gen := Nat.eq_of_beq_eq_true h5
        obtain ⟨hs, hle, hv⟩ := (show Rep st g w (.pb b gen p) [_] from h1)
        obtain ⟨r1, r2⟩ := hv u hu hgen
        obtain ⟨q1, q2, q3⟩ := likeK_off h6 hq
        obtain ⟨c1, c2⟩ := av_okp_cat r1 q1
        have e1 : a.eval x = .pointer (some ⟨(g.bx b).1, (g.bx b).2 + u.off p, none⟩) := by simpa using r2
        refine wp_val (x := .pointer (some ⟨(g.bx b).1, (g.bx b).2 + u.off p + (kind E.tab t).off (fld (lenL fs) j), none⟩)) (w' := w) ?_ (good_value hS h4 hg hb ?_)
        · simp only [execOp, ho, e1]
          simp only [Sem.run_bind, (struct_run T e (hj fs e) _ _ w).1, Result.andThen_ok, Sem.run_pure]
        · show Rep st g w (.pb b gen (cat p _)) [_]
          refine ⟨⟨_, rfl⟩, hle, fun u' hu' _ => ?_⟩
          rw [hu] at hu'; cases hu'
          rw [cat_eq]
          exact ⟨c1, by rw [c2, q2, Nat.add_assoc]⟩
      · exact h2.elim
    · rename_i r gen hc p
      simp only [Prog.run] at h2
      split at h2
      · rename_i rc hrc
        obtain ⟨h3, h4⟩ := iff'_fail h2
        obtain ⟨h5, h6⟩ := andB_true.1 h3
        have hgen : gen = (st.r r).gen := Nat.eq_of_beq_eq_true h5
        obtain ⟨h7, h8⟩ := fresh_run h4
        obtain ⟨hs, hle, hv⟩ := (show Rep st g w (.rp r gen hc p) [_] from h1)
        obtain ⟨r1, r0, b, of, r2, r3⟩ := hv rc ⟨hrc, hgen, h7⟩
        obtain ⟨q1, q2⟩ := KlikeK_off h6 hq
        have e1 : a.eval x = .pointer (some ⟨b, of, none⟩) := by simpa using r3
        refine wp_val (x := .pointer (some ⟨b, of + (kind E.tab t).off (fld (lenL fs) j), none⟩)) (w' := w) ?_ (good_value hS h8 hg hb ?_)
        · simp only [execOp, ho, e1]
          simp only [Sem.run_bind, (struct_run T e (hj fs e) _ _ w).1, Result.andThen_ok, Sem.run_pure]
        · show Rep st g w (.rp r gen hc (cat p _)) [_]
          refine ⟨⟨_, rfl⟩, hle, fun rc' hv' => ?_⟩
          have hrc' : rc' = rc := by have := hv'.1; rw [hrc] at this; exact (Option.some.inj this).symm
          subst hrc'
          rw [cat_eq]
          obtain ⟨k1, k2⟩ := okp_k ((K.sl rc'.k).get p rc'.xs) q1
          refine ⟨okp_cat r1 k1, by rw [ix_append]; omega, b, of + ((K.sl rc'.k).at p).off (fld (lenL fs) j), ?_, by rw [q2]⟩
          rw [ad_cat, r2]
          exact ad_k _ _ _ q1
      · exact h2.elim
    · rename_i k y
      obtain ⟨h3, h4⟩ := iff'_fail h2
      obtain ⟨b, of, ci, r1, r2, r3, r4⟩ := (show Rep st g w (.vp k y) [_] from h1)
      obtain ⟨q1, q2⟩ := KlikeK_off h3 hq
      obtain ⟨A, c, B, e2, e3, r5⟩ := r4.sub q1
      have e1 : a.eval x = .pointer (some ⟨b, of, none⟩) := by simpa using r1
      refine wp_val (x := .pointer (some ⟨b, of + (kind E.tab t).off (fld (lenL fs) j), none⟩)) (w' := w) ?_ (good_value hS h4 hg hb ?_)
      · simp only [execOp, ho, e1]
        simp only [Sem.run_bind, (struct_run T e (hj fs e) _ _ w).1, Result.andThen_ok, Sem.run_pure]
      · show Rep st g w (.vp _ _) [_]
        rw [e2] at r3
        exact ⟨b, _, c, rfl, r2, by rw [← q2, ← e3]; exact r3.left.right, r5⟩
    · exact h2.elim
  · exact h.elim
end
end Go.Am
namespace Go.Am
section
variable {P : Program} {E : Env} {S : Start} {st : St} {g : Gh} {w : World} {a : Act} {Q : St → Prop} {gd : Gd} {o : Oper} {Qx : Exit → Act → World → Prop}
theorem elem_of {t e : TypeId} (T : TabOk P E) (he : E.tab t = .slice e) :
    P.underlying t = some (.slice e) ∧ ∃ i, P.info? e = some i ∧ i.size = (kind E.tab e).sz ∧ i.bytes = E.bytes e ∧ 0 < i.bytes ∧ i.zero = some (zval (kind E.tab e)) ∧ ∃ d, P.underlying e = some d := by
  have ht := T t
  unfold TyOk at ht; rw [he] at ht
  exact ⟨ht.1, ht.2.2.2⟩
theorem index_run {t e : TypeId} (T : TabOk P E) (he : E.tab t = .slice e) {A : Addr} (hA : A.spot = none) {n : Int} {len cap : Nat} (h0 : 0 ≤ n) (h1 : n < len) (w : World) :
    (Instr.indexAt t (.slice (some A) len cap) (.int .i64 n)).run P w = .ok (.pointer (some ⟨A.block, A.off + n.toNat * (kind E.tab e).sz, none⟩)) w := by
  obtain ⟨hu, i, hi, hs, _⟩ := elem_of T he
  simp only [Instr.indexAt, asIntOf, Sem.run_bind, Sem.run_pure, Result.andThen_ok, underlying, run_program, hu, h0, h1, and_self, if_true]
  simp only [sizeOf, typeInfo, Sem.run_bind, Sem.run_pure, Result.andThen_ok, run_program, hi, hs, add_spot hA]
theorem live_run {gen : Nat} {rv : RootV} {k : RC → Prog} (h : (live gen rv k).run st Q) : ∃ rc, rv.c = some rc ∧ gen = rv.gen ∧ rv.hole = none ∧ (k rc).run st Q := by
  unfold live at h
  split at h
  · exact h.elim
  · rename_i rc e
    obtain ⟨h1, h2⟩ := iff'_fail h
    split at h2
    · rename_i e2
      exact ⟨rc, e, Nat.eq_of_beq_eq_true h1, e2, h2⟩
    · exact h2.elim
theorem rdSl_run {r gen hc : Nat} {p : Pth} {k : (k : K) → List k.T → Prog} (h : (rdSl r gen hc p k).run st Q) :
    ∃ rc k', (st.r r).hole = none ∧ valid (st.r r) gen hc 1 p rc ∧ ∃ e : (K.sl rc.k).at p = .sl k', (k k' (cast (congrArg K.T e) ((K.sl rc.k).get p rc.xs))).run st Q := by
  unfold rdSl at h
  simp only [Prog.run] at h
  obtain ⟨rc, h1, h2, h3, h4⟩ := live_run h
  obtain ⟨h5, h6⟩ := fresh_run h4
  refine ⟨rc, ?_⟩
  split at h6
  · rename_i k' e
    exact ⟨k', h3, ⟨h1, h2, h5⟩, e, h6⟩
  · exact h6.elim
/-- A slice's header, its address, and its element count. -/
theorem hdr_sl {k k' : K} (e : k = .sl k') (x : k.T) (l : k.L) : hdr k x l = [.slice ((cast (congrArg K.L e) l : SL k'.L).a.map fun b => ⟨b, (cast (congrArg K.L e) l : SL k'.L).pre.length, none⟩)
    (cast (congrArg K.T e) x : List k'.T).length (cast (congrArg K.L e) l : SL k'.L).cap] := by
  subst e; rfl
theorem snoc_okp {k : K} : ∀ (p : Pth) (n : Nat) {k' : K} (x : k.T) (e : k.at p = .sl k'), Okp k p x → n < (cast (congrArg K.T e) (k.get p x) : List k'.T).length → Okp k (p ++ [.i n]) x
  | [], n, k', x, e, _, hn => by
    have e' : k = .sl k' := e
    subst e'
    exact ⟨hn, trivial⟩
  | q :: p, n, k', x, e, h, hn => ⟨h.1, snoc_okp (k := k.st q) p n _ e h.2 hn⟩
theorem snoc_ad {k : K} : ∀ (p : Pth) (n : Nat) {k' : K} (l : k.L) (b : Base) (e : k.at p = .sl k'), ad k (p ++ [.i n]) l b =
    (cast (congrArg K.L e) (k.getL p l) : SL k'.L).a.map fun b => (b, (cast (congrArg K.L e) (k.getL p l) : SL k'.L).pre.length + n * k'.sz)
  | [], n, k', l, b, e => by
    have e' : k = .sl k' := e
    subst e'
    rfl
  | q :: p, n, k', l, b, e => snoc_ad (k := k.st q) p n _ _ e
theorem Fit_a {k k' : K} (e : k = .sl k') (x : k.T) (l : k.L) (hf : Fit k x l) (h0 : 0 < (cast (congrArg K.T e) x : List k'.T).length) : ∃ b, (cast (congrArg K.L e) l : SL k'.L).a = some b := by
  subst e
  cases ha : (cast (congrArg K.L rfl) l : SL k'.L).a with
  | some b => exact ⟨b, rfl⟩
  | none =>
    exfalso
    have h1 := (hf.2.2.2 ha).1
    have h2 := hf.2.1
    simp only [cast_eq] at h0
    omega
/-- A whole root's slice with elements lies somewhere. -/
theorem root_a {r : Nat} {rv : RootV} {rc : RC} {p : Pth} {k' : K} (hr : RootM g w r rv) (hv : rv.c = some rc) (hp : Okp (.sl rc.k) p rc.xs) (hi : ix p < 1 ∨ rc.inn = true) (e : (K.sl rc.k).at p = .sl k')
    (h0 : 0 < (cast (congrArg K.T e) ((K.sl rc.k).get p rc.xs) : List k'.T).length) : ∃ b, (cast (congrArg K.L e) ((K.sl rc.k).getL p (g.lay r (.sl rc.k))) : SL k'.L).a = some b := by
  have hr := hr rc hv
  by_cases hinn : rc.inn = true
  · rw [if_pos hinn] at hr
    have hf := Fit_get hr.1 hp
    exact Fit_a e _ _ hf h0
  · rw [if_neg hinn] at hr
    rcases hi with hi | hi
    · obtain rfl := ok_nil hp hi
      have e' : k' = rc.k := by cases e; rfl
      subst e'
      cases ha : (g.lay r (.sl rc.k)).a with
      | some b => exact ⟨b, ha⟩
      | none =>
        exfalso
        have h1 := hr.2.2.1 ha
        have h2 := hr.2.1
        have h0' : 0 < List.length rc.xs := h0
        omega
    · exact absurd hi hinn
theorem op_index {x i : Operand} {t : TypeId} (T : TabOk P E) (ho : o.op = .indexAddr t x i) (h : (opP E gd o).run st Q) (hg : GOk gd) (hS : Sim S st g w a) (hb : inB S.n o.dst) : o.wp P a w (Good S Q) Qx := by
  unfold opP at h; rw [ho] at h
  simp only [] at h
  split at h
  · rename_i e he
    obtain ⟨v, h1, h2⟩ := ev_run h hg hS
    obtain ⟨iv, h3, h4⟩ := ev_run h2 hg hS
    unfold idxP at h4
    split at h4
    · rename_i n
      have ei := rep_int h3
      split at h4
      · rename_i k xs
        obtain ⟨h5, h6⟩ := iff'_fail h4
        obtain ⟨⟨h7, h8⟩, h9⟩ := vcg_run h6 hg
        obtain ⟨A, cap, e1, hc, hsp, hel⟩ := (show RV (g.U w) w (.sl k) xs [_] from h1)
        have e1 : a.eval x = .slice A (List.length xs) cap := by simpa using e1
        have hn : n.toNat < List.length xs := by omega
        obtain ⟨ad, ci, e2, hU, hC, hR⟩ := hel n.toNat hn
        subst e2
        have hs := hsp ad rfl (by show 0 < List.length xs; omega)
        have hk : k.sz = (kind E.tab e).sz := Nat.eq_of_beq_eq_true h5
        refine wp_val (w' := w) ?_ (good_value hS h9 hg hb (x := .pointer (some ⟨ad.block, ad.off + n.toNat * (kind E.tab e).sz, none⟩)) ?_)
        · simp only [execOp, ho, e1, ei]
          simp only [Sem.run_bind, index_run T he hs h7 h8 w, Result.andThen_ok, Sem.run_pure]
        · show Rep st g w (.vp k _) [_]
          exact ⟨_, _, ci, rfl, hU, by rw [← hk]; exact hC, hR⟩
      · rename_i r gen hc p
        simp only [Prog.run] at h4
        split at h4
        · exact h4.elim
        · rename_i rc hrc
          obtain ⟨h5, h6⟩ := iff'_fail h4
          have hgen := Nat.eq_of_beq_eq_true h5
          obtain ⟨h7, h8⟩ := fresh_run h6
          split at h8
          · rename_i k' ek
            obtain ⟨h9, h10⟩ := iff'_fail h8
            obtain ⟨⟨h11, h12⟩, h13⟩ := vcg_run h10 hg
            have hk : k'.sz = (kind E.tab e).sz := Nat.eq_of_beq_eq_true h9
            obtain ⟨hsh, hle, hv⟩ := (show Rep st g w (.rf r gen hc p) [_] from h1)
            obtain ⟨r1, r2, r3⟩ := hv rc ⟨hrc, hgen, h7⟩
            rw [hdr_sl ek] at r3
            have hn : n.toNat < (cast (congrArg K.T ek) ((K.sl rc.k).get p rc.xs) : List k'.T).length := by omega
            obtain ⟨b, hb'⟩ := root_a (hS.root r) hrc r1 (h7.imp id And.left) ek (by omega)
            rw [hb'] at r3
            have e1 := (List.cons.inj r3).1
            refine wp_val (w' := w) ?_ (good_value hS h13 hg hb (x := .pointer (some ⟨b, (cast (congrArg K.L ek) ((K.sl rc.k).getL p (g.lay r (.sl rc.k))) : SL k'.L).pre.length + n.toNat * (kind E.tab e).sz, none⟩)) ?_)
            · simp only [execOp, ho, e1, ei]
              simp only [Option.map_some, Sem.run_bind, index_run T he (A := ⟨b, (cast (congrArg K.L ek) ((K.sl rc.k).getL p (g.lay r (.sl rc.k))) : SL k'.L).pre.length, none⟩) rfl h11 h12 w, Result.andThen_ok, Sem.run_pure]
            · show Rep st g w (.rp r gen hc (cat p _)) [_]
              refine ⟨⟨_, rfl⟩, hle, fun rc' hv' => ?_⟩
              have hrc' : rc' = rc := by have := hv'.1; rw [hrc] at this; exact (Option.some.inj this).symm
              subst hrc'
              rw [cat_eq]
              refine ⟨snoc_okp p _ _ ek r1 hn, by rw [ix_append]; exact Nat.lt_of_lt_of_le Nat.one_pos (Nat.le_add_left _ _), b, _, ?_, rfl⟩
              rw [snoc_ad p _ _ _ ek, hb', ← hk]; rfl
          · exact h8.elim
      · exact h4.elim
    · exact h4.elim
  · exact h.elim
theorem len_run {t e : TypeId} (T : TabOk P E) (he : E.tab t = .slice e) (A : Option Addr) (n cap : Nat) (rest : List TypeId) (w : World) (ty : TypeId) :
    (Builtin.len_ (t :: rest).toArray ty #[.slice A n cap]).run P w = .ok (.int .i64 n) w := by
  obtain ⟨hu, _⟩ := elem_of T he
  simp [Builtin.len_, underlying, hu, goInt]
theorem args_of {vs : List AV} {c : Array Operand} (h : All2 (fun v o => RepV st g w v (a.eval o)) vs c.toList) : All2 (RepV st g w) vs (c.map a.eval).toList := by
  rw [Array.toList_map]
  revert h
  generalize c.toList = l
  revert l
  induction vs with
  | nil => intro l h; cases l <;> exact h
  | cons v vs ih => intro l h; cases l with
    | nil => exact h
    | cons x l => exact ⟨h.1, ih l h.2⟩
theorem one_of {v : AV} {xs : Array Value} (h : All2 (RepV st g w) [v] xs.toList) : ∃ x, xs = #[x] ∧ RepV st g w v x := by
  obtain ⟨l⟩ := xs
  cases l with
  | nil => exact h.elim
  | cons x l => cases l with
    | nil => exact ⟨x, rfl, h.1⟩
    | cons y l => exact h.2.elim
theorem two_of {u v : AV} {xs : Array Value} (h : All2 (RepV st g w) [u, v] xs.toList) : ∃ x y, xs = #[x, y] ∧ RepV st g w u x ∧ RepV st g w v y := by
  obtain ⟨l⟩ := xs
  cases l with
  | nil => exact h.elim
  | cons x l => cases l with
    | nil => exact h.2.elim
    | cons y l => cases l with
      | nil => exact ⟨x, y, rfl, h.1, h.2.1⟩
      | cons z l => exact h.2.2.elim
theorem exec_builtin {c : Call} {b : Builtin} (ho : o.op = .call c) (hc : c.callee = .builtin b) {f : Array TypeId → TypeId → Array Value → Sem Value}
    (hb : ∀ ts ty cs xs, builtin b ts ty cs xs = (do pure (.value (← f ts ty xs)))) {x : Value} {w' : World} (h : (f c.argTypes o.type (c.args.map a.eval)).run P w = .ok x w') :
    (execOp a.eval o).run P w = .ok (.value x) w' := by
  simp only [execOp, ho, resolve, hc, Sem.run_bind, Sem.run_pure, Result.andThen_ok, invoke, hb, h]
theorem op_len {c : Call} (T : TabOk P E) (ho : o.op = .call c) (hc : c.callee = .builtin .len) (h : (opP E gd o).run st Q) (hg : GOk gd) (hS : Sim S st g w a) (hb : inB S.n o.dst) : o.wp P a w (Good S Q) Qx := by
  unfold opP at h; rw [ho] at h
  simp only [hc] at h
  obtain ⟨vs, h1, h2⟩ := evs_run h hg hS
  have h1 := args_of h1
  split at h2
  · rename_i v t rest et _
    split at h2
    · rename_i e he
      obtain ⟨x, ex, hx⟩ := one_of h1
      have key : ∀ {n : Nat}, (∃ A cap, x = .slice A n cap) → (wrg gd o.dst (.int .i64 n) .ret).run st Q → o.wp P a w (Good S Q) Qx := by
        rintro n ⟨A, cap, e1⟩ hq
        refine wp_val (x := .int .i64 n) (w' := w) ?_ (good_value hS hq hg hb rfl)
        refine exec_builtin ho hc (fun _ _ _ _ => rfl) ?_
        have : c.argTypes = (t :: rest).toArray := by rw [← et]
        rw [ex, e1, this]
        exact len_run T he A n cap rest w o.type
      unfold lenP at h2
      split at h2
      · rename_i k xs _
        obtain ⟨A, cap, e1, _⟩ := (show RV (g.U w) w (.sl k) xs [_] from hx)
        exact key ⟨A, cap, (List.cons.inj e1).1⟩ h2
      · have e1 : [x] = [Value.slice none 0 0] := hx
        exact key (n := 0) ⟨_, _, (List.cons.inj e1).1⟩ h2
      · rename_i r gen hc' p _
        obtain ⟨rc, k', h3, h4, ek, h5⟩ := rdSl_run h2
        obtain ⟨_, _, hv⟩ := (show Rep st g w (.rf r gen hc' p) [_] from hx)
        obtain ⟨r1, r2, r3⟩ := hv rc h4
        rw [hdr_sl ek] at r3
        exact key ⟨_, _, (List.cons.inj r3).1⟩ h5
      · obtain ⟨⟨A, c, e⟩, _⟩ := (show Rep st g w (.cut _ _ _ _ _ _) [_] from hx)
        exact key ⟨_, _, (List.cons.inj e).1⟩ h2
      · exact h2.elim
    · exact h2.elim
  · exact h2.elim
end
end Go.Am
namespace Go.Am
section
variable {P : Program} {E : Env} {S : Start} {st : St} {g : Gh} {w : World} {a : Act} {Q : St → Prop} {gd : Gd} {o : Oper} {Qx : Exit → Act → World → Prop}
def boundIs (v : Option Value) (d n : Int) : Prop := (v = none ∧ n = d) ∨ v = some (.int .i64 n)
def hiS (hi : Option Value) (len cap : Nat) : Sem Nat := match hi with | some v => Instr.sliceBound v cap .sliceAcap | none => pure len
def loS (lo : Option Value) (h : Nat) : Sem Nat := match lo with | some v => Instr.sliceBound v h .sliceB | none => pure 0
theorem hiS_run {hi : Option Value} {len cap : Nat} {y : Int} (hh : boundIs hi len y) (h0 : 0 ≤ y) (h1 : y ≤ cap) : (hiS hi len cap).run P w = .ok y.toNat w := by
  rcases hh with ⟨rfl, rfl⟩ | rfl
  · simp [hiS]
  · simp only [hiS, Instr.sliceBound, asIntOf, Sem.run_bind, Sem.run_pure, Result.andThen_ok, h0, h1, and_self, if_true]
theorem loS_run {lo : Option Value} {n : Nat} {x : Int} (hh : boundIs lo 0 x) (h0 : 0 ≤ x) (h1 : x ≤ n) : (loS lo n).run P w = .ok x.toNat w := by
  rcases hh with ⟨rfl, rfl⟩ | rfl
  · simp [loS]
  · simp only [loS, Instr.sliceBound, asIntOf, Sem.run_bind, Sem.run_pure, Result.andThen_ok, h0, h1, and_self, if_true]
theorem slice_run {t e : TypeId} (T : TabOk P E) (he : E.tab t = .slice e) (A : Option Addr) {len cap : Nat} {lo hi : Option Value} {x y : Int} (hl : boundIs lo 0 x) (hh : boundIs hi len y)
    (h0 : 0 ≤ x) (h1 : x ≤ y) (h2 : y ≤ len) (hc : len ≤ cap) (w : World) :
    (Instr.sliceAt t (.slice A len cap) lo hi none).run P w = .ok (cutV A cap (kind E.tab e).sz x.toNat y.toNat) w := by
  obtain ⟨hu, i, hi', hs, _⟩ := elem_of T he
  have g3 : (Instr.sliceBounds true len cap lo hi none).run P w = .ok (x.toNat, y.toNat, cap) w := by
    have e1 : (Instr.sliceBounds true len cap lo hi none) = (do
      let h ← hiS hi len cap
      let l ← loS lo h
      pure (l, h, cap)) := by
      cases hi <;> cases lo <;> rfl
    rw [e1]
    simp only [Sem.run_bind, hiS_run hh (by omega : 0 ≤ y) (by omega : y ≤ (cap : Int)), Result.andThen_ok, loS_run hl h0 (by omega : x ≤ (y.toNat : Int)), Sem.run_pure]
  simp only [Instr.sliceAt, Instr.slice, Sem.run_bind, underlying, run_program, Result.andThen_ok, hu, Sem.run_pure, g3, sizeOf, typeInfo, hi', hs]
  rfl
theorem cutV_spot {A : Option Addr} {cap sz lo hi : Nat} (h : ∀ ad, A = some ad → ad.spot = none) : ∀ A' n c, cutV A cap sz lo hi = .slice A' n c → ∀ ad, A' = some ad → ad.spot = none := by
  intro A' n c e ad ea
  unfold cutV at e
  injection e with e1
  subst ea
  split at e1
  · exact h _ e1
  · cases A with
    | none => cases e1
    | some ad' =>
      have : ad = ad'.add (lo * sz) := by simpa using e1.symm
      rw [this, add_spot (h ad' rfl)]
theorem bound_run {v : Option AV} {d : Int} {c : Int → Prog} (h : (boundP v d c).run st Q) :
    ∃ n, (c n).run st Q ∧ ((v = none ∧ n = d) ∨ v = some (.int .i64 n)) := by
  unfold boundP at h
  split at h
  · exact ⟨d, h, .inl ⟨rfl, rfl⟩⟩
  · exact ⟨_, h, .inr rfl⟩
  · exact h.elim
/-- What is cut from a view is a view. -/
theorem RV.cut {U : Nat → Prop} {k : K} {xs : List k.T} {A : Option Addr} {n cap : Nat} (h : RV U w (.sl k) xs [.slice A n cap]) {lo hi : Nat} (h1 : lo ≤ hi) (h2 : hi ≤ List.length xs) :
    RV U w (.sl k) ((List.take hi xs).drop lo) [cutV A cap k.sz lo hi] := by
  obtain ⟨A', cap', e, hc, hs, hel⟩ := h
  have e' := (List.cons.inj e).1
  injection e' with e1 e2 e3
  subst e1 e3
  have hl : ((List.take hi xs).drop lo).length = hi - lo := by rw [List.length_drop, List.length_take]; omega
  refine ⟨if cap = lo then A else A.map (·.add (lo * k.sz)), cap - lo, ?_, ?_, ?_, fun i hi' => ?_⟩
  · show [Value.slice _ _ _] = [Value.slice _ (List.length ((List.take hi xs).drop lo)) _]
    rw [hl]
  · show List.length ((List.take hi xs).drop lo) ≤ _
    rw [hl]; omega
  · intro ad e0 hp
    have hp : 0 < List.length ((List.take hi xs).drop lo) := hp
    exact cutV_spot (sz := k.sz) (lo := lo) (hi := hi) (cap := cap) (fun ad e => hs ad e (by show 0 < List.length xs; omega)) _ _ _ rfl ad e0
  · have hi' : i < List.length ((List.take hi xs).drop lo) := hi'
    rw [hl] at hi'
    obtain ⟨ad, ci, ea, hU, hC, hR⟩ := hel (lo + i) (by omega)
    subst ea
    have hne : ¬ cap = lo := by omega
    refine ⟨ad.add (lo * k.sz), ci, by simp [hne], ?_, ?_, ?_⟩
    · rw [add_spot (hs _ rfl (by show 0 < List.length xs; omega))]; exact hU
    · rw [add_spot (hs _ rfl (by show 0 < List.length xs; omega))]
      show Cells w ad.block (ad.off + lo * k.sz + i * k.sz) ci
      rw [Nat.add_assoc, ← Nat.add_mul]; exact hC
    · have : List.getD ((List.take hi xs).drop lo) i k.d = List.getD xs (lo + i) k.d := by
        simp only [List.getD_eq_getElem?_getD, List.getElem?_drop, List.getElem?_take]
        rw [if_pos (by omega)]
      show RV U w k (List.getD ((List.take hi xs).drop lo) i k.d) ci
      rw [this]; exact hR
theorem sliceP_run {t e : TypeId} (T : TabOk P E) (he : E.tab t = .slice e) {x : AV} {xv : Value} {lo hi : Option AV} {lov hiv : Option Value} (hx : RepV st g w x xv)
    (hl : ∀ d n, ((lo = none ∧ n = d) ∨ lo = some (.int .i64 n)) → boundIs lov d n) (hh : ∀ d n, ((hi = none ∧ n = d) ∨ hi = some (.int .i64 n)) → boundIs hiv d n)
    (h : (sliceP E e gd o.dst x lo hi).run st Q) (hg : GOk gd) (hS : Sim S st g w a) (hb : inB S.n o.dst) :
    ∃ v, (Instr.sliceAt t xv lov hiv none).run P w = .ok v w ∧ Good S Q (a.put o.dst v) w := by
  unfold sliceP at h
  split at h
  · rename_i k xs
    obtain ⟨h1, h2⟩ := iff'_fail h
    obtain ⟨m, h3, h4⟩ := bound_run h2
    obtain ⟨n, h5, h6⟩ := bound_run h3
    obtain ⟨⟨h7, h8, h9⟩, h10⟩ := vcg_run h5 hg
    obtain ⟨A, cap, e1, hc, _⟩ := (show RV (g.U w) w (.sl k) xs [_] from hx)
    have hx := (show RV (g.U w) w (.sl k) xs [_] from hx)
    have e1 := (List.cons.inj e1).1
    have hk : k.sz = (kind E.tab e).sz := Nat.eq_of_beq_eq_true h1
    subst e1
    refine ⟨_, slice_run T he A (hl _ _ h4) (hh _ _ h6) h7 h8 h9 hc w, good_value hS h10 hg hb ?_⟩
    show RV (g.U w) w (.sl k) _ [_]
    rw [← hk]
    exact hx.cut (by omega) (by omega)
  · rename_i r gen hc p
    obtain ⟨rc, k, h0, hv0, ek, h1⟩ := rdSl_run h
    obtain ⟨h1, h2⟩ := iff'_fail h1
    obtain ⟨m, h3, h4⟩ := bound_run h2
    obtain ⟨n, h5, h6⟩ := bound_run h3
    obtain ⟨⟨h7, h8, h9⟩, h10⟩ := vcg_run h5 hg
    have hk : k.sz = (kind E.tab e).sz := Nat.eq_of_beq_eq_true h1
    obtain ⟨hsh, hle, hv⟩ := (show Rep st g w (.rf r gen hc p) [_] from hx)
    obtain ⟨r1, r2, r3⟩ := hv rc hv0
    have r4 := r3
    rw [hdr_sl ek] at r4
    have e1 := (List.cons.inj r4).1
    have hcap : (cast (congrArg K.T ek) ((K.sl rc.k).get p rc.xs) : List k.T).length ≤ (cast (congrArg K.L ek) ((K.sl rc.k).getL p (g.lay r (.sl rc.k))) : SL k.L).cap := by
      have hr := hS.root r rc hv0.1
      by_cases hinn : rc.inn = true
      · rw [if_pos hinn] at hr
        have hf := Fit_get hr.1 r1
        revert hf
        generalize (K.sl rc.k).get p rc.xs = x
        generalize (K.sl rc.k).getL p (g.lay r (.sl rc.k)) = l
        intro hf
        have key : ∀ {k0 : K} (e : k0 = .sl k) (x : k0.T) (l : k0.L), Fit k0 x l → (cast (congrArg K.T e) x : List k.T).length ≤ (cast (congrArg K.L e) l : SL k.L).cap := by
          intro k0 e x l hf
          subst e
          exact hf.2.1
        exact key ek x l hf
      · rw [if_neg hinn] at hr
        have hi : ix p < 1 := hv0.2.2.resolve_right fun h => hinn h.1
        obtain rfl := ok_nil r1 hi
        have e' : k = rc.k := by cases ek; rfl
        subst e'
        exact hr.2.1
    refine ⟨_, by rw [e1]; exact slice_run T he _ (hl _ _ h4) (hh _ _ h6) h7 h8 h9 hcap w, good_value hS h10 hg hb ?_⟩
    show Rep st g w (.cut _ _ _ _ _ _) [_]
    refine ⟨⟨_, _, rfl⟩, hle, fun rc' hv' => ?_⟩
    have hrc' : rc' = rc := by have := hv'.1; rw [hv0.1] at this; exact (Option.some.inj this).symm
    subst hrc'
    exact ⟨r1, k, ek, by omega, by omega, _, _, _, hdr_sl ek _ _, by rw [hk]⟩
  · exact h.elim
theorem op_slice {x : Operand} {t : TypeId} {lo hi mx : Option Operand} (T : TabOk P E) (ho : o.op = .slice t x lo hi mx) (h : (opP E gd o).run st Q) (hg : GOk gd) (hS : Sim S st g w a) (hb : inB S.n o.dst) : o.wp P a w (Good S Q) Qx := by
  unfold opP at h; rw [ho] at h
  simp only [] at h
  split at h
  · rename_i e he
    obtain ⟨v, h1, h2⟩ := ev_run h hg hS
    obtain ⟨vs, h3, h4⟩ := evs_run h2 hg hS
    have fin : ∀ {l m : Option AV}, (∀ d n, ((l = none ∧ n = d) ∨ l = some (.int .i64 n)) → boundIs (lo.map a.eval) d n) → (∀ d n, ((m = none ∧ n = d) ∨ m = some (.int .i64 n)) → boundIs (hi.map a.eval) d n) →
        (sliceP E e gd o.dst v l m).run st Q → o.wp P a w (Good S Q) Qx := by
      intro l m hl hm hq
      obtain ⟨y, h5, h6⟩ := sliceP_run T he h1 hl hm hq hg hS hb
      refine wp_val (x := y) (w' := w) ?_ h6
      simp only [execOp, ho, Option.map_none, Sem.run_bind, h5, Result.andThen_ok, Sem.run_pure]
    have none_ : ∀ d n, (((none : Option AV) = none ∧ n = d) ∨ (none : Option AV) = some (.int .i64 n)) → boundIs ((none : Option Operand).map a.eval) d n := by
      rintro d n (⟨_, e⟩ | e)
      · exact .inl ⟨rfl, e⟩
      · cases e
    have some_ : ∀ {u : AV} {y : Operand}, RepV st g w u (a.eval y) → ∀ d n, ((some u = none ∧ n = d) ∨ some u = some (.int .i64 n)) → boundIs ((some y : Option Operand).map a.eval) d n := by
      rintro u y hr d n (⟨e, _⟩ | e)
      · cases e
      · have e := Option.some.inj e
        subst e
        exact .inr (by rw [Option.map_some, rep_int hr])
    cases lo with
    | none => cases hi with
      | none => exact fin none_ none_ h4
      | some y =>
        cases vs with
        | nil => exact h4.elim
        | cons u vs => exact fin none_ (some_ h3.1) h4
    | some z => cases hi with
      | none =>
        cases vs with
        | nil => exact h4.elim
        | cons u vs => exact fin (some_ h3.1) none_ h4
      | some y =>
        cases vs with
        | nil => exact h4.elim
        | cons u vs => cases vs with
          | nil => exact h4.elim
          | cons u' vs => exact fin (some_ h3.1) (some_ h3.2.1) h4
  · exact h.elim
end
end Go.Am
namespace Go.Am
def dep0 {α : Type} (l : SL α) (n : Nat) : List (Nat × Nat) := match l.a with | none => [] | some b => [(n, b)]
def zipD {α β : Type} (f : α → β → List (Nat × Nat)) : List α → List β → List (Nat × Nat)
  | x :: xs, l :: ls => f x l ++ zipD f xs ls
  | _, _ => []
def deps : (k : K) → k.T → k.L → Nat → List (Nat × Nat)
  | .int _, _, _, _ => []
  | .bool, _, _, _ => []
  | .pair a b, x, l, n => deps a x.1 l.1 n ++ deps b x.2 l.2 n
  | .sl k, xs, l, n => dep0 l n ++ zipD (fun x m => deps k x m (n + 1)) xs l.els
theorem zipD_rows {k : K} {f : k.T → k.L → List (Nat × Nat)} (hf : ∀ x l, (f x l).map Prod.snd = (rows k x l).map Prod.fst) : ∀ xs ls, (zipD f xs ls).map Prod.snd = (zipR (rows k) xs ls).map Prod.fst
  | [], _ => rfl
  | _ :: _, [] => rfl
  | x :: xs, l :: ls => by simp only [zipD, zipR, List.map_append, hf, zipD_rows hf xs ls]
theorem deps_rows : ∀ (k : K) (x : k.T) (l : k.L) (n : Nat), (deps k x l n).map Prod.snd = (rows k x l).map Prod.fst
  | .int _, _, _, _ => rfl
  | .bool, _, _, _ => rfl
  | .pair a b, x, l, n => by simp only [deps, rows, List.map_append, deps_rows a, deps_rows b]
  | .sl k, xs, l, n => by
    simp only [deps, rows, List.map_append]
    rw [zipD_rows (fun x m => deps_rows k x m (n + 1))]
    congr 1
    unfold dep0 row0
    cases l.a <;> rfl
theorem deps_ge : ∀ (k : K) (x : k.T) (l : k.L) (n : Nat) (d b : Nat), (d, b) ∈ deps k x l n → n ≤ d
  | .int _, _, _, _, _, _, h => by simp [deps] at h
  | .bool, _, _, _, _, _, h => by simp [deps] at h
  | .pair a b, x, l, n, d, c, h => by
    rcases List.mem_append.1 h with h | h
    · exact deps_ge a _ _ n d c h
    · exact deps_ge b _ _ n d c h
  | .sl k, xs, l, n, d, c, h => by
    rcases List.mem_append.1 h with h | h
    · unfold dep0 at h
      cases ha : l.a with
      | none => rw [ha] at h; simp at h
      | some b => rw [ha] at h; simp at h; omega
    · have key : ∀ (xs : List k.T) (ls : List k.L), (d, c) ∈ zipD (fun x m => deps k x m (n + 1)) xs ls → n ≤ d := by
        intro xs
        induction xs with
        | nil => intro ls h; simp [zipD] at h
        | cons x xs ih =>
          intro ls h
          cases ls with
          | nil => simp [zipD] at h
          | cons l ls =>
            rcases List.mem_append.1 h with h | h
            · have := deps_ge k x l (n + 1) d c h; omega
            · exact ih ls h
      exact key xs l.els h
theorem zipD_at {k : K} {f : k.T → k.L → List (Nat × Nat)} (d : k.T) (e : k.L) : ∀ (xs : List k.T) (ls : List k.L) (n : Nat), xs.length = ls.length → n < xs.length → ∀ y, y ∈ f (xs.getD n d) (ls.getD n e) → y ∈ zipD f xs ls
  | [], _, _, _, h, _, _ => by simp at h
  | _ :: _, [], _, h, _, _, _ => by simp at h
  | x :: xs, l :: ls, 0, _, _, y, h => List.mem_append_left _ (by simpa using h)
  | x :: xs, l :: ls, n + 1, h, hn, y, hy => List.mem_append_right _ (zipD_at d e xs ls n (by simpa using h) (by simpa using hn) y (by simpa using hy))
/-- The rows behind a place lie as deep as it, or deeper. -/
theorem deps_sub {k : K} : ∀ {p : Pth} {x : k.T} {l : k.L} (n : Nat), Fit k x l → Okp k p x → ∀ y, y ∈ deps (k.at p) (k.get p x) (k.getL p l) (n + ix p) → y ∈ deps k x l n := by
  intro p
  induction p generalizing k with
  | nil => exact fun _ _ _ _ h => h
  | cons q p ih =>
    intro x l n hf hp y hy
    cases k with
    | pair a c =>
      cases q with
      | f => exact List.mem_append_left _ (ih (k := a) n hf.1 hp.2 y hy)
      | sn => exact List.mem_append_right _ (ih (k := c) n hf.2 hp.2 y hy)
      | i n => exact hp.1.elim
    | sl k => cases q with
      | i m =>
        refine List.mem_append_right _ (zipD_at (f := fun x l => deps k x l (n + 1)) k.d k.dl x l.els m (allZ_length hf.1) hp.1 y ?_)
        refine ih (k := k) (n + 1) (Fit_get1 (k := .sl k) (q := .i m) hf hp.1) hp.2 y ?_
        have : n + 1 + ix p = n + (ix p + 1) := by omega
        rw [this]; exact hy
      | f => exact hp.1.elim
      | sn => exact hp.1.elim
    | int ik => cases q <;> exact hp.1.elim
    | bool => cases q <;> exact hp.1.elim
/-- The row that a place lies in. -/
theorem deps_ad {k : K} : ∀ {p : Pth} {x : k.T} {l : k.L} (n : Nat) (base : Base) {b o : Nat}, Fit k x l → Okp k p x → 0 < ix p → ad k p l base = some (b, o) → (n + ix p - 1, b) ∈ deps k x l n := by
  intro p
  induction p generalizing k with
  | nil => intro _ _ _ _ _ _ _ _ h; simp [ix] at h
  | cons q p ih =>
    intro x l n base b o hf hp hi ha
    cases k with
    | pair a c =>
      cases q with
      | f => exact List.mem_append_left _ (ih (k := a) n base hf.1 hp.2 hi ha)
      | sn => exact List.mem_append_right _ (ih (k := c) (x := x.2) (l := l.2) (b := b) (o := o) n (base.map fun b : Nat × Nat => (b.1, b.2 + a.sz)) hf.2 hp.2 hi ha)
      | i n => exact hp.1.elim
    | sl k => cases q with
      | i m =>
        have hn : m < List.length x := hp.1
        by_cases h0 : ix p = 0
        · obtain ⟨c, hc⟩ : ∃ c, l.a = some c := by
            cases h : l.a with
            | some b => exact ⟨b, rfl⟩
            | none => have h1 := (hf.2.2.2 h).1; have h2 := hf.2.1; omega
          have : b = c := by
            obtain ⟨A, B, _, h2, _⟩ := hdr_shallow (k := k) (x := List.getD x m k.d) (l := List.getD l.els m k.dl) hp.2 h0 c (l.pre.length + m * k.sz)
            have ha' : ad k p (List.getD l.els m k.dl) (l.a.map fun b => (b, l.pre.length + m * k.sz)) = some (b, o) := ha
            rw [hc] at ha'
            have := h2.symm.trans ha'
            exact (Prod.mk.inj (Option.some.inj this)).1.symm
          subst this
          refine List.mem_append_left _ ?_
          unfold dep0
          rw [hc]
          simp [ix, h0]
        · refine List.mem_append_right _ (zipD_at (f := fun x l => deps k x l (n + 1)) k.d k.dl x l.els m (allZ_length hf.1) hp.1 _ ?_)
          have := ih (k := k) (n + 1) _ (Fit_get1 (k := .sl k) (q := .i m) hf hp.1) hp.2 (by omega) ha
          have e : n + 1 + ix p - 1 = n + ix (.i m :: p) - 1 := by simp only [ix]; omega
          rw [e] at this; exact this
      | f => exact hp.1.elim
      | sn => exact hp.1.elim
    | int ik => cases q <;> exact hp.1.elim
    | bool => cases q <;> exact hp.1.elim
theorem nodup_snd {d e b : Nat} : ∀ {l : List (Nat × Nat)}, (l.map Prod.snd).Nodup → (d, b) ∈ l → (e, b) ∈ l → d = e
  | [], _, h, _ => by simp at h
  | p :: l, hn, h1, h2 => by
    rw [List.map_cons, List.nodup_cons] at hn
    rcases List.mem_cons.1 h1 with h1 | h1
    · rcases List.mem_cons.1 h2 with h2 | h2
      · rw [h1.symm] at h2; exact (Prod.mk.inj h2).1.symm
      · exact absurd (List.mem_map.2 ⟨_, h2, by rw [← h1]⟩) hn.1
    · rcases List.mem_cons.1 h2 with h2 | h2
      · exact absurd (List.mem_map.2 ⟨_, h1, by rw [← h2]⟩) hn.1
      · exact nodup_snd hn.2 h1 h2
/-- The row of a place that is not as deep as the hole has not gone. -/
theorem not_gone {rc : RC} {l : (K.sl rc.k).L} {p : Pth} {b o : Nat} {base : Base} (hf : Fit (.sl rc.k) rc.xs l) (hn : ((rows (.sl rc.k) rc.xs l).map Prod.fst).Nodup) (hp : Okp (.sl rc.k) p rc.xs) (h0 : 0 < ix p)
    (ha : ad (.sl rc.k) p l base = some (b, o)) {hole : Option Pth} (hh : ∀ h, hole = some h → ix p ≤ ix h ∧ Okp (.sl rc.k) h rc.xs) : ¬ gone rc l hole b := by
  intro hg
  unfold gone at hg
  split at hg
  · exact hg
  · rename_i h
    obtain ⟨h1, h2⟩ := hh h rfl
    rw [← deps_rows _ _ _ (0 + ix h)] at hg
    obtain ⟨⟨d, c⟩, h3, h4⟩ := List.mem_map.1 hg
    have h4 : c = b := h4
    subst h4
    have h5 := deps_sub 0 hf h2 _ h3
    have h6 := deps_ge _ _ _ _ _ _ h3
    have h7 := deps_ad 0 base hf hp h0 ha
    rw [← deps_rows _ _ _ 0] at hn
    have := nodup_snd hn h5 h7
    omega
theorem okp_of {k : K} : ∀ {q : Pth} {x : k.T}, Okp k q x → ix q = 0 → k.okp q := by
  intro q
  induction q generalizing k with
  | nil => intro x _ _; cases k <;> trivial
  | cons s p ih =>
    intro x h hi
    cases k with
    | pair a b => cases s with
      | f => exact ih (k := a) h.2 hi
      | sn => exact ih (k := b) h.2 hi
      | i n => exact h.1.elim
    | sl k => cases s with
      | i n => simp [ix] at hi
      | f => exact h.1.elim
      | sn => exact h.1.elim
    | int ik => cases s <;> exact h.1.elim
    | bool => cases s <;> exact h.1.elim
/-- One chunk of many. -/
theorem chunk : ∀ (cs : List (List Value)) (n sz : Nat), (∀ i, i < cs.length → (cs.getD i []).length = sz) → n < cs.length → ∃ A B, cs.flatten = A ++ cs.getD n [] ++ B ∧ A.length = n * sz
  | [], _, _, _, h => by simp at h
  | c :: cs, 0, sz, h, _ => ⟨[], cs.flatten, by simp, by simp⟩
  | c :: cs, n + 1, sz, h, hn => by
    obtain ⟨A, B, h1, h2⟩ := chunk cs n sz (fun i hi => by simpa using h (i + 1) (by simpa using hi)) (by simpa using hn)
    have h0 : c.length = sz := by simpa using h 0 (by simp)
    exact ⟨c ++ A, B, by simp [h1], by rw [List.length_append, h0, h2, Nat.add_mul]; omega⟩
theorem chunk_cells {w : World} {b : Nat} {pre post : List Value} {cs : List (List Value)} {n sz : Nat} (h : Blk w b (pre ++ cs.flatten ++ post)) (hs : ∀ i, i < cs.length → (cs.getD i []).length = sz) (hn : n < cs.length) :
    Cells w b (pre.length + n * sz) (cs.getD n []) := by
  obtain ⟨A, B, h1, h2⟩ := chunk cs n sz hs hn
  rw [h1] at h
  have h' : Blk w b ((pre ++ A) ++ cs.getD n [] ++ (B ++ post)) := by simpa [List.append_assoc] using h
  have := h'.cells
  rw [List.length_append, h2] at this
  exact this
abbrev Pl := (k : K) × k.T × k.L
def pl (k : K) (p : Pth) (x : k.T) (l : k.L) : Pl := ⟨k.at p, k.get p x, k.getL p l⟩
def Pl.st (s : Pl) (q : Stp) : Pl := ⟨s.1.st q, s.1.get1 q s.2.1, s.1.getL1 q s.2.2⟩
def Pl.hdr (s : Pl) : List Value := Am.hdr s.1 s.2.1 s.2.2
theorem pl_snoc {k : K} : ∀ (p : Pth) (q : Stp) (x : k.T) (l : k.L), pl k (p ++ [q]) x l = (pl k p x l).st q := by
  intro p
  induction p generalizing k with
  | nil => exact fun _ _ _ => rfl
  | cons s p ih => exact fun q x l => ih (k := k.st s) q _ _
theorem okp_snoc {k : K} : ∀ (p : Pth) (q : Stp) (x : k.T), Okp k p x → Ok1 (k.at p) q (k.get p x) → Okp k (p ++ [q]) x := by
  intro p
  induction p generalizing k with
  | nil => exact fun _ _ _ h => ⟨h, trivial⟩
  | cons s p ih => exact fun q x h h' => ⟨h.1, ih (k := k.st s) q _ h.2 h'⟩
section
variable {P : Program} {E : Env} {S : Start} {st : St} {g : Gh} {w : World} {a : Act} {Q : St → Prop} {gd : Gd} {o : Oper} {Qx : Exit → Act → World → Prop}
theorem opnO_rep {r gen hc : Nat} {rc : RC} (hrc : (st.r r).c = some rc) (hgen : gen ≤ (st.r r).gen ∧ (gen = (st.r r).gen → hc ≤ (st.r r).hc)) :
    ∀ (k : K) (p : Pth) (x : k.T) (l : k.L), pl (.sl rc.k) p rc.xs (g.lay r (.sl rc.k)) = ⟨k, x, l⟩ → Okp (.sl rc.k) p rc.xs →
      Rep st g w (opnO r gen hc k p x) (hdr k x l) ∧ likeK k (opnO r gen hc k p x) = true ∧ (opnO r gen hc k p x).ok = true
  | .int ik, p, x, l, _, _ => ⟨rfl, rfl, rfl⟩
  | .bool, p, x, l, _, _ => ⟨rfl, rfl, rfl⟩
  | .pair b c, p, x, l, e, ho => by
    have e1 := pl_snoc p .f rc.xs (g.lay r (.sl rc.k))
    have e2 := pl_snoc p .sn rc.xs (g.lay r (.sl rc.k))
    rw [e] at e1 e2
    have o1 : Ok1 ((K.sl rc.k).at p) .f ((K.sl rc.k).get p rc.xs) ∧ Ok1 ((K.sl rc.k).at p) .sn ((K.sl rc.k).get p rc.xs) := by
      have : Ok1 (pl (.sl rc.k) p rc.xs (g.lay r (.sl rc.k))).1 .f (pl (.sl rc.k) p rc.xs (g.lay r (.sl rc.k))).2.1 ∧ Ok1 (pl (.sl rc.k) p rc.xs (g.lay r (.sl rc.k))).1 .sn (pl (.sl rc.k) p rc.xs (g.lay r (.sl rc.k))).2.1 := by
        rw [e]; exact ⟨trivial, trivial⟩
      exact this
    obtain ⟨h1, h2, h3⟩ := opnO_rep hrc hgen b (p ++ [.f]) x.1 l.1 e1 (okp_snoc p _ _ ho o1.1)
    obtain ⟨h4, h5, h6⟩ := opnO_rep hrc hgen c (p ++ [.sn]) x.2 l.2 e2 (okp_snoc p _ _ ho o1.2)
    simp only [opnO, cat_eq]
    exact ⟨⟨_, _, rfl, h1, h4⟩, andB_true.2 ⟨h2, h5⟩, andB_true.2 ⟨h3, h6⟩⟩
  | .sl k, p, x, l, e, ho => by
    refine ⟨⟨⟨_, _, _, rfl⟩, hgen, fun rc' hv => ?_⟩, rfl, rfl⟩
    have hrc' : rc' = rc := by have := hv.1; rw [hrc] at this; exact (Option.some.inj this).symm
    subst hrc'
    exact ⟨ho, ⟨k, congrArg Sigma.fst e⟩, (congrArg Pl.hdr e).symm⟩
theorem repV_cells {v : AV} {cs : List Value} (h : Rep st g w v cs) (ho : v.ok = true) : RepV st g w v (if v.isPr = true then .agg cs.toArray else cs.getD 0 undef) := by
  cases v with
  | pr a b => exact ⟨_, rfl, h⟩
  | _ =>
    first
    | (simp [AV.ok] at ho; done)
    | (have hl := (Rep.plain ho h).1
       obtain ⟨x, rfl⟩ : ∃ x, cs = [x] := by
         match cs, hl with
         | [x], _ => exact ⟨x, rfl⟩
       exact h)
theorem type_run {t : TypeId} (T : TabOk P E) (ht : (match E.tab t with | .other => false | _ => true) = true) : (∃ d, P.underlying t = some d ∧ ((kind E.tab t).isPair = true ∧ (∃ fs, d = .struct fs) ∨ (kind E.tab t).isPair = false ∧ notAgg d)) ∧ ∃ i, P.info? t = some i ∧ i.size = (kind E.tab t).sz := by
  have h := T t
  unfold TyOk at h
  cases e : E.tab t with
  | other => rw [e] at ht; cases ht
  | int ik => rw [e] at h; obtain ⟨h1, h2, i, h3, h4, _⟩ := h; exact ⟨⟨_, h1, .inr ⟨by rw [h2]; rfl, trivial⟩⟩, i, h3, by rw [h4, h2]; rfl⟩
  | bool => rw [e] at h; obtain ⟨h1, h2, i, h3, h4, _⟩ := h; exact ⟨⟨_, h1, .inr ⟨by rw [h2]; rfl, trivial⟩⟩, i, h3, by rw [h4, h2]; rfl⟩
  | slice s => rw [e] at h; obtain ⟨h1, h2, ⟨i, h3, h4, _⟩, _⟩ := h; exact ⟨⟨_, h1, .inr ⟨by rw [h2]; rfl, trivial⟩⟩, i, h3, by rw [h4, h2]; rfl⟩
  | ptr =>
    rw [e] at h; obtain ⟨⟨d, h1, h2⟩, h3, i, h4, h5⟩ := h
    refine ⟨⟨d, h1, .inr ⟨h3, h2⟩⟩, i, h4, ?_⟩
    rw [h5]; revert h3; cases kind E.tab t <;> simp [K.isPair, K.sz]
  | struct fs => rw [e] at h; obtain ⟨_, flds, h1, h2, _, ⟨i, h3, h4, _⟩, _⟩ := h; exact ⟨⟨_, h1, .inl ⟨h2, _, rfl⟩⟩, i, h3, h4⟩
theorem isAgg_run {t : TypeId} (T : TabOk P E) (ht : (match E.tab t with | .other => false | _ => true) = true) : (isAgg t).run P w = .ok (kind E.tab t).isPair w := by
  obtain ⟨⟨d, h1, h2⟩, _⟩ := type_run T ht
  simp only [isAgg, underlying, Sem.run_bind, run_program, Result.andThen_ok, h1, Sem.run_pure]
  rcases h2 with ⟨h2, fs, rfl⟩ | ⟨h2, h3⟩
  · rw [h2]; rfl
  · rw [h2]; cases d <;> first | rfl | exact h3.elim
theorem load_run {t : TypeId} (T : TabOk P E) (ht : (match E.tab t with | .other => false | _ => true) = true) {b of : Nat} {cs : List Value} (hc : Cells w b of cs) (hl : cs.length = (kind E.tab t).sz) :
    (loadVar t ⟨b, of, none⟩).run P w = .ok (if (kind E.tab t).isPair = true then .agg cs.toArray else cs.getD 0 undef) w := by
  obtain ⟨_, i, h1, h2⟩ := type_run T ht
  simp only [loadVar, Sem.run_bind, isAgg_run T ht, Result.andThen_ok]
  split
  · have := run_loadCells_list (P := P) w ⟨b, of, none⟩ cs (fun j v hj => by rw [add_none]; exact hc j v hj)
    simp only [Sem.run_bind, sizeOf, typeInfo, run_program, Result.andThen_ok, h1, Sem.run_pure, h2, ← hl, this]
  · have hp := sz_pos (kind E.tab t)
    cases cs with
    | nil => simp at hl; omega
    | cons v cs =>
      have : w.cell? ⟨b, of, none⟩ = some v := hc 0 v rfl
      simp [this]
theorem shape_kind {t : TypeId} {v : AV} (h : shape E t v = true) : (match E.tab t with | .other => false | _ => true) = true ∧ likeK (kind E.tab t) v = true := by
  unfold shape at h
  split at h
  · cases h
  · rename_i hx
    refine ⟨?_, h⟩
    cases e : E.tab t with
    | other => exact absurd e hx
    | _ => rfl
theorem shapeK_kind {t : TypeId} {k : K} (h : shapeK E t k = true) : (match E.tab t with | .other => false | _ => true) = true ∧ K.likeK (kind E.tab t) k = true := by
  unfold shapeK at h
  split at h
  · cases h
  · rename_i hx
    refine ⟨?_, h⟩
    cases e : E.tab t with
    | other => exact absurd e hx
    | _ => rfl
theorem load_good {x : Operand} {t : TypeId} (T : TabOk P E) (ho : o.op = .load t x) (ht : (match E.tab t with | .other => false | _ => true) = true) {b of : Nat} (hx : a.eval x = .pointer (some ⟨b, of, none⟩)) {cs : List Value} {v : AV} (hc : Cells w b of cs)
    (hr : Rep st g w v cs) (hv : v.ok = true) (hw : cs.length = (kind E.tab t).sz) (hp : v.isPr = (kind E.tab t).isPair)
    (hq : (wrg gd o.dst v .ret).run st Q) (hg : GOk gd) (hS : Sim S st g w a) (hb : inB S.n o.dst) : o.wp P a w (Good S Q) Qx := by
  refine wp_val (w' := w) ?_ (good_value hS hq hg hb (repV_cells hr hv))
  simp only [execOp, ho, Instr.loadAt, hx, Instr.sureAddr, Sem.run_bind, Sem.run_pure, Result.andThen_ok, load_run T ht hc hw, hp]
theorem op_load {x : Operand} {t : TypeId} (T : TabOk P E) (ho : o.op = .load t x) (h : (opP E gd o).run st Q) (hg : GOk gd) (hS : Sim S st g w a) (hb : inB S.n o.dst) : o.wp P a w (Good S Q) Qx := by
  unfold opP at h; rw [ho] at h
  simp only [] at h
  obtain ⟨v, h1, h2⟩ := ev_run h hg hS
  unfold loadP at h2
  split at h2
  · rename_i b gen p
    simp only [Prog.run] at h2
    split at h2
    · rename_i u hu
      obtain ⟨h3, h4⟩ := iff'_fail h2
      obtain ⟨h5, h6⟩ := andB_true.1 h3
      have hgen := Nat.eq_of_beq_eq_true h5
      obtain ⟨ht, hk⟩ := shape_kind h6
      obtain ⟨_, _, hv⟩ := (show Rep st g w (.pb b gen p) [_] from h1)
      obtain ⟨r1, r2⟩ := hv u hu hgen
      have e1 := (List.cons.inj r2).1
      obtain ⟨b1, b2⟩ := hS.box b u hu
      have key : ∃ cs, Cells w (g.bx b).1 (g.bx b).2 cs ∧ Rep st g w u cs := by
        split at b2
        · exact b2.2
        · obtain ⟨b3, b4, cs, b5, b6⟩ := b2
          refine ⟨cs, ?_, b6⟩
          rw [b3]
          have : Blk w (g.bx b).1 ([] ++ cs ++ []) := by simpa using b5
          exact this.cells
      obtain ⟨cs, c1, c2⟩ := key
      obtain ⟨A, c, B, d1, d2, d3, d4⟩ := c2.sub b1 r1
      rw [d1] at c1
      obtain ⟨lw, lp⟩ := likeK_w hk
      exact load_good T ho ht e1 (by rw [← d2]; exact c1.left.right) d3 d4 (by rw [(Rep.plain d4 d3).1, lw]) lp h4 hg hS hb
    · exact h2.elim
  · rename_i r gen hc p
    simp only [Prog.run] at h2
    unfold liveL at h2
    split at h2
    · exact h2.elim
    · rename_i rc hrc
      obtain ⟨h3, h4⟩ := iff'_fail h2
      have hgen := Nat.eq_of_beq_eq_true h3
      have key : (∀ h, (st.r r).hole = some h → ix p < ix h) ∧ (fresh hc p (st.r r) rc.inn 2 <| iff' (shapeK E t ((K.sl rc.k).at p))
        (iff' rc.inn (wrg gd o.dst (opnO r gen (st.r r).hc ((K.sl rc.k).at p) p ((K.sl rc.k).get p rc.xs)) .ret)
          (iff' (Nat.blt (ix p) 2) (wrg gd o.dst (opnV ((K.sl rc.k).at p) ((K.sl rc.k).get p rc.xs)) .ret) .fail)) .fail).run st Q := by
        split at h4
        · rename_i e
          exact ⟨fun h eh => (by rw [e] at eh; cases eh), h4⟩
        · rename_i hh e
          obtain ⟨h5, h6⟩ := iff'_fail h4
          have := Nat.le_of_ble_eq_true (show Nat.ble (ix p + 1) (ix hh) = true from h5)
          exact ⟨fun h eh => (by rw [e] at eh; cases eh; omega), h6⟩
      obtain ⟨hhole, h5⟩ := key
      obtain ⟨h6, h7⟩ := fresh_run h5
      obtain ⟨h8, h9⟩ := iff'_fail h7
      obtain ⟨ht, hk⟩ := shapeK_kind h8
      obtain ⟨ks, kp⟩ := KlikeK_sz hk
      obtain ⟨_, hle, hv⟩ := (show Rep st g w (.rp r gen hc p) [_] from h1)
      obtain ⟨r1, r2, b, of, r3, r4⟩ := hv rc ⟨hrc, hgen, h6⟩
      have e1 := (List.cons.inj r4).1
      have hR := hS.root r rc hrc
      rcases iff'_run h9 with ⟨hinn, h10⟩ | ⟨hinn, h10⟩
      · rw [if_pos hinn] at hR
        obtain ⟨f1, f2, f3, f4⟩ := hR
        have ng := not_gone f1 f2 r1 r2 r3 (hole := (st.r r).hole) (fun h eh => ⟨Nat.le_of_lt (hhole h eh), (f4 h eh).1⟩)
        obtain ⟨A, b', c1, c2, R, B, d1, d2, _⟩ := rows_deep f1 r1 r2 none
        rw [d2] at r3
        obtain ⟨rfl, rfl⟩ := Prod.mk.inj (Option.some.inj r3)
        have hblk := (f3 b' _ (by rw [d1]; exact List.mem_append_right _ (List.mem_cons_self ..)) ng).2
        obtain ⟨o1, o2, o3⟩ := opnO_rep (st := st) (g := g) (w := w) (gen := gen) (hc := (st.r r).hc) hrc ⟨by omega, fun _ => Nat.le_refl _⟩ _ p _ _ rfl r1
        exact load_good T ho ht e1 hblk.cells o1 o3 (by rw [hdr_length, ks]) (by rw [(likeK_w o2).2, kp]) h10 hg hS hb
      · rw [if_neg (by rw [hinn]; simp)] at hR
        obtain ⟨h11, h12⟩ := iff'_fail h10
        have hi : ix p < 2 := Nat.le_of_ble_eq_true h11
        obtain ⟨_, f2, f3, f4⟩ := hR
        cases p with
        | nil => simp [ix] at r2
        | cons q p => cases q with
          | f => exact r1.1.elim
          | sn => exact r1.1.elim
          | i n =>
            have hn : n < List.length rc.xs := r1.1
            have h0 : ix p = 0 := by simp only [ix] at hi; omega
            have r3' : ad rc.k p _ ((g.lay r (.sl rc.k)).a.map fun b => (b, (g.lay r (.sl rc.k)).pre.length + n * rc.k.sz)) = some (b, of) := r3
            have hq := okp_of r1.2 h0
            cases ha : (g.lay r (.sl rc.k)).a with
            | none =>
              have := f3 ha
              omega
            | some b0 =>
              rw [ha] at r3'
              have r5 := (ad_k (k := rc.k) (K.getL1 (.sl rc.k) (.i n) (g.lay r (.sl rc.k))) b0 ((g.lay r (.sl rc.k)).pre.length + n * rc.k.sz) hq).symm.trans r3'
              obtain ⟨rfl, rfl⟩ := Prod.mk.inj (Option.some.inj r5)
              obtain ⟨_, cs, g1, g2, _, g3⟩ := f4 b0 ha
              obtain ⟨A, c, B, d1, d2, d3⟩ := (g3 n hn).sub hq
              have hcell := chunk_cells (n := n) (sz := rc.k.sz) g2 (fun i hi => (g3 i (by omega)).length) (by omega)
              rw [d1] at hcell
              obtain ⟨o1, o2, o3⟩ := opnV_rep (st := st) d3
              exact load_good T ho ht e1 (by rw [← d2]; exact hcell.left.right) o1 o3 (by rw [d3.length]; exact ks) (by rw [(likeK_w o2).2]; exact kp) h12 hg hS hb
  · rename_i k y
    obtain ⟨h3, h4⟩ := iff'_fail h2
    obtain ⟨ht, hk⟩ := shapeK_kind h3
    obtain ⟨ks, kp⟩ := KlikeK_sz hk
    obtain ⟨b, of, ci, r1, r2, r3, r4⟩ := (show Rep st g w (.vp k y) [_] from h1)
    have e1 := (List.cons.inj r1).1
    obtain ⟨o1, o2, o3⟩ := opnV_rep (st := st) r4
    exact load_good T ho ht e1 r3 o1 o3 (by rw [r4.length, ks]) (by rw [(likeK_w o2).2, kp]) h4 hg hS hb
  · exact h2.elim
end
end Go.Am
namespace Go.Am
section
variable {P : Program} {E : Env} {S : Start} {st : St} {g : Gh} {w : World} {a : Act} {Q : St → Prop} {gd : Gd} {o : Oper} {Qx : Exit → Act → World → Prop}
theorem evC_run {t : Prop} {x : Operand} {k : AV → Prog} (h : (evC gd t x k).run st Q) (hg : GOk gd) (hS : Sim S st g w a) :
    ∃ v, (t → RepV st g w v (a.eval x)) ∧ (k v).run st Q ∧ ∀ c, x = .const c → v = ofV c := by
  cases x with
  | tmp i =>
    have h : ((fun v => match v with | .gd q u => vcg gd (t → q = true) (k u) | v => k v : AV → Prog) (st.s i)).run st Q := h
    have hs := hS.slot i
    revert h hs
    generalize st.s i = v
    intro h hs
    cases v with
    | gd q u =>
      obtain ⟨h1, h2⟩ := vcg_run h hg
      exact ⟨u, fun ht => hs.1 (h1 ht), h2, fun c e => by cases e⟩
    | _ => exact ⟨_, fun _ => hs, h, fun c e => by cases e⟩
  | const v => exact ⟨_, fun _ => ofV_rep v, h, fun c e => by cases e; rfl⟩
  | func f => exact ⟨.fn f .nil .nil, fun _ => (show Rep st g w (.fn f .nil .nil) [.func (.func f) #[] #[]] from ⟨#[], #[], rfl, rfl, rfl⟩), h, fun c e => by cases e⟩
  | global n => exact h.elim
theorem pickB_eq {t x y : Bool} {p q : Operand} (h1 : ∀ c, p = .const c → AV.bool x = ofV c) (h2 : ∀ c, q = .const c → AV.bool y = ofV c) : pickB t x y p q = cond t x y := by
  unfold pickB
  split
  · have := h2 _ rfl
    have : y = false := by simpa [ofV] using this
    subst this; cases t <;> cases x <;> rfl
  · have := h1 _ rfl
    have : x = true := by simpa [ofV] using this
    subst this; cases t <;> cases y <;> rfl
  · rfl
theorem op_pick {c x y : Operand} (ho : o.op = .pick c x y) (h : (opP E gd o).run st Q) (hg : GOk gd) (hS : Sim S st g w a) (hb : inB S.n o.dst) : o.wp P a w (Good S Q) Qx := by
  unfold opP at h; rw [ho] at h
  obtain ⟨cv, h1, h2⟩ := ev_run h hg hS
  split at h2
  · rename_i t
    have et := rep_bool h1
    obtain ⟨va, h3, h4, h5⟩ := evC_run h2 hg hS
    obtain ⟨vb, h6, h7, h8⟩ := evC_run h4 hg hS
    have run : (execOp a.eval o).run P w = .ok (.value (if t = true then a.eval x else a.eval y)) w := by
      simp only [execOp, ho, et, asBool, Sem.run_bind, Sem.run_pure, Result.andThen_ok]
    split at h7
    · rename_i p q
      rw [pickB_eq h5 h8] at h7
      refine wp_val run (good_value hS h7 hg hb ?_)
      cases t with
      | true => exact h3 rfl
      | false => exact h6 rfl
    · rename_i ik p jk q
      obtain ⟨h9, h10⟩ := iff'_fail h7
      have := eqIK_eq h9
      subst this
      refine wp_val run (good_value hS h10 hg hb ?_)
      cases t with
      | true => exact h3 rfl
      | false => exact h6 rfl
    · exact h7.elim
  · exact h2.elim
theorem part_run {t : TypeId} (T : TabOk P E) (ht : (match E.tab t with | .other => false | _ => true) = true) {A c B : List Value} {cs : Array Value} (e : cs.toList = A ++ c ++ B) (hl : c.length = (kind E.tab t).sz) :
    (part t cs A.length).run P w = .ok (if (kind E.tab t).isPair = true then .agg c.toArray else c.getD 0 undef) w := by
  obtain ⟨_, i, h1, h2⟩ := type_run T ht
  obtain ⟨l⟩ := cs
  have e : l = A ++ c ++ B := e
  subst e
  simp only [part, Sem.run_bind, isAgg_run T ht, Result.andThen_ok]
  split
  · simp only [sizeOf, typeInfo, Sem.run_bind, run_program, Result.andThen_ok, h1, Sem.run_pure, h2, ← hl]
    congr 2
    apply Array.ext'
    simp [List.append_assoc]
  · have hp := sz_pos (kind E.tab t)
    cases c with
    | nil => simp at hl; omega
    | cons v c => simp
theorem andAll_cons {b : Bool} {e : Option Bool} {l : List (Option Bool)} (h : andAll (e :: l) = some b) : ∃ p q, e = some p ∧ andAll l = some q ∧ b = (p && q) := by
  cases l with
  | nil => exact ⟨b, true, h, rfl, by simp⟩
  | cons f l =>
    unfold andAll at h
    split at h
    · rename_i x y e2
      exact ⟨x, y, rfl, e2, (Option.some.inj h).symm⟩
    · cases h
theorem eqT_other {n : Nat} {t : TypeId} {x y : AV} {b : Bool} (h : eqT E n t x y = some b) : (match E.tab t with | .other => false | _ => true) = true := by
  cases n with
  | zero => cases h
  | succ n =>
    unfold eqT at h
    split at h <;> first | (rename_i e; rw [e]) | (cases h)
theorem fieldsOf_eq {t : TypeId} {flds : Array Field} (h : P.underlying t = some (.struct flds)) : P.fieldsOf t = flds := by
  unfold Program.fieldsOf; rw [h]
theorem iffS {α : Type} {c : Bool} {x : Option α} {y : α} (h : iff' c x none = some y) : c = true ∧ x = some y := by
  cases c with
  | true => exact ⟨rfl, h⟩
  | false => cases h
theorem nth_get {α : Type} : ∀ (l : List α) (i : Nat), nth l i = l[i]?
  | [], i => by simp [nth]
  | a :: l, 0 => rfl
  | a :: l, i + 1 => by simpa [nth] using nth_get l i
theorem lenL_eq {α : Type} : ∀ l : List α, l.length = lenL l
  | [] => rfl
  | _ :: l => congrArg (· + 1) (lenL_eq l)
theorem eq_run (T : TabOk P E) : ∀ (n : Nat) (t : TypeId) (x y : AV) (b : Bool) (xv yv : Value), eqT E n t x y = some b → RepV st g w x xv → RepV st g w y yv → ∀ d, n ≤ d → (Op.equalIn d t xv yv).run P w = .ok b w := by
  intro n
  induction n with
  | zero => intro t x y b xv yv h; cases h
  | succ n ih =>
    intro t x y b xv yv h hx hy d hd
    obtain ⟨d, rfl⟩ : ∃ e, d = e + 1 := ⟨d - 1, by omega⟩
    have ht := T t
    unfold TyOk at ht
    unfold eqT at h
    split at h
    · rename_i e
      rw [e] at ht
      split at h
      · rw [rep_bool hx, rep_bool hy]
        rw [← Option.some.inj h]
        exact run_equalIn_bool' w d t _ _ ht.1
      · cases h
    · rename_i ik e
      rw [e] at ht
      split at h
      · rename_i jk p lk q
        obtain ⟨h1, h2⟩ := iffS h
        obtain ⟨h3, h4⟩ := andB_true.1 h1
        have h3 := eqIK_eq h3
        have h4 := eqIK_eq h4
        subst h3 h4
        rw [rep_int hx, rep_int hy]
        rw [← Option.some.inj h2]
        exact run_equalIn_int w d t _ _ _ _ ht.1
      · cases h
    · rename_i fs e
      rw [e] at ht
      obtain ⟨h1, h2⟩ := iffS h
      obtain ⟨h3, h4⟩ := andB_true.1 h1
      obtain ⟨ox, oy⟩ := andB_true.1 h3
      obtain ⟨lx, ly⟩ := andB_true.1 h4
      obtain ⟨⟨hs, _⟩, flds, hu, hp, hn, _, hf⟩ := ht
      have px := (likeK_w lx).2.trans hp
      have py := (likeK_w ly).2.trans hp
      obtain ⟨cx, rfl, rx⟩ : ∃ c, xv = .agg c ∧ Rep st g w x c.toList := by cases x <;> first | (simp [AV.isPr] at px; done) | exact hx
      obtain ⟨cy, rfl, ry⟩ : ∃ c, yv = .agg c ∧ Rep st g w y c.toList := by cases y <;> first | (simp [AV.isPr] at py; done) | exact hy
      rw [run_equalIn_agg w d t cx cy (by rw [fieldsOf_eq hu]; exact hu) hs, fieldsOf_eq hu]
      have key : ∀ (j : Nat) (gs : List TypeId) (bb : Bool), gs.length + j = flds.size → (∀ i t, gs[i]? = some t → nth fs (j + i) = some t) → andAll (eqT.eqFs (eqT E n) (lenL fs) j gs x y) = some bb →
          (Op.eqFields d cx cy (flds.toList.drop j)).run P w = .ok bb w := by
        intro j gs
        induction gs generalizing j with
        | nil =>
          intro bb hl _ hb
          have : flds.toList.drop j = [] := by simp; simp at hl; omega
          rw [this]
          simp only [Op.eqFields, Sem.run_pure]
          rw [show bb = true from (Option.some.inj hb).symm]
        | cons u gs ihg =>
          intro bb hl hg hb
          simp only [List.length_cons] at hl
          obtain ⟨p, q, hp1, hq1, rfl⟩ := andAll_cons hb
          have hj : j < flds.size := by omega
          have hfj : flds[j]? = some flds[j] := Array.getElem?_eq_getElem hj
          obtain ⟨g1, g2, g3, g4, g5, g6, g7⟩ := hf j _ hfj
          have hu' : flds[j].type = u := by
            have := hg 0 u rfl
            rw [Nat.add_zero, g1] at this
            exact Option.some.inj this
          have e1 : flds.toList.drop j = flds[j] :: flds.toList.drop (j + 1) := by
            rw [List.drop_eq_getElem_cons (by simpa using hj)]; simp
          rw [e1]
          have hto := eqT_other hp1
          obtain ⟨ax, bx, cx'⟩ := likeK_off lx g3
          obtain ⟨ay, by', cy'⟩ := likeK_off ly g3
          obtain ⟨A, c, B, q1, q2, q3, q4⟩ := rx.sub ox ax
          obtain ⟨A', c', B', q1', q2', q3', q4'⟩ := ry.sub oy ay
          rw [g4, hu'] at cx' cy'
          have lw := likeK_w cx'
          have lw' := likeK_w cy'
          have r1 := part_run (w := w) T hto q1 (by rw [(Rep.plain q4 q3).1, lw.1])
          have r2 := part_run (w := w) T hto q1' (by rw [(Rep.plain q4' q3').1, lw'.1])
          have eA : A.length = flds[j].offset := by rw [q2, bx, g2]
          have eA' : A'.length = flds[j].offset := by rw [q2', by', g2]
          rw [eA] at r1
          rw [eA'] at r2
          have v1 := repV_cells q3 q4
          have v2 := repV_cells q3' q4'
          rw [lw.2] at v1
          rw [lw'.2] at v2
          have r3 := ih u _ _ p _ _ hp1 v1 v2 d (by omega)
          have r4 := ihg (j + 1) q (by omega) (fun i t ht => by have := hg (i + 1) t (by simpa using ht); rw [← this]; congr 1; omega) hq1
          simp only [Op.eqFields, g5, ne_eq, not_false_eq_true, if_true, Sem.run_bind]
          rw [hu', r1]
          simp only [Result.andThen_ok, r2, r3]
          cases p with
          | true => simpa using r4
          | false => simp
      have := key 0 fs b (by rw [Nat.add_zero, hn]; exact (lenL_eq fs)) (fun i t ht => by rw [Nat.zero_add, nth_get]; exact ht) h2
      simpa using this
    · cases h
theorem op_bin {op : BinOp} {t : TypeId} {x y : Operand} {ex : TypeId} (T : TabOk P E) (ho : o.op = .binOp op t x y ex) (h : (opP E gd o).run st Q) (hg : GOk gd) (hS : Sim S st g w a) (hb : inB S.n o.dst) : o.wp P a w (Good S Q) Qx := by
  unfold opP at h; rw [ho] at h
  obtain ⟨u, h1, h2⟩ := ev_run h hg hS
  obtain ⟨v, h3, h4⟩ := ev_run h2 hg hS
  have key : ∀ {r : AV} {z : Value}, (wrg gd o.dst r .ret).run st Q → RepV st g w r z → (do eqGuard op t x y (a.eval x) (a.eval y); binOp op t (a.eval x) (a.eval y) : Sem Value).run P w = .ok z w → o.wp P a w (Good S Q) Qx := by
    intro r z hq hr hz
    refine wp_val (w' := w) ?_ (good_value hS hq hg hb hr)
    have hz' := hz
    simp only [Sem.run_bind] at hz'
    simp only [execOp, ho, Sem.run_bind, hz', Result.andThen_ok, Sem.run_pure]
  unfold binP at h4
  split at h4
  · rename_i ik m jk n
    obtain ⟨h5, h6⟩ := iff'_fail h4
    have e := eqIK_eq h5
    subst e
    have e1 := rep_int h1
    have e2 := rep_int h3
    split at h6
    · exact key h6 rfl (by rw [e1, e2]; simp [eqGuard, binOp, Op.intArith])
    · exact key h6 rfl (by rw [e1, e2]; simp [eqGuard, binOp, Op.intArith])
    · exact key h6 rfl (by rw [e1, e2]; simp [eqGuard, binOp, Op.intArith])
    · obtain ⟨h7, h8⟩ := vcg_run h6 hg
      exact key h8 rfl (by rw [e1, e2]; simp [eqGuard, binOp, Op.intDiv, h7])
    · obtain ⟨h7, h8⟩ := vcg_run h6 hg
      exact key h8 rfl (by rw [e1, e2]; simp [eqGuard, binOp, Op.intDiv, h7])
    · exact key h6 rfl (by rw [e1, e2]; simp [eqGuard, binOp, Op.intBits, xorI])
    · exact key h6 rfl (by rw [e1, e2]; simp [eqGuard, binOp, Op.intCmp])
    · exact key h6 rfl (by rw [e1, e2]; simp [eqGuard, binOp, Op.intCmp])
    · exact key h6 rfl (by rw [e1, e2]; simp [eqGuard, binOp, Op.intCmp])
    · exact key h6 rfl (by rw [e1, e2]; simp [eqGuard, binOp, Op.intCmp])
    · exact key h6 rfl (by rw [e1, e2]; simp [eqGuard, binOp, Op.intCmp])
    · exact key h6 rfl (by rw [e1, e2]; simp [eqGuard, binOp, Op.intCmp])
    · exact h6.elim
  · rename_i hno
    have gen : ∀ {b : Bool}, eqT E 3 t u v = some b → (op = .eql ∨ op = .neq) → (eqGuard op t x y (a.eval x) (a.eval y)).run P w = .ok () w ∧
        (binOp op t (a.eval x) (a.eval y)).run P w = .ok (.bool (if op = .eql then b else !b)) w := by
      intro b he hop
      have heq := eq_run T 3 t u v b _ _ he h1 h3 10000 (by decide)
      have hv : (∃ p q, a.eval x = .agg p ∧ a.eval y = .agg q ∧ P.eqGuardType P.depth t = false) ∨ (∃ p q, a.eval x = .bool p ∧ a.eval y = .bool q) ∨ ∃ p q i j, u = .int i p ∧ v = .int j q := by
        have ht := T t
        unfold TyOk at ht
        unfold eqT at he
        split at he
        · split at he
          · exact .inr (.inl ⟨_, _, rep_bool h1, rep_bool h3⟩)
          · cases he
        · split at he
          · exact .inr (.inr ⟨_, _, _, _, rfl, rfl⟩)
          · cases he
        · rename_i fs e
          rw [e] at ht
          obtain ⟨i1, i2⟩ := iffS he
          obtain ⟨h3', h4'⟩ := andB_true.1 i1
          obtain ⟨lx, ly⟩ := andB_true.1 h4'
          obtain ⟨⟨_, hs⟩, flds, hu, hp, _⟩ := ht
          have px := (likeK_w lx).2.trans hp
          have py := (likeK_w ly).2.trans hp
          obtain ⟨cx, e1, _⟩ : ∃ c, a.eval x = .agg c ∧ Rep st g w u c.toList := by cases u <;> first | (simp [AV.isPr] at px; done) | exact h1
          obtain ⟨cy, e2, _⟩ : ∃ c, a.eval y = .agg c ∧ Rep st g w v c.toList := by cases v <;> first | (simp [AV.isPr] at py; done) | exact h3
          exact .inl ⟨cx, cy, e1, e2, hs⟩
        · cases he
      rcases hv with ⟨p, q, e1, e2, hs⟩ | ⟨p, q, e1, e2⟩ | ⟨p, q, i, j, e1, e2⟩
      · rw [e1, e2] at heq ⊢
        refine ⟨run_eqGuard_agg w op t x y p q hs, ?_⟩
        rcases hop with rfl | rfl
        · rw [run_eql_struct, heq]; simp
        · rw [run_neq_struct, heq]; simp
      · rw [e1, e2] at heq ⊢
        rcases hop with rfl | rfl
        · simp [eqGuard, binOp, Op.equal, Op.maxDepth, heq]
        · simp [eqGuard, binOp, Op.equal, Op.maxDepth, heq]
      · exact (hno _ _ _ _ e1 e2).elim
    split at h4
    · rename_i b e
      obtain ⟨g1, g2⟩ := gen e (.inl rfl)
      exact key (z := .bool b) h4 rfl (by simp only [Sem.run_bind, g1, Result.andThen_ok, g2]; simp)
    · rename_i b e
      obtain ⟨g1, g2⟩ := gen e (.inr rfl)
      exact key (z := .bool (!b)) h4 rfl (by simp only [Sem.run_bind, g1, Result.andThen_ok, g2]; simp)
    · exact h4.elim
end
end Go.Am
namespace Go.Am
section
variable {P : Program} {E : Env} {S : Start} {st : St} {g : Gh} {w : World} {a : Act} {Q : St → Prop} {gd : Gd} {o : Oper} {Qx : Exit → Act → World → Prop}
/-- A part of a struct replaced. -/
theorem Rep.upd : ∀ {p : Pth} {u : AV} {cs : List Value}, u.ok = true → Rep st g w u cs → u.okp p → ∃ A c B, cs = A ++ c ++ B ∧ A.length = u.off p ∧ c.length = (u.sub p).w ∧
    ∀ v d, Rep st g w v d → Rep st g w (u.upd p v) (A ++ d ++ B) := by
  intro p
  induction p with
  | nil =>
    intro u cs h h' _
    refine ⟨[], cs, [], by simp, by rw [(av_nil u).2.1]; rfl, by rw [(av_nil u).1, (Rep.plain h h').1], fun v d hv => ?_⟩
    have : u.upd [] v = v := by cases u <;> rfl
    rw [this]; simpa using hv
  | cons s p ih =>
    intro u cs h hr hp
    obtain ⟨a, b, rfl, ⟨rfl, h1⟩ | ⟨rfl, h1⟩⟩ := okp_cons hp
    · obtain ⟨c1, c2, e, g1, g2⟩ := hr
      obtain ⟨A, c, B, e1, e2, e3, h3⟩ := ih (andB_true.1 h).1 g1 h1
      exact ⟨A, c, B ++ c2, by rw [e, e1]; simp, e2, e3, fun v d hv => ⟨_, c2, by simp [List.append_assoc], h3 v d hv, g2⟩⟩
    · obtain ⟨c1, c2, e, g1, g2⟩ := hr
      obtain ⟨A, c, B, e1, e2, e3, h3⟩ := ih (andB_true.1 h).2 g2 h1
      exact ⟨c1 ++ A, c, B, by rw [e, e1]; simp, by rw [List.length_append, (Rep.plain (andB_true.1 h).1 g1).1, e2]; rfl, e3, fun v d hv => ⟨c1, _, by simp [List.append_assoc], g1, h3 v d hv⟩⟩
theorem upd_nil (u v : AV) : u.upd [] v = v := by cases u <;> rfl
theorem like_upd : ∀ {k : K} {u : AV} {p : Pth} {v : AV}, likeK k u = true → k.okp p → likeK (k.at p) v = true → likeK k (u.upd p v) = true := by
  intro k
  induction k with
  | pair a b ia ib =>
    intro u p v h hp hv
    cases u <;> simp only [likeK] at h <;> first | (cases h; done) | skip
    rename_i u w
    obtain ⟨h1, h2⟩ := andB_true.1 h
    cases p with
    | nil => exact hv
    | cons q p => cases q with
      | f => exact andB_true.2 ⟨ia h1 hp hv, h2⟩
      | sn => exact andB_true.2 ⟨h1, ib h2 hp hv⟩
      | i n => exact hp.elim
  | _ =>
    intro u p v h hp hv
    cases p with
    | nil => rw [upd_nil]; exact hv
    | cons q p => cases q <;> exact hp.elim
theorem ok_upd : ∀ {p : Pth} {u v : AV}, u.ok = true → v.ok = true → u.okp p → (u.upd p v).ok = true := by
  intro p
  induction p with
  | nil => intro u v _ h _; rw [upd_nil]; exact h
  | cons s p ih =>
    intro u v h hv hp
    obtain ⟨a, b, rfl, ⟨rfl, h1⟩ | ⟨rfl, h1⟩⟩ := okp_cons hp
    · exact andB_true.2 ⟨ih (andB_true.1 h).1 hv h1, (andB_true.1 h).2⟩
    · exact andB_true.2 ⟨(andB_true.1 h).1, ih (andB_true.1 h).2 hv h1⟩
theorem zero_rep : ∀ k : K, Rep st g w (zeroAV k) (zcells k) ∧ likeK k (zeroAV k) = true ∧ (zeroAV k).ok = true
  | .int _ => ⟨rfl, rfl, rfl⟩
  | .bool => ⟨rfl, rfl, rfl⟩
  | .pair a b => ⟨⟨_, _, rfl, (zero_rep a).1, (zero_rep b).1⟩, andB_true.2 ⟨(zero_rep a).2.1, (zero_rep b).2.1⟩, andB_true.2 ⟨(zero_rep a).2.2, (zero_rep b).2.2⟩⟩
  | .sl _ => ⟨rfl, rfl, rfl⟩
theorem zval_cells (k : K) : (zval k).cells.toList = zcells k := by cases k <;> rfl
/-- A value's cells, from its slot. -/
theorem repV_toCells {v : AV} {x : Value} (h : RepV st g w v x) (ho : v.ok = true) : Rep st g w v x.cells.toList := by
  cases v with
  | pr a b => obtain ⟨c, rfl, h⟩ := h; exact h
  | _ =>
    first
    | (simp [AV.ok] at ho; done)
    | (have h : Rep st g w _ [x] := h
       have hp := (Rep.plain ho h).2 x (by simp)
       have : x.cells = #[x] := by cases x <;> first | rfl | exact hp.elim
       rw [this]; exact h)
theorem fold_set (A B : List Value) : ∀ (d c : List Value) (n : Nat), d.length = c.length → n = A.length →
    (d.zipIdx n).foldl (fun (cs : Array Value) (p : Value × Nat) => cs.setIfInBounds p.2 p.1) (A ++ c ++ B).toArray = (A ++ d ++ B).toArray
  | [], [], _, _, _ => rfl
  | [], _ :: _, _, h, _ => by simp at h
  | _ :: _, [], _, h, _ => by simp at h
  | x :: d, y :: c, n, h, hn => by
    subst hn
    simp only [List.zipIdx_cons, List.foldl_cons]
    have e : ((A ++ y :: c ++ B).toArray.setIfInBounds A.length x) = ((A ++ [x]) ++ c ++ B).toArray := by
      apply Array.ext'
      simp
    rw [e]
    have := fold_set (A ++ [x]) B d c (A.length + 1) (by simpa using h) (by simp)
    rw [this]
    simp
theorem fold_at (A c B : List Value) (d : Array Value) (h : d.size = c.length) :
    (d.zipIdx.foldl (fun (cs : Array Value) (p : Value × Nat) => cs.setIfInBounds (A.length + p.2) p.1) (A ++ c ++ B).toArray) = (A ++ d.toList ++ B).toArray := by
  obtain ⟨d⟩ := d
  have h : d.length = c.length := h
  rw [← fold_set A B d c A.length h rfl]
  have : ∀ (l : List Value) (n m : Nat) (cs : Array Value), (l.zipIdx n).foldl (fun (cs : Array Value) (p : Value × Nat) => cs.setIfInBounds (m + p.2) p.1) cs = (l.zipIdx (m + n)).foldl (fun (cs : Array Value) (p : Value × Nat) => cs.setIfInBounds p.2 p.1) cs := by
    intro l
    induction l with
    | nil => intros; rfl
    | cons x l ih => intro n m cs; simp only [List.zipIdx_cons, List.foldl_cons]; rw [ih]; rfl
  have := this d 0 A.length (A ++ c ++ B).toArray
  simpa using this
theorem fill_run (T : TabOk P E) {t : TypeId} {fs : List TypeId} {flds : Array Field} {place : Nat → Option (Nat × Nat)} (hn : flds.size = lenL fs)
    (hf : ∀ j f, flds[j]? = some f → nth fs j = some f.type ∧ f.offset = (kind E.tab t).off (fld (lenL fs) j) ∧ (kind E.tab t).okp (fld (lenL fs) j) ∧ (kind E.tab t).at (fld (lenL fs) j) = kind E.tab f.type ∧ place j = some (f.offset, (kind E.tab f.type).sz)) :
    ∀ (is : List Nat) (vs : List AV) (ps : List (Nat × Value)) (u : AV) (cs : Array Value), shapes E fs is vs = true → ps.map Prod.fst = is → All2 (RepV st g w) vs (ps.map Prod.snd) →
      u.ok = true → likeK (kind E.tab t) u = true → Rep st g w u cs.toList →
      ∃ cs', Instr.fill place cs ps = some cs' ∧ Rep st g w (updAll (lenL fs) u is vs) cs'.toList ∧ likeK (kind E.tab t) (updAll (lenL fs) u is vs) = true
  | [], [], [], u, cs, _, _, _, _, hl, hr => ⟨cs, rfl, hr, hl⟩
  | i :: is, v :: vs, (j, x) :: ps, u, cs, h, he, ha, ho, hl, hr => by
    obtain ⟨e1, e2⟩ := List.cons.inj he
    have e1 : j = i := e1
    subst e1
    unfold shapes at h
    split at h
    · rename_i ft hft
      obtain ⟨h1, h2⟩ := andB_true.1 h
      obtain ⟨h3, h4⟩ := andB_true.1 h1
      obtain ⟨_, h5⟩ := shape_kind h4
      have hj : j < flds.size := by
        rw [nth_get] at hft
        have := (List.getElem?_eq_some_iff.1 hft).1
        rw [hn, ← lenL_eq]; exact this
      have hfj : flds[j]? = some flds[j] := Array.getElem?_eq_getElem hj
      obtain ⟨g1, g2, g3, g4, g5⟩ := hf j _ hfj
      rw [hft] at g1
      have g1 := Option.some.inj g1
      obtain ⟨q1, q2, q3⟩ := likeK_off hl g3
      rw [g4, ← g1] at q3
      obtain ⟨A, c, B, r1, r2, r3, r4⟩ := Rep.upd ho hr q1
      have hx := repV_toCells ha.1 h3
      have hs : x.cells.size = c.length := by
        have := (Rep.plain h3 hx).1
        rw [r3, (likeK_w q3).1, ← (likeK_w h5).1, ← this]; simp
      have hcs : cs = (A ++ c ++ B).toArray := by apply Array.ext'; simpa using r1
      have hsz : c.length = (kind E.tab flds[j].type).sz := by rw [r3, (likeK_w q3).1, g1]
      have ih := fill_run T hn hf is vs ps (u.upd (fld (lenL fs) j) v) (A ++ x.cells.toList ++ B).toArray h2 e2 ha.2 (ok_upd ho h3 q1) (like_upd hl g3 (by rw [g4, ← g1]; exact h5)) (by simpa using r4 v _ hx)
      obtain ⟨cs', i1, i2, i3⟩ := ih
      refine ⟨cs', ?_, i2, i3⟩
      rw [← i1]
      have hoff : flds[j].offset = A.length := by rw [r2, q2, g2]
      simp only [Instr.fill, g5]
      have c1 : (x.cells.size ≠ (kind E.tab flds[j].type).sz || flds[j].offset + x.cells.size > cs.size) = false := by
        rw [hs, hsz, hoff, hcs]
        simp
        omega
      rw [if_neg (by rw [c1]; simp), hoff, hcs, ← fold_at A c B x.cells hs]
    · cases h
  | [], _ :: _, _, _, _, h, _, _, _, _, _ => by simp [shapes] at h
  | _ :: _, [], _, _, _, h, _, _, _, _, _ => by simp [shapes] at h
  | [], [], _ :: _, _, _, _, h, _, _, _, _ => by simp at h
  | _ :: _, _ :: _, [], _, _, _, h, _, _, _, _ => by simp at h
theorem mapL_eq {α β : Type} (f : α → β) : ∀ l : List α, mapL f l = l.map f
  | [] => rfl
  | _ :: l => congrArg (_ :: ·) (mapL_eq f l)
theorem op_build {t : TypeId} {ps : Array (Nat × Operand)} (T : TabOk P E) (ho : o.op = .build t ps) (h : (opP E gd o).run st Q) (hg : GOk gd) (hS : Sim S st g w a) (hb : inB S.n o.dst) : o.wp P a w (Good S Q) Qx := by
  unfold opP at h; rw [ho] at h
  simp only [] at h
  split at h
  · rename_i fs e
    obtain ⟨vs, h1, h2⟩ := evs_run h hg hS
    obtain ⟨h3, h4⟩ := iff'_fail h2
    have ht := T t
    unfold TyOk at ht; rw [e] at ht
    obtain ⟨_, flds, hu, hp, hn, ⟨i, hi, hz, _, hzz⟩, hf⟩ := ht
    obtain ⟨z1, z2, z3⟩ := zero_rep (st := st) (g := g) (w := w) (kind E.tab t)
    have hpl : ∃ places, flds.toList.mapM (fun f => (P.info? f.type).map fun i => (f.offset, i.size)) = some places ∧ ∀ (j : Nat) (f : Field), flds[j]? = some f → places[j]? = some (f.offset, (kind E.tab f.type).sz) := by
      have : ∀ f ∈ flds.toList, ∃ i, P.info? f.type = some i ∧ i.size = (kind E.tab f.type).sz := by
        intro f hfm
        obtain ⟨j, hj⟩ := List.getElem?_of_mem hfm
        obtain ⟨_, _, _, _, _, q, _⟩ := hf j f (by simpa using hj)
        exact q
      refine ⟨flds.toList.map fun (f : Field) => (f.offset, (kind E.tab f.type).sz), ?_, fun j f hj => by simp [hj]⟩
      generalize flds.toList = l at this ⊢
      induction l with
      | nil => rfl
      | cons f l ih =>
        obtain ⟨i, h1, h2⟩ := this f (by simp)
        rw [List.mapM_cons, ih (fun f hf => this f (by simp [hf]))]
        simp [h1, h2]
    obtain ⟨places, hp1, hp2⟩ := hpl
    rw [mapL_eq] at h1 h3 h4
    have hall : All2 (RepV st g w) vs (((ps.map fun (i, x) => (i, a.eval x)).toList).map Prod.snd) := by
      have : ((ps.map fun (i, x) => (i, a.eval x)).toList).map Prod.snd = (ps.toList.map fun p => p.2).map a.eval := by
        rw [Array.toList_map, List.map_map, List.map_map]; rfl
      rw [this]
      revert h1
      generalize ps.toList.map (fun p => p.2) = l
      intro h1
      clear h2 h3 h4 this
      induction vs generalizing l with
      | nil => cases l <;> exact h1
      | cons v vs ih => cases l with
        | nil => exact h1
        | cons x l => exact ⟨h1.1, ih l h1.2⟩
    obtain ⟨cs, f1, f2, f3⟩ := fill_run (st := st) (g := g) (w := w) T (t := t) (fs := fs) (flds := flds) (place := (places.toArray[·]?)) hn
      (fun j f hj => by obtain ⟨q1, q2, q3, q4, _⟩ := hf j f hj; exact ⟨q1, q2, q3, q4, by simpa using hp2 j f hj⟩)
      _ vs (ps.map fun (i, x) => (i, a.eval x)).toList (zeroAV (kind E.tab t)) (zval (kind E.tab t)).cells h3 (by rw [Array.toList_map, List.map_map]; rfl) hall z3 z2 (by rw [zval_cells]; exact z1)
    refine wp_val (x := .agg cs) (w' := w) ?_ (good_value hS h4 hg hb ?_)
    · have hbt : P.built t (ps.map fun (i, x) => (i, a.eval x)).toList = some cs := by
        unfold Program.built
        simp only [hi, hu, hzz, hp1]
        exact f1
      simp only [execOp, ho, Sem.run_bind, run_build w t _ cs hbt, Result.andThen_ok, Sem.run_pure]
    · have := (likeK_w f3).2.trans hp
      revert f2 this
      generalize updAll (lenL fs) (zeroAV (kind E.tab t)) _ vs = r
      intro f2 this
      cases r <;> first | (simp [AV.isPr] at this; done) | exact ⟨cs, rfl, f2⟩
  · exact h.elim
theorem op_max {c : Call} (ho : o.op = .call c) (hc : c.callee = .builtin .max) (h : (opP E gd o).run st Q) (hg : GOk gd) (hS : Sim S st g w a) (hb : inB S.n o.dst) : o.wp P a w (Good S Q) Qx := by
  unfold opP at h; rw [ho] at h
  simp only [hc] at h
  obtain ⟨vs, h1, h2⟩ := evs_run h hg hS
  have h1 := args_of h1
  split at h2
  · rename_i ik m jk n _
    obtain ⟨x, y, ex, hx, hy⟩ := two_of h1
    obtain ⟨h3, h4⟩ := iff'_fail h2
    refine wp_val (x := .int ik _) (w' := w) ?_ (good_value hS h4 hg hb rfl)
    refine exec_builtin ho hc (fun _ _ _ _ => rfl) ?_
    rw [ex, rep_int hx, rep_int hy]
    simp [Builtin.max_, Builtin.max2]
  · exact h2.elim
theorem op_min {c : Call} (ho : o.op = .call c) (hc : c.callee = .builtin .min) (h : (opP E gd o).run st Q) (hg : GOk gd) (hS : Sim S st g w a) (hb : inB S.n o.dst) : o.wp P a w (Good S Q) Qx := by
  unfold opP at h; rw [ho] at h
  simp only [hc] at h
  obtain ⟨vs, h1, h2⟩ := evs_run h hg hS
  have h1 := args_of h1
  split at h2
  · rename_i ik m jk n _
    obtain ⟨x, y, ex, hx, hy⟩ := two_of h1
    obtain ⟨h3, h4⟩ := iff'_fail h2
    refine wp_val (x := .int ik _) (w' := w) ?_ (good_value hS h4 hg hb rfl)
    refine exec_builtin ho hc (fun _ _ _ _ => rfl) ?_
    rw [ex, rep_int hx, rep_int hy]
    simp [Builtin.min_, Builtin.min2]
  · exact h2.elim
end
end Go.Am
namespace Go.Am
section
variable {S : Start} {st st' : St} {g g' : Gh} {w w' : World} {a : Act}
theorem RootM.keep {r : Nat} {rv : RootV} (h : RootM g w r rv) (hl : g'.lay r = g.lay r) (hU : ∀ b, g.U w b → g'.U w' b ∧ w'.heap[b]? = w.heap[b]?)
    (ho : ∀ b, rv.c ≠ none → g.ow b = some (2 * r) → g'.ow b = some (2 * r) ∧ w'.heap[b]? = w.heap[b]?) : RootM g' w' r rv := by
  intro rc hrc
  have h := h rc hrc
  have hne : rv.c ≠ none := by rw [hrc]; simp
  rw [hl]
  split
  · rename_i e
    rw [if_pos e] at h
    refine ⟨h.1, h.2.1, fun b c hb hn => ?_, h.2.2.2⟩
    obtain ⟨h1, h2⟩ := h.2.2.1 b c hb hn
    obtain ⟨h3, h4⟩ := ho b hne h1
    exact ⟨h3, h2.same h4⟩
  · rename_i e
    rw [if_neg e] at h
    refine ⟨h.1, h.2.1, h.2.2.1, fun b hb => ?_⟩
    obtain ⟨h1, cs, h2, h3, h4, h5⟩ := h.2.2.2 b hb
    obtain ⟨h6, h7⟩ := ho b hne h1
    exact ⟨h6, cs, h2, h3.same h7, h4, fun i hi => (h5 i hi).mono hU⟩
theorem BoxM.keep {b : Nat} {bv : BoxV} (h : BoxM st g w b bv) (hl : g'.bx b = g.bx b) (hU : ∀ b, g.U w b → g'.U w' b ∧ w'.heap[b]? = w.heap[b]?)
    (ho : ∀ d, g.ow d = some (2 * b + 3) → g'.ow d = some (2 * b + 3) ∧ w'.heap[d]? = w.heap[d]?) (hr : ∀ v cs, Rep st g w v cs → Rep st' g' w' v cs) : BoxM st' g' w' b bv := by
  intro v hv
  obtain ⟨h1, h2⟩ := h v hv
  refine ⟨h1, ?_⟩
  rw [hl]
  split
  · rename_i e
    rw [if_pos e] at h2
    obtain ⟨h3, cs, h4, h5⟩ := h2
    exact ⟨(hU _ h3).1, cs, h4.same (hU _ h3).2, hr _ _ h5⟩
  · rename_i e
    rw [if_neg e] at h2
    obtain ⟨h3, h3', cs, h4, h5⟩ := h2
    obtain ⟨h6, h7⟩ := ho _ h3'
    exact ⟨h3, h6, cs, h4.same h7, hr _ _ h5⟩
/-- A step of memory: what must be shown. -/
theorem Sim.next (h : Sim S st g w a) (henv : ∀ t, st'.s t = st.s t) (hU : ∀ b, g.U w b → g'.U w' b ∧ w'.heap[b]? = w.heap[b]?)
    (hr : ∀ r, (st'.r r = st.r r ∧ g'.lay r = g.lay r ∧ ∀ b, (st.r r).c ≠ none → g.ow b = some (2 * r) → g'.ow b = some (2 * r) ∧ w'.heap[b]? = w.heap[b]?) ∨
      (RStep (st.r r) (st'.r r) (g.lay r) (g'.lay r) ∧ RootM g' w' r (st'.r r)))
    (hb : ∀ b, (st'.b b = st.b b ∧ g'.bx b = g.bx b ∧ ∀ d, g.ow d = some (2 * b + 3) → g'.ow d = some (2 * b + 3) ∧ w'.heap[d]? = w.heap[d]?) ∨
      (BStep (st.b b) (st'.b b) (g.bx b) (g'.bx b) ∧ ((∀ v cs, Rep st g w v cs → Rep st' g' w' v cs) → BoxM st' g' w' b (st'.b b))))
    (hown : ∀ b x, g'.ow b = some x → b < w'.heap.size) (hos : w'.os = w.os) (ht : w'.tape = w.tape) (hout : w'.output = w.output) (hg : w.heap.size ≤ w'.heap.size)
    (hfar : ∀ b, g.ow b = some 1 → g'.ow b = some 1 ∧ w'.heap[b]? = w.heap[b]?) :
    Sim S st' g' w' a ∧ (∀ v cs, Rep st g w v cs → Rep st' g' w' v cs) ∧ ∀ v x, RepV st g w v x → RepV st' g' w' v x := by
  have hR : ∀ r, RStep (st.r r) (st'.r r) (g.lay r) (g'.lay r) := by
    intro r
    rcases hr r with ⟨h1, h2, _⟩ | ⟨h1, _⟩
    · rw [h1, h2]; exact RStep.refl _ _
    · exact h1
  have hB : ∀ b, BStep (st.b b) (st'.b b) (g.bx b) (g'.bx b) := by
    intro b
    rcases hb b with ⟨h1, h2, _⟩ | ⟨h1, _⟩
    · rw [h1, h2]; exact BStep.refl _ _
    · exact h1
  have hrep : ∀ v cs, Rep st g w v cs → Rep st' g' w' v cs := fun v cs => Rep.step hU hR hB
  have hrepV : ∀ v x, RepV st g w v x → RepV st' g' w' v x := fun v x => RepV.step hU hR hB
  refine ⟨⟨h.size, h.defers, fun t => ?_, fun r => ?_, fun b => ?_, hown, hos.trans h.os, ht.trans h.tape, hout.trans h.output, Nat.le_trans h.grow hg, fun b hlt ho => ?_, fun b x hx hlt => ?_, fun b hb => ?_, fun r rc hr0 hg0 hc => ?_, fun b v hb0 hg0 hc => ?_⟩, hrep, hrepV⟩
  · rw [henv]; exact hrepV _ _ (h.slot t)
  · rcases hr r with ⟨h1, h2, h3⟩ | ⟨_, h1⟩
    · rw [h1]; exact (h.root r).keep h2 hU h3
    · exact h1
  · rcases hb b with ⟨h1, h2, h3⟩ | ⟨_, h1⟩
    · rw [h1]; exact (h.box b).keep h2 hU h3 hrep
    · exact h1 hrep
  · obtain ⟨h1, h2⟩ := h.old b hlt ho
    have hU' : g.U w b := ⟨Nat.lt_of_lt_of_le hlt h.grow, h1⟩
    obtain ⟨h3, h4⟩ := hU b hU'
    exact ⟨h3.2, h4.trans h2⟩
  · cases ho : g.ow b with
    | some y => exact h.was b y ho hlt
    | none =>
      have hU' : g.U w b := ⟨Nat.lt_of_lt_of_le hlt h.grow, ho⟩
      have := (hU b hU').1.2
      rw [hx] at this; cases this
  · obtain ⟨h1, h2⟩ := h.far b hb
    obtain ⟨h3, h4⟩ := hfar b h1
    exact ⟨h3, h4.trans h2⟩
  · rcases hR r with e | ⟨e1, _, e⟩
    · omega
    · obtain ⟨xs, inn, g1, _, g3, g4, g5, g6, _⟩ := e rc hc
      obtain ⟨ys, inn', k1, k2, k3, k4, k5⟩ := h.topr r _ hr0 (e1.trans hg0) g1
      exact ⟨ys, inn', k1, k2.trans g3, k3.trans g4, k4.trans g5, k5.trans g6⟩
  · rcases hB b with e | ⟨e1, e⟩
    · omega
    · obtain ⟨v0, g1, _, g3⟩ := e v hc
      exact g3.symm.trans (h.topb b v0 hb0 (e1.trans hg0) g1)
def Gh.own (g : Gh) (x : Nat) (bs : List Nat) : Gh := { g with ow := fun b => if b ∈ bs then some x else g.ow b }
open Classical in
noncomputable def Gh.setL (g : Gh) (r : Nat) (k : K) (l : k.L) : Gh := { g with lay := fun r' k' => if h : r' = r ∧ k = k' then h.2 ▸ l else g.lay r' k' }
def Gh.setB (g : Gh) (b : Nat) (p : Nat × Nat) : Gh := { g with bx := fun b' => if b' = b then p else g.bx b' }
theorem Gh.lay_same (g : Gh) (r : Nat) (k : K) (l : k.L) : (g.setL r k l).lay r k = l := by simp [Gh.setL]
theorem Gh.lay_other (g : Gh) (r : Nat) (k : K) (l : k.L) {r' : Nat} (h : r' ≠ r) : (g.setL r k l).lay r' = g.lay r' := by
  funext k'; simp [Gh.setL, h]
theorem Gh.own_in (g : Gh) {x : Nat} {bs : List Nat} {b : Nat} (h : b ∈ bs) : (g.own x bs).ow b = some x := by simp [Gh.own, h]
theorem Gh.own_out (g : Gh) {x : Nat} {bs : List Nat} {b : Nat} (h : b ∉ bs) : (g.own x bs).ow b = g.ow b := by simp [Gh.own, h]
theorem alloc_old (w : World) (o : Obj) {b : Nat} (h : b < w.heap.size) : (w.alloc o).heap[b]? = w.heap[b]? := by
  show (w.heap.push o)[b]? = _
  rw [Array.getElem?_push, if_neg (by omega)]
theorem alloc_new (w : World) (c : List Value) (e : TypeId) : Blk (w.alloc (.cells c.toArray e)) w.heap.size c := ⟨e, by show (w.heap.push _)[w.heap.size]? = _; simp⟩
theorem setRow_other (w : World) (b : Nat) (c : Array Value) {d : Nat} (h : d ≠ b) : (w.setRow b c).heap[d]? = w.heap[d]? := by
  simp only [World.setRow, Array.getElem?_modify]
  rw [if_neg (fun e => h e.symm)]
theorem setRow_blk {w : World} {b : Nat} {c : List Value} (h : Blk w b c) (d : List Value) : Blk (w.setRow b d.toArray) b d := by
  obtain ⟨E, h⟩ := h
  exact ⟨E, setRow_heap w b _ _ E (0, 0) h⟩
theorem setRow_size (w : World) (b : Nat) (c : Array Value) : (w.setRow b c).heap.size = w.heap.size := by simp [World.setRow]
structure Pool (st : St) (g : Gh) (w : World) (R : List (Nat × List Value)) : Prop where
  nodup : (R.map Prod.fst).Nodup
  row : ∀ b c, (b, c) ∈ R → Blk w b c ∧ ∃ r, g.ow b = some (2 * r) ∧ (st.r r).c = none
theorem Pool.nil : Pool st g w [] := ⟨by simp, fun _ _ h => by simp at h⟩
/-- A root used up. -/
theorem Sim.use (h : Sim S st g w a) (r : Nat) {rv : RootV} (hv : rv.gen = Nat.succ (st.r r).gen) (hc : rv.c = none) : Sim S (st.wr r rv) g w a ∧ (∀ v cs, Rep st g w v cs → Rep (st.wr r rv) g w v cs) ∧ ∀ v x, RepV st g w v x → RepV (st.wr r rv) g w v x := by
  refine h.next (fun t => rfl) (fun _ hb => ⟨hb, rfl⟩) (fun r' => ?_) (fun b => .inl ⟨rfl, rfl, fun _ h => ⟨h, rfl⟩⟩) h.own rfl rfl rfl (Nat.le_refl _) (fun _ h => ⟨h, rfl⟩)
  rw [St.r_wr]
  split
  · rename_i e
    subst e
    refine .inr ⟨.inl (by rw [hv]; exact Nat.lt_succ_self _), fun rc hrc => ?_⟩
    rw [hc] at hrc; cases hrc
  · exact .inl ⟨rfl, rfl, fun b _ h => ⟨h, rfl⟩⟩
theorem Pool.use {R : List (Nat × List Value)} (h : Pool st g w R) (r : Nat) {rv : RootV} (hc : rv.c = none) : Pool (st.wr r rv) g w R := by
  refine ⟨h.nodup, fun b c hb => ?_⟩
  obtain ⟨h1, r', h2, h3⟩ := h.row b c hb
  refine ⟨h1, r', h2, ?_⟩
  rw [St.r_wr]
  split
  · exact hc
  · exact h3
/-- What a step of using up leaves as it was. -/
structure Used (st st' : St) : Prop where
  env : st'.env = st.env
  boxes : st'.boxes = st.boxes
  root : ∀ r, st'.r r = st.r r ∨ ((st'.r r).c = none ∧ (st.r r).gen < (st'.r r).gen)
theorem Used.refl (st : St) : Used st st := ⟨rfl, rfl, fun _ => .inl rfl⟩
theorem Used.trans {st st1 st2 : St} (h : Used st st1) (k : Used st1 st2) : Used st st2 := by
  refine ⟨k.env.trans h.env, k.boxes.trans h.boxes, fun r => ?_⟩
  rcases k.root r with e | ⟨e, e'⟩
  · rw [e]; exact h.root r
  · rcases h.root r with f | ⟨f, f'⟩
    · rw [f] at e'; exact .inr ⟨e, e'⟩
    · exact .inr ⟨e, Nat.lt_trans f' e'⟩
theorem Used.one (st : St) (r : Nat) {rv : RootV} (hv : rv.gen = Nat.succ (st.r r).gen) (hc : rv.c = none) : Used st (st.wr r rv) := by
  refine ⟨rfl, rfl, fun r' => ?_⟩
  rw [St.r_wr]
  split
  · rename_i e; subst e; exact .inr ⟨hc, by rw [hv]; exact Nat.lt_succ_self _⟩
  · exact .inl rfl
/-- A value's tree, its roots used up. -/
theorem cls_run {Q : St → Prop} : ∀ {k : K} {v : AV} {c : k.T → Prog} {cs : List Value} {R : List (Nat × List Value)} {st : St} (_ : (cls k v c).run st Q) (_ : Sim S st g w a) (_ : Pool st g w R) (_ : Rep st g w v cs),
    ∃ x l st1, Sim S st1 g w a ∧ (Used st st1 ∧ (∀ r, v.has r = false → st1.r r = st.r r) ∧ likeK k v = true ∧ ∀ b c, (b, c) ∈ rows k x l → ∃ r, r ∈ roots v ∧ g.ow b = some (2 * r)) ∧ (∀ v cs, Rep st g w v cs → Rep st1 g w v cs) ∧ Fit k x l ∧ cs = hdr k x l ∧ Pool st1 g w (R ++ rows k x l) ∧ (c x).run st1 Q := by
  intro k
  induction k with
  | int ik =>
    intro v c cs R st h hS hP hr
    cases v <;> first | exact h.elim | skip
    rename_i jk n
    obtain ⟨h1, h2⟩ := iff'_fail h
    have e := eqIK_eq h1
    subst e
    exact ⟨n, (), st, hS, ⟨Used.refl _, fun _ _ => rfl, rfl, fun b c hb => (by simp [rows] at hb)⟩, fun _ _ h => h, trivial, hr, by simpa [rows] using hP, h2⟩
  | bool =>
    intro v c cs R st h hS hP hr
    cases v <;> first | exact h.elim | skip
    rename_i b
    exact ⟨b, (), st, hS, ⟨Used.refl _, fun _ _ => rfl, rfl, fun b c hb => (by simp [rows] at hb)⟩, fun _ _ h => h, trivial, hr, by simpa [rows] using hP, h⟩
  | pair p q ip iq =>
    intro v c cs R st h hS hP hr
    cases v <;> first | exact h.elim | skip
    rename_i u v
    obtain ⟨c1, c2, e, r1, r2⟩ := hr
    have h : (cls p u fun x => cls q v fun y => c (x, y)).run st Q := h
    obtain ⟨x, l, st1, s1, u1, m1, f1, e1, p1, h1⟩ := ip h hS hP r1
    obtain ⟨y, m, st2, s2, u2, m2, f2, e2, p2, h2⟩ := iq h1 s1 p1 (m1 _ _ r2)
    exact ⟨(x, y), (l, m), st2, s2, ⟨u1.1.trans u2.1, fun r hr => by
      have hr : orB (u.has r) (v.has r) = false := hr
      have h1 : u.has r = false := by revert hr; cases u.has r <;> simp [orB]
      have h2 : v.has r = false := by revert hr; rw [h1]; exact fun h => h
      rw [u2.2.1 r h2, u1.2.1 r h1], andB_true.2 ⟨u1.2.2.1, u2.2.2.1⟩, fun b c hb => by
      show ∃ r, r ∈ cat (roots u) (roots v) ∧ _
      rw [cat_eq]
      rcases List.mem_append.1 (show (b, c) ∈ rows p x l ++ rows q y m from hb) with hb | hb
      · obtain ⟨r, h1, h2⟩ := u1.2.2.2 b c hb; exact ⟨r, List.mem_append_left _ h1, h2⟩
      · obtain ⟨r, h1, h2⟩ := u2.2.2.2 b c hb; exact ⟨r, List.mem_append_right _ h1, h2⟩⟩, fun v cs h => m2 _ _ (m1 _ _ h), ⟨f1, f2⟩, by rw [e, e1, e2]; rfl, by simpa [rows, List.append_assoc] using p2, h2⟩
  | sl k ih =>
    intro v c cs R st h hS hP hr
    cases v with
    | nils => exact ⟨([] : List k.T), ⟨none, [], [], 0, []⟩, st, hS, ⟨Used.refl _, fun _ _ => rfl, rfl, fun b c hb => (by simp [rows, row0, zipR] at hb)⟩, fun _ _ h => h, ⟨trivial, Nat.le_refl _, by simp, fun _ => ⟨rfl, rfl⟩⟩, hr, by simpa [rows, row0, zipR] using hP, h⟩
    | rf r gen hc p =>
      cases p with
      | cons s p => exact h.elim
      | nil =>
        have h : (live gen (st.r r) fun rc => iff' rc.inn (match K.same rc.k k with | some ⟨h⟩ => .wrR r { (st.r r) with gen := Nat.succ (st.r r).gen, c := none } (c (h ▸ rc.xs)) | none => .fail) .fail).run st Q := h
        obtain ⟨rc, h1, h2, h3, h4⟩ := live_run h
        obtain ⟨hinn, h5⟩ := iff'_fail h4
        split at h5
        · rename_i hk _
          obtain ⟨rk, xs, inn⟩ := rc
          have hk : rk = k := hk
          subst hk
          have hinn : inn = true := hinn
          subst hinn
          have h5 : (c xs).run (st.wr r { (st.r r) with gen := Nat.succ (st.r r).gen, c := none }) Q := h5
          obtain ⟨_, _, hv⟩ := hr
          obtain ⟨_, _, e⟩ := hv _ ⟨h1, h2, .inl (by simp [ix])⟩
          have hR := hS.root r _ h1
          rw [if_pos rfl] at hR
          obtain ⟨f1, f2, f3, f4⟩ := hR
          obtain ⟨s1, s2, _⟩ := hS.use r (rv := { (st.r r) with gen := Nat.succ (st.r r).gen, c := none }) rfl rfl
          refine ⟨xs, g.lay r (.sl rk), _, s1, ⟨Used.one st r rfl rfl, fun r' hr' => (by
            have hr' : Nat.beq r r' = false := hr'
            rw [St.r_wr, if_neg]
            intro e; subst e; rw [Nat.beq_refl] at hr'; cases hr'), rfl, fun b c hb => ⟨r, by simp [roots], (f3 b c hb (by rw [h3]; exact fun h => h)).1⟩⟩, s2, f1, e, ?_, h5⟩
          have hP' := hP.use r (rv := { (st.r r) with gen := Nat.succ (st.r r).gen, c := none }) rfl
          have hng : ∀ b c, (b, c) ∈ rows (.sl rk) xs (g.lay r (.sl rk)) → g.ow b = some (2 * r) ∧ Blk w b c := fun b c hb => f3 b c hb (by rw [h3]; exact fun h => h)
          refine ⟨?_, fun b c hb => ?_⟩
          · rw [List.map_append, List.nodup_append]
            refine ⟨hP.nodup, f2, fun b hb b' hb' => ?_⟩
            rintro rfl
            obtain ⟨⟨b1, c1⟩, hm, e1⟩ := List.mem_map.1 hb
            obtain ⟨⟨b2, c2⟩, hm', e2⟩ := List.mem_map.1 hb'
            have e1 : b1 = b := e1
            have e2 : b2 = b := e2
            subst e1 e2
            obtain ⟨_, r', ho, hc'⟩ := hP.row _ _ hm
            obtain ⟨ho', _⟩ := hng _ _ hm'
            rw [ho] at ho'
            have : r' = r := by have := Option.some.inj ho'; omega
            subst this
            rw [h1] at hc'; cases hc'
          · rcases List.mem_append.1 hb with hb | hb
            · exact hP'.row b c hb
            · obtain ⟨h6, h7⟩ := hng b c hb
              refine ⟨h7, r, h6, ?_⟩
              rw [St.r_wr, if_pos rfl]
        · exact h5.elim
    | _ => exact h.elim
end
end Go.Am
namespace Go.Am
section
variable {P : Program} {E : Env} {S : Start} {st : St} {g g' : Gh} {w w' : World} {a : Act} {Q : St → Prop} {gd : Gd} {o : Oper} {Qx : Exit → Act → World → Prop}
theorem Sim.setRoot (h : Sim S st g w a) {R : List (Nat × List Value)} (hP : Pool st g w R) {id : Nat} {rv : RootV} {k : K} {l : k.L} {bs : List Nat}
    (hw : ∀ b, b < w.heap.size → b ∉ R.map Prod.fst → g.ow b ≠ some (2 * id) → w'.heap[b]? = w.heap[b]?) (hbs : ∀ b, b ∈ bs → (b ∈ R.map Prod.fst ∨ g.ow b = some (2 * id) ∨ w.heap.size ≤ b) ∧ b < w'.heap.size)
    (hs : RStep (st.r id) rv (g.lay id) (((g.own (2 * id) bs).setL id k l).lay id)) (hM : RootM ((g.own (2 * id) bs).setL id k l) w' id rv)
    (hos : w'.os = w.os) (ht : w'.tape = w.tape) (hout : w'.output = w.output) (hg : w.heap.size ≤ w'.heap.size) :
    Sim S (st.wr id rv) ((g.own (2 * id) bs).setL id k l) w' a ∧ (∀ v cs, Rep st g w v cs → Rep (st.wr id rv) ((g.own (2 * id) bs).setL id k l) w' v cs) ∧
      ∀ v x, RepV st g w v x → RepV (st.wr id rv) ((g.own (2 * id) bs).setL id k l) w' v x := by
  have hR : ∀ b, b ∈ R.map Prod.fst → ∃ r, g.ow b = some (2 * r) ∧ (st.r r).c = none := by
    intro b hb
    obtain ⟨⟨b1, c1⟩, hm, e1⟩ := List.mem_map.1 hb
    have e1 : b1 = b := e1
    subst e1
    exact (hP.row _ _ hm).2
  have out : ∀ b x, g.ow b = some x → b ∉ R.map Prod.fst → x ≠ 2 * id → b ∉ bs := by
    intro b x hx hn hne hb
    rcases (hbs b hb).1 with h1 | h1 | h1
    · exact hn h1
    · rw [hx] at h1; exact hne (Option.some.inj h1)
    · have := h.own b x hx; omega
  refine h.next (fun t => rfl) (fun b hb => ?_) (fun r => ?_) (fun b => .inl ⟨rfl, rfl, fun d hd => ?_⟩) (fun b x hx => ?_) hos ht hout hg (fun d hd => ?_)
  · have hb1 : b ∉ R.map Prod.fst := fun hm => by obtain ⟨r, h1, _⟩ := hR b hm; rw [hb.2] at h1; cases h1
    have hb2 : b ∉ bs := fun hm => by
      rcases (hbs b hm).1 with h1 | h1 | h1
      · exact hb1 h1
      · rw [hb.2] at h1; cases h1
      · have := hb.1; omega
    refine ⟨⟨Nat.lt_of_lt_of_le hb.1 hg, (Gh.own_out g hb2).trans hb.2⟩, hw b hb.1 hb1 (by rw [hb.2]; simp)⟩
  · rw [St.r_wr]
    split
    · rename_i e; subst e; exact .inr ⟨hs, hM⟩
    · rename_i e
      refine .inl ⟨rfl, Gh.lay_other _ _ _ _ (fun e' => e e'.symm), fun b hc hb => ?_⟩
      have hb1 : b ∉ R.map Prod.fst := fun hm => by
        obtain ⟨r', h1, h2⟩ := hR b hm
        rw [hb] at h1
        have : r = r' := by have := Option.some.inj h1; omega
        subst this
        exact hc h2
      have hne : 2 * r ≠ 2 * id := by omega
      exact ⟨(Gh.own_out g (out b _ hb hb1 hne)).trans hb, hw b (h.own b _ hb) hb1 (by rw [hb]; intro e'; have := Option.some.inj e'; omega)⟩
  · have hb1 : d ∉ R.map Prod.fst := fun hm => by
      obtain ⟨r', h1, _⟩ := hR d hm
      rw [hd] at h1
      have := Option.some.inj h1; omega
    have hne : 2 * b + 3 ≠ 2 * id := by omega
    exact ⟨(Gh.own_out g (out d _ hd hb1 hne)).trans hd, hw d (h.own d _ hd) hb1 (by rw [hd]; intro e; have := Option.some.inj e; omega)⟩
  · by_cases hb : b ∈ bs
    · exact (hbs b hb).2
    · have : (g.own (2 * id) bs).ow b = some x := hx
      rw [Gh.own_out g hb] at this
      exact Nat.lt_of_lt_of_le (h.own b x this) hg
  · have hb1 : d ∉ R.map Prod.fst := fun hm => by
      obtain ⟨r', h1, _⟩ := hR d hm
      rw [hd] at h1
      have := Option.some.inj h1; omega
    exact ⟨(Gh.own_out g (out d _ hd hb1 (by omega))).trans hd, hw d (h.own d _ hd) hb1 (by rw [hd]; intro e; have := Option.some.inj e; omega)⟩
theorem Sim.setBox (h : Sim S st g w a) {id : Nat} {bv : BoxV} {bs : List Nat} {p : Nat × Nat}
    (hw : ∀ b, b < w.heap.size → g.ow b ≠ some (2 * id + 3) → w'.heap[b]? = w.heap[b]?) (hbs : ∀ b, b ∈ bs → (g.ow b = some (2 * id + 3) ∨ w.heap.size ≤ b) ∧ b < w'.heap.size)
    (hs : BStep (st.b id) bv (g.bx id) p)
    (hM : (∀ v cs, Rep st g w v cs → Rep (st.wb id bv) ((g.own (2 * id + 3) bs).setB id p) w' v cs) → BoxM (st.wb id bv) ((g.own (2 * id + 3) bs).setB id p) w' id bv)
    (hos : w'.os = w.os) (ht : w'.tape = w.tape) (hout : w'.output = w.output) (hg : w.heap.size ≤ w'.heap.size) :
    Sim S (st.wb id bv) ((g.own (2 * id + 3) bs).setB id p) w' a ∧ (∀ v cs, Rep st g w v cs → Rep (st.wb id bv) ((g.own (2 * id + 3) bs).setB id p) w' v cs) ∧
      ∀ v x, RepV st g w v x → RepV (st.wb id bv) ((g.own (2 * id + 3) bs).setB id p) w' v x := by
  have out : ∀ b x, g.ow b = some x → x ≠ 2 * id + 3 → b ∉ bs := by
    intro b x hx hne hb
    rcases (hbs b hb).1 with h1 | h1
    · rw [hx] at h1; exact hne (Option.some.inj h1)
    · have := h.own b x hx; omega
  refine h.next (fun t => rfl) (fun b hb => ?_) (fun r => .inl ⟨rfl, rfl, fun b hc hb => ?_⟩) (fun b => ?_) (fun b x hx => ?_) hos ht hout hg (fun d hd => ?_)
  · have hb2 : b ∉ bs := fun hm => by
      rcases (hbs b hm).1 with h1 | h1
      · rw [hb.2] at h1; cases h1
      · have := hb.1; omega
    refine ⟨⟨Nat.lt_of_lt_of_le hb.1 hg, (Gh.own_out g hb2).trans hb.2⟩, hw b hb.1 (by rw [hb.2]; simp)⟩
  · have hne : 2 * r ≠ 2 * id + 3 := by omega
    exact ⟨(Gh.own_out g (out b _ hb hne)).trans hb, hw b (h.own b _ hb) (by rw [hb]; intro e; exact hne (Option.some.inj e))⟩
  · rw [St.b_wb]
    split
    · rename_i e
      subst e
      refine .inr ⟨?_, hM⟩
      show BStep _ _ _ (if id = id then p else g.bx id)
      rw [if_pos rfl]; exact hs
    · rename_i e
      refine .inl ⟨rfl, ?_, fun d hd => ?_⟩
      · show (if b = id then p else g.bx b) = _
        rw [if_neg (fun e' => e e'.symm)]
      · have hne : 2 * b + 3 ≠ 2 * id + 3 := by omega
        exact ⟨(Gh.own_out g (out d _ hd hne)).trans hd, hw d (h.own d _ hd) (by rw [hd]; intro e; exact hne (Option.some.inj e))⟩
  · by_cases hb : b ∈ bs
    · exact (hbs b hb).2
    · have : (g.own (2 * id + 3) bs).ow b = some x := hx
      rw [Gh.own_out g hb] at this
      exact Nat.lt_of_lt_of_le (h.own b x this) hg
  · exact ⟨(Gh.own_out g (out d _ hd (by omega))).trans hd, hw d (h.own d _ hd) (by rw [hd]; intro e; have := Option.some.inj e; omega)⟩
/-- A new box. -/
theorem Sim.newBox (h : Sim S st g w a) (id : Nat) {v : AV} {cs : List Value} (hv : v.ok = true) (hr : Rep st g w v cs) (e : TypeId) :
    ∃ g', Sim S (st.wb id ⟨Nat.succ (st.b id).gen, some v, false⟩) g' (w.alloc (.cells cs.toArray e)) a ∧
      Rep (st.wb id ⟨Nat.succ (st.b id).gen, some v, false⟩) g' (w.alloc (.cells cs.toArray e)) (.pb id (Nat.succ (st.b id).gen) []) [.pointer (some ⟨w.heap.size, 0, none⟩)] := by
  have key := h.setBox (w' := w.alloc (.cells cs.toArray e)) (id := id) (bv := ⟨Nat.succ (st.b id).gen, some v, false⟩) (bs := [w.heap.size]) (p := (w.heap.size, 0))
    (fun b hb _ => alloc_old w _ hb) (fun b hb => by simp at hb; subst hb; exact ⟨.inr (Nat.le_refl _), by simp⟩) (.inl (Nat.lt_succ_self _))
    (fun hrep => by
      intro v' hv'
      have : v' = v := (Option.some.inj hv').symm
      subst this
      refine ⟨hv, ?_⟩
      rw [if_neg (by simp)]
      refine ⟨by simp [Gh.setB], ?_, cs, ?_, hrep _ _ hr⟩
      · show (g.own (2 * id + 3) [w.heap.size]).ow (if id = id then (w.heap.size, 0) else g.bx id).1 = _
        rw [if_pos rfl]; exact Gh.own_in g (by simp)
      · show Blk _ (if id = id then (w.heap.size, 0) else g.bx id).1 cs
        rw [if_pos rfl]; exact alloc_new w cs e)
    rfl rfl rfl (by simp)
  refine ⟨_, key.1, ⟨_, rfl⟩, ?_, fun v' hv' _ => ?_⟩
  · rw [St.b_wb, if_pos rfl]; exact Nat.le_refl _
  · rw [St.b_wb, if_pos rfl] at hv'
    have : v' = v := (Option.some.inj hv').symm
    subst this
    refine ⟨(av_nil _).2.2, ?_⟩
    show _ = [Value.pointer (some ⟨(if id = id then (w.heap.size, 0) else g.bx id).1, (if id = id then (w.heap.size, 0) else g.bx id).2 + _, none⟩)]
    rw [if_pos rfl, (av_nil _).2.1]
theorem zero_run {t : TypeId} (T : TabOk P E) {fs : List TypeId} (hT : E.tab t = .struct fs ∨ (∃ ik, E.tab t = .int ik) ∨ E.tab t = .bool ∨ ∃ e, E.tab t = .slice e) : (zeroValue t).run P w = .ok (zval (kind E.tab t)) w := by
  have ht := T t
  unfold TyOk at ht
  have : ∃ i, P.info? t = some i ∧ i.zero = some (zval (kind E.tab t)) := by
    rcases hT with e | ⟨ik, e⟩ | e | ⟨s, e⟩ <;> rw [e] at ht
    · obtain ⟨_, _, _, _, _, ⟨i, h1, _, _, h2⟩, _⟩ := ht; exact ⟨i, h1, h2⟩
    · obtain ⟨_, hk, i, h1, _, _, h2⟩ := ht; rw [hk]; exact ⟨i, h1, h2⟩
    · obtain ⟨_, hk, i, h1, _, _, h2⟩ := ht; rw [hk]; exact ⟨i, h1, h2⟩
    · obtain ⟨_, hk, ⟨i, h1, _, _, h2⟩, _⟩ := ht; rw [hk]; exact ⟨i, h1, h2⟩
  obtain ⟨i, h1, h2⟩ := this
  simp [zeroValue, typeInfo, h1, h2]
theorem op_box {x : Operand} {t : TypeId} (ho : o.op = .box t x) (h : (opP E gd o).run st Q) (hg : GOk gd) (hS : Sim S st g w a) (hb : inB S.n o.dst) : o.wp P a w (Good S Q) Qx := by
  unfold opP at h; rw [ho] at h
  simp only [] at h
  split at h
  · rename_i d hd
    obtain ⟨v, h1, h2⟩ := ev_run h hg hS
    obtain ⟨h3, h4⟩ := iff'_fail h2
    obtain ⟨h5, h6⟩ := andB_true.1 h3
    obtain ⟨g', s1, s2⟩ := hS.newBox (bid d) h5 (repV_toCells h1 h5) t
    have e : (a.eval x).cells.toList.toArray = (a.eval x).cells := by simp
    rw [e] at s1 s2
    refine wp_val (x := .pointer (some ⟨w.heap.size, 0, none⟩)) ?_ (w' := w.alloc (.cells (a.eval x).cells t)) (?_)
    · simp [execOp, ho, Instr.box, newVar, newRow]
    · rw [hd]
      exact ⟨_, g', h4, s1.put (hb d hd) s2⟩
  · exact h.elim
theorem alloc_ty {t : TypeId} (T : TabOk P E) (h : (match E.tab t with | .struct _ => true | .int _ => true | .bool => true | .slice _ => true | _ => false) = true) : (zeroValue t).run P w = .ok (zval (kind E.tab t)) w := by
  cases e : E.tab t with
  | struct fs => exact zero_run T (.inl e)
  | int ik => exact zero_run (fs := []) T (.inr (.inl ⟨ik, e⟩))
  | bool => exact zero_run (fs := []) T (.inr (.inr (.inl e)))
  | slice s => exact zero_run (fs := []) T (.inr (.inr (.inr ⟨s, e⟩)))
  | ptr => rw [e] at h; cases h
  | other => rw [e] at h; cases h
theorem op_alloc {t : TypeId} (T : TabOk P E) (ho : o.op = .alloc t) (h : (opP E gd o).run st Q) (hg : GOk gd) (hS : Sim S st g w a) (hb : inB S.n o.dst) : o.wp P a w (Good S Q) Qx := by
  unfold opP at h; rw [ho] at h
  simp only [] at h
  split at h
  · rename_i d hd
    obtain ⟨h0, h⟩ := iff'_fail h
    obtain ⟨z1, z2, z3⟩ := zero_rep (st := st) (g := g) (w := w) (kind E.tab t)
    obtain ⟨g', s1, s2⟩ := hS.newBox (bid d) z3 z1 t
    refine wp_val (x := .pointer (some ⟨w.heap.size, 0, none⟩)) ?_ (w' := w.alloc (.cells (zcells (kind E.tab t)).toArray t)) (?_)
    · have : (zval (kind E.tab t)).cells = (zcells (kind E.tab t)).toArray := by apply Array.ext'; simp [zval_cells]
      simp [execOp, ho, Instr.alloc, alloc_ty T h0, newVar, newRow, this]
    · rw [hd]
      exact ⟨_, g', h, s1.put (hb d hd) s2⟩
  · exact h.elim
end
end Go.Am
namespace Go.Am
section
variable {P : Program} {E : Env} {S : Start} {st : St} {g g' : Gh} {w w' : World} {a : Act} {Q : St → Prop} {gd : Gd} {o : Oper} {Qx : Exit → Act → World → Prop}
theorem plain_one {v : Value} (h : plain v) : v.oneCell' = true := by cases v <;> first | rfl | exact h.elim
theorem store_run {t : TypeId} (T : TabOk P E) (ht : (match E.tab t with | .other => false | _ => true) = true) {b : Nat} {A c B : List Value} {x : Value} (hb : Blk w b (A ++ c ++ B)) (hc : c.length = (kind E.tab t).sz)
    (hx : x.cells.toList.length = (kind E.tab t).sz) (hp : ∀ v ∈ x.cells.toList, plain v) :
    (Instr.storeAt t (.pointer (some ⟨b, A.length, none⟩)) x).run P w = .ok () (w.setRow b (A ++ x.cells.toList ++ B).toArray) := by
  obtain ⟨_, i, h1, h2⟩ := type_run T ht
  obtain ⟨e, hb⟩ := hb
  have h3 : x.cells.size = i.size := by rw [h2, ← hx]; simp
  simp only [Instr.storeAt, Instr.sureAddr, storeVar, Sem.run_bind, Sem.run_pure, Result.andThen_ok, sizeOf, typeInfo, run_program, h1, h3, ne_eq, not_true_eq_false, if_false]
  rw [run_storeCells_at (P := P) b A.length e x.cells.toList 0 _ w hb (by simp; simp at hx; omega) (fun v hv => plain_one (hp v hv))]
  congr 3
  have e1 : (A ++ c ++ B).toArray.toList = A ++ (c ++ B) := by simp
  rw [e1, Nat.add_zero, List.take_left' rfl, hx, ← hc]
  have : A.length + c.length = (A ++ c).length := by simp
  rw [this, ← List.append_assoc A c B, List.drop_left' rfl]
theorem likeK_like : ∀ {k : K} {u v : AV}, likeK k u = true → likeK k v = true → u.like v = true := by
  intro k
  induction k with
  | pair a b ia ib =>
    intro u v h h'
    cases u <;> simp only [likeK] at h <;> first | (cases h; done) | skip
    cases v <;> simp only [likeK] at h' <;> first | (cases h'; done) | skip
    exact andB_true.2 ⟨ia (andB_true.1 h).1 (andB_true.1 h').1, ib (andB_true.1 h).2 (andB_true.1 h').2⟩
  | _ =>
    intro u v h h'
    cases u <;> first | (simp [likeK] at h; done) | (cases v <;> first | rfl | (simp [likeK] at h'))
theorem like_updP : ∀ {p : Pth} {u v : AV}, u.okp p → (u.sub p).like v = true → u.like (u.upd p v) = true := by
  intro p
  induction p with
  | nil => intro u v _ h; rw [upd_nil]; rw [(av_nil u).1] at h; exact h
  | cons s p ih =>
    intro u v hp h
    obtain ⟨a, b, rfl, ⟨rfl, h1⟩ | ⟨rfl, h1⟩⟩ := okp_cons hp
    · exact andB_true.2 ⟨ih (u := a) h1 h, like_refl b⟩
    · exact andB_true.2 ⟨like_refl a, ih (u := b) h1 h⟩
theorem ok_of_upd : ∀ {p : Pth} {u v : AV}, u.okp p → (u.upd p v).ok = true → v.ok = true := by
  intro p
  induction p with
  | nil => intro u v _ h; rw [upd_nil] at h; exact h
  | cons s p ih =>
    intro u v hp h
    obtain ⟨a, b, rfl, ⟨rfl, h1⟩ | ⟨rfl, h1⟩⟩ := okp_cons hp
    · exact ih h1 (andB_true.1 h).1
    · exact ih h1 (andB_true.1 h).2
theorem exec_store {x y : Operand} {t : TypeId} (ho : o.op = .store t x y) {w' : World} (h : (Instr.storeAt t (a.eval x) (a.eval y)).run P w = .ok () w') : (execOp a.eval o).run P w = .ok .skip w' := by
  simp only [execOp, ho, Sem.run_bind, h, Result.andThen_ok, Sem.run_pure]
/-- Something without a result: its slot, if it has one, is not read any more. -/
theorem good_none {st' : St} {g' : Gh} {w' : World} (hS : Sim S st' g' w' a) (hq : Q st') (hd : o.dst = none) : Good S Q (a.put o.dst undef) w' := by
  rw [hd]; exact ⟨st', g', hq, hS⟩
/-- A value stored in a part of a box. -/
theorem box_store {x y : Operand} {t : TypeId} (T : TabOk P E) (ho : o.op = .store t x y) (hd : o.dst = none) (hS : Sim S st g w a) {b gen : Nat} {p : Pth} {u v : AV} (hu : (st.b b).c = some u) (hgen : gen = (st.b b).gen)
    (hro : (st.b b).ro = false) (hx : Rep st g w (.pb b gen p) [a.eval x]) (hy : RepV st g w v (a.eval y)) (hv : shape E t v = true) (hs : shape E t (u.sub p) = true) (hok : (u.upd p v).ok = true)
    (hq : Q (st.wb b { (st.b b) with c := some (u.upd p v) })) : o.wp P a w (Good S Q) Qx := by
  obtain ⟨_, _, hp⟩ := hx
  obtain ⟨r1, r2⟩ := hp u hu hgen
  have e1 := (List.cons.inj r2).1
  obtain ⟨b1, b2⟩ := hS.box b u hu
  rw [if_neg (by rw [hro]; simp)] at b2
  obtain ⟨b3, b4, cs, b5, b6⟩ := b2
  have vok := ok_of_upd r1 hok
  have hyc := repV_toCells hy vok
  obtain ⟨A, c, B, f1, f2, f3, f4⟩ := Rep.upd b1 b6 r1
  obtain ⟨ht, kv⟩ := shape_kind hv
  obtain ⟨_, ku⟩ := shape_kind hs
  obtain ⟨p1, p2⟩ := Rep.plain vok hyc
  rw [f1] at b5
  have hrun := store_run (P := P) T ht b5 (by rw [f3, (likeK_w ku).1]) (by rw [p1, (likeK_w kv).1]) p2
  have ea : a.eval x = .pointer (some ⟨(g.bx b).1, A.length, none⟩) := by rw [e1, b3, Nat.zero_add, f2]
  rw [← ea] at hrun
  refine wp_skp (exec_store ho hrun) ?_
  have key := hS.setBox (w' := w.setRow (g.bx b).1 (A ++ (a.eval y).cells.toList ++ B).toArray) (id := b) (bv := { (st.b b) with c := some (u.upd p v) }) (bs := []) (p := g.bx b)
    (fun d hd hn => setRow_other w _ _ (fun e => hn (by rw [e]; exact b4))) (fun d hd => by simp at hd)
    (.inr ⟨rfl, fun v' hv' => ⟨u, hu, by rw [← Option.some.inj hv']; exact like_updP r1 (likeK_like ku kv), rfl⟩⟩)
    (fun hrep => by
      intro v' hv'
      have : v' = u.upd p v := (Option.some.inj hv').symm
      subst this
      refine ⟨hok, ?_⟩
      show if (st.b b).ro = true then _ else _
      rw [if_neg (by rw [hro]; simp)]
      have hbx : ((g.own (2 * b + 3) []).setB b (g.bx b)).bx b = g.bx b := by simp [Gh.setB, Gh.own]
      have how : ((g.own (2 * b + 3) []).setB b (g.bx b)).ow (g.bx b).1 = some (2 * b + 3) := by simpa [Gh.setB, Gh.own] using b4
      rw [hbx]
      exact ⟨b3, how, _, setRow_blk b5 _, hrep _ _ (f4 v _ hyc)⟩)
    rfl rfl rfl (by rw [setRow_size]; exact Nat.le_refl _)
  exact good_none key.1 hq hd
theorem zipC_take_drop {k : K} (n : Nat) : ∀ (xs : List k.T) (ls : List k.L), zipC (hdr k) xs ls = zipC (hdr k) (xs.take n) (ls.take n) ++ zipC (hdr k) (xs.drop n) (ls.drop n) := by
  induction n with
  | zero => intro xs ls; simp [zipC]
  | succ n ih =>
    intro xs ls
    cases xs with
    | nil => simp [zipC]
    | cons x xs => cases ls with
      | nil => simp [zipC]
      | cons l ls => simp only [zipC, List.take_succ_cons, List.drop_succ_cons, List.append_assoc]; rw [ih]
theorem zipR_take_drop {k : K} (n : Nat) : ∀ (xs : List k.T) (ls : List k.L), zipR (rows k) xs ls = zipR (rows k) (xs.take n) (ls.take n) ++ zipR (rows k) (xs.drop n) (ls.drop n) := by
  induction n with
  | zero => intro xs ls; simp [zipR]
  | succ n ih =>
    intro xs ls
    cases xs with
    | nil => simp [zipR]
    | cons x xs => cases ls with
      | nil => simp [zipR]
      | cons l ls => simp only [zipR, List.take_succ_cons, List.drop_succ_cons, List.append_assoc]; rw [ih]
/-- The layout of what is left of a slice behind a cut at the front. -/
def cutL {k : K} (xs : List k.T) (l : (K.sl k).L) (lo : Nat) : (K.sl k).L :=
  if l.cap = lo then { l with post := zipC (hdr k) xs l.els ++ l.post, els := [], cap := 0 }
  else { l with pre := l.pre ++ zipC (hdr k) (xs.take lo) (l.els.take lo), els := l.els.drop lo, cap := l.cap - lo }
theorem cutL_hdr {k : K} {xs : List k.T} {l : (K.sl k).L} {lo : Nat} (hf : Fit (.sl k) xs l) (h : lo ≤ xs.length) :
    hdr (.sl k) (xs.drop lo) (cutL xs l lo) = [cutV (l.a.map fun b => ⟨b, l.pre.length, none⟩) l.cap k.sz lo xs.length] := by
  have hlen := allZ_length hf.1
  have hc : List.length xs ≤ l.cap := hf.2.1
  unfold cutL
  split
  · rename_i e
    have : xs.length = lo := by omega
    simp only [hdr, cutV, List.length_drop, this, e, if_true, Nat.sub_self]
  · rename_i e
    simp only [hdr, cutV, List.length_drop, e, if_false]
    congr 2
    cases l.a with
    | none => rfl
    | some b =>
      have : (zipC (hdr k) (xs.take lo) (l.els.take lo)).length = lo * k.sz := by
        rw [zipC_length _ _ (by rw [List.length_take, List.length_take, hlen]), List.length_take]
        congr 1; omega
      simp only [Option.map_some, List.length_append, this, add_none]
theorem cutL_fit {k : K} {xs : List k.T} {l : (K.sl k).L} {lo : Nat} (hf : Fit (.sl k) xs l) (h : lo ≤ xs.length) : Fit (.sl k) (xs.drop lo) (cutL xs l lo) := by
  have hlen := allZ_length hf.1
  have hc : List.length xs ≤ l.cap := hf.2.1
  unfold cutL
  split
  · rename_i e
    have e2 : xs.drop lo = [] := by apply List.drop_eq_nil_of_le; omega
    rw [e2]
    exact ⟨trivial, Nat.zero_le _, by simp, fun ha => ⟨rfl, (hf.2.2.2 ha).2⟩⟩
  · rename_i e
    refine ⟨allZ_drop lo hf.1, ?_, ?_, fun ha => ?_⟩
    · show (xs.drop lo).length ≤ l.cap - lo
      rw [List.length_drop]; omega
    · show (l.cap - lo - (xs.drop lo).length) * k.sz ≤ _
      rw [List.length_drop]
      have : l.cap - lo - (xs.length - lo) = l.cap - xs.length := by omega
      rw [this]; exact hf.2.2.1
    · have := (hf.2.2.2 ha).1
      omega
theorem cutL_rows {k : K} {xs : List k.T} {l : (K.sl k).L} {lo : Nat} (hf : Fit (.sl k) xs l) (h : lo ≤ xs.length) :
    ∃ A B, rows (.sl k) xs l = A ++ B ∧ rows (.sl k) (xs.drop lo) (cutL xs l lo) = A ++ B.drop (zipR (rows k) (xs.take lo) (l.els.take lo)).length := by
  refine ⟨row0 k xs l, zipR (rows k) xs l.els, rfl, ?_⟩
  have hlen := allZ_length hf.1
  have hc : List.length xs ≤ l.cap := hf.2.1
  rw [zipR_take_drop lo xs l.els, List.drop_left' rfl]
  unfold cutL
  split
  · rename_i e
    have e2 : xs.drop lo = [] := by apply List.drop_eq_nil_of_le; omega
    have e3 : l.els.drop lo = [] := by apply List.drop_eq_nil_of_le; omega
    rw [e2, e3]
    simp only [rows, zipR, List.append_nil, row0]
    cases l.a with
    | none => rfl
    | some b => simp [zipC]
  · rename_i e
    simp only [rows, row0]
    congr 1
    cases l.a with
    | none => rfl
    | some b => simp only; rw [zipC_take_drop lo xs l.els]; simp [List.append_assoc]
end
end Go.Am
namespace Go.Am
section
variable {P : Program} {E : Env} {S : Start} {st : St} {g g' : Gh} {w w' : World} {a : Act} {Q : St → Prop} {gd : Gd} {o : Oper} {Qx : Exit → Act → World → Prop}
theorem own_nil (g : Gh) (x : Nat) : g.own x [] = g := by simp [Gh.own]
theorem flatten_take_drop (n : Nat) (cs : List (List Value)) : cs.flatten = (cs.take n).flatten ++ (cs.drop n).flatten := by
  rw [← List.flatten_append, List.take_append_drop]
theorem flatten_length {sz : Nat} : ∀ (cs : List (List Value)), (∀ i, i < cs.length → (cs.getD i []).length = sz) → cs.flatten.length = cs.length * sz
  | [], _ => by simp
  | c :: cs, h => by
    have h0 : c.length = sz := by simpa using h 0 (by simp)
    have ih := flatten_length cs (fun i hi => by simpa using h (i + 1) (by simpa using hi))
    rw [List.flatten_cons, List.length_append, h0, ih, List.length_cons, Nat.add_mul]; omega
/-- A root's slice cut at its front. -/
theorem Sim.cutRoot (hS : Sim S st g w a) {r : Nat} {rc : RC} (hrc : (st.r r).c = some rc) (hh : (st.r r).hole = none) {lo : Nat} (hlo : lo ≤ rc.xs.length) {rv : RootV}
    (hrv : rv = { (st.r r) with gen := Nat.succ (st.r r).gen, c := some { rc with xs := rc.xs.drop lo } }) :
    ∃ g', Sim S (st.wr r rv) g' w a ∧ (∀ v cs, Rep st g w v cs → Rep (st.wr r rv) g' w v cs) ∧ (∀ v x, RepV st g w v x → RepV (st.wr r rv) g' w v x) ∧
      ∀ A n cap hc, hdr (.sl rc.k) rc.xs (g.lay r (.sl rc.k)) = [.slice A n cap] → hc ≤ (st.r r).hc → Rep (st.wr r rv) g' w (.rf r (Nat.succ (st.r r).gen) hc []) [cutV A cap rc.k.sz lo n] := by
  have hR := hS.root r rc hrc
  subst hrv
  by_cases hinn : rc.inn = true
  · rw [if_pos hinn] at hR
    obtain ⟨f1, f2, f3, f4⟩ := hR
    obtain ⟨A, B, e1, e2⟩ := cutL_rows f1 hlo
    have hsub : (rows (.sl rc.k) (rc.xs.drop lo) (cutL rc.xs (g.lay r (.sl rc.k)) lo)).Sublist (rows (.sl rc.k) rc.xs (g.lay r (.sl rc.k))) := by
      rw [e1, e2]; exact List.Sublist.append (List.Sublist.refl _) (List.drop_sublist ..)
    have key := hS.setRoot (w' := w) (R := []) Pool.nil (id := r) (rv := { (st.r r) with gen := Nat.succ (st.r r).gen, c := some { rc with xs := rc.xs.drop lo } }) (k := .sl rc.k) (l := cutL rc.xs (g.lay r (.sl rc.k)) lo) (bs := [])
      (fun b _ _ _ => rfl) (fun b hb => by simp at hb) (.inl (Nat.lt_succ_self _)) (fun rc' hrc' => by
        have e : rc' = { rc with xs := rc.xs.drop lo } := (Option.some.inj hrc').symm
        subst e
        rw [own_nil]
        show if rc.inn = true then _ else _
        rw [if_pos hinn]
        rw [show (g.setL r (.sl rc.k) (cutL rc.xs (g.lay r (.sl rc.k)) lo)).lay r (.sl rc.k) = _ from Gh.lay_same ..]
        refine ⟨cutL_fit f1 hlo, f2.sublist (hsub.map _), fun b c hb _ => f3 b c (hsub.subset hb) (by rw [hh]; exact fun h => h), fun h eh => ?_⟩
        have eh : (st.r r).hole = some h := eh
        rw [hh] at eh; cases eh)
      rfl rfl rfl (Nat.le_refl _)
    refine ⟨_, key.1, key.2.1, key.2.2, fun A n cap hc eh hle => ⟨⟨_, _, _, rfl⟩, ?_, fun rc' hv => ?_⟩⟩
    · rw [St.r_wr, if_pos rfl]; exact ⟨Nat.le_refl _, fun _ => hle⟩
    · have e : rc' = { rc with xs := rc.xs.drop lo } := by
        have := hv.1
        rw [St.r_wr, if_pos rfl] at this
        exact (Option.some.inj this).symm
      subst e
      refine ⟨trivial, ⟨_, rfl⟩, ?_⟩
      have h1 := cutL_hdr f1 hlo
      have h2 : hdr (.sl rc.k) rc.xs (g.lay r (.sl rc.k)) = [.slice ((g.lay r (.sl rc.k)).a.map fun b => ⟨b, (g.lay r (.sl rc.k)).pre.length, none⟩) rc.xs.length (g.lay r (.sl rc.k)).cap] := rfl
      rw [h2] at eh
      have e3 := (List.cons.inj eh).1
      injection e3 with e4 e5 e6
      rw [← e4, ← e5, ← e6, ← h1, own_nil]
      show _ = hdr (.sl rc.k) _ ((g.setL r (.sl rc.k) (cutL rc.xs (g.lay r (.sl rc.k)) lo)).lay r (.sl rc.k))
      rw [Gh.lay_same]; rfl
  · rw [if_neg hinn] at hR
    obtain ⟨f1, f2, f3, f4⟩ := hR
    have hx : ∃ front body : List Value, (∀ b, (g.lay r (.sl rc.k)).a = some b → g.ow b = some (2 * r) ∧ ∃ cs : List (List Value), cs.length = List.length rc.xs ∧ Blk w b ((g.lay r (.sl rc.k)).pre ++ cs.flatten ++ (g.lay r (.sl rc.k)).post) ∧
        ((g.lay r (.sl rc.k)).cap - List.length rc.xs) * rc.k.sz ≤ (g.lay r (.sl rc.k)).post.length ∧ body = cs.flatten ∧ front = (cs.take lo).flatten ∧ front.length = lo * rc.k.sz ∧
        ∀ i, i < List.length rc.xs → RV (g.U w) w rc.k (List.getD rc.xs i rc.k.d) (cs.getD i [])) := by
      cases ha : (g.lay r (.sl rc.k)).a with
      | none => exact ⟨[], [], fun b hb => by cases hb⟩
      | some b =>
        obtain ⟨h1, cs, h2, h3, h4, h5⟩ := f4 b ha
        refine ⟨(cs.take lo).flatten, cs.flatten, fun b' hb' => ?_⟩
        have : b = b' := Option.some.inj hb'
        subst this
        refine ⟨h1, cs, h2, h3, h4, rfl, rfl, ?_, h5⟩
        rw [flatten_length (sz := rc.k.sz) (cs.take lo) (fun i hi => ?_), List.length_take, h2]
        · congr 1; omega
        · rw [List.length_take] at hi
          have : (cs.take lo).getD i [] = cs.getD i [] := by
            simp only [List.getD_eq_getElem?_getD, List.getElem?_take]
            rw [if_pos (by omega)]
          rw [this]; exact (h5 i (by omega)).length
    obtain ⟨front, body, f5⟩ := hx
    let l' : (K.sl rc.k).L := if (g.lay r (.sl rc.k)).cap = lo then { (g.lay r (.sl rc.k)) with post := body ++ (g.lay r (.sl rc.k)).post, cap := 0 } else { (g.lay r (.sl rc.k)) with pre := (g.lay r (.sl rc.k)).pre ++ front, cap := (g.lay r (.sl rc.k)).cap - lo }
    have hl' : l' = if (g.lay r (.sl rc.k)).cap = lo then { (g.lay r (.sl rc.k)) with post := body ++ (g.lay r (.sl rc.k)).post, cap := 0 } else { (g.lay r (.sl rc.k)) with pre := (g.lay r (.sl rc.k)).pre ++ front, cap := (g.lay r (.sl rc.k)).cap - lo } := rfl
    have key := hS.setRoot (w' := w) (R := []) Pool.nil (id := r) (rv := { (st.r r) with gen := Nat.succ (st.r r).gen, c := some { rc with xs := rc.xs.drop lo } }) (k := .sl rc.k) (l := l') (bs := [])
      (fun b _ _ _ => rfl) (fun b hb => by simp at hb) (.inl (Nat.lt_succ_self _)) (fun rc' hrc' => by
        have e : rc' = { rc with xs := rc.xs.drop lo } := (Option.some.inj hrc').symm
        subst e
        rw [own_nil]
        show if rc.inn = true then _ else _
        rw [if_neg hinn]
        rw [show (g.setL r (.sl rc.k) l').lay r (.sl rc.k) = _ from Gh.lay_same ..]
        have hlen : (rc.xs.drop lo).length = rc.xs.length - lo := List.length_drop ..
        by_cases hcap : (g.lay r (.sl rc.k)).cap = lo
        · rw [if_pos hcap] at hl'
          have e2 : rc.xs.drop lo = [] := by apply List.drop_eq_nil_of_le; omega
          rw [hl']
          refine ⟨hh, by show List.length (rc.xs.drop lo) ≤ 0; rw [e2]; exact Nat.le_refl 0, fun _ => rfl, fun b hb => ?_⟩
          obtain ⟨h1, cs, h2, h3, h4, h5, _⟩ := f5 b hb
          refine ⟨h1, [], by show _ = List.length (rc.xs.drop lo); rw [e2]; rfl, by rw [h5]; simpa [List.append_assoc] using h3, by simp, fun i hi => ?_⟩
          have hi : i < List.length (rc.xs.drop lo) := hi
          rw [e2] at hi; simp at hi
        · rw [if_neg hcap] at hl'
          rw [hl']
          refine ⟨hh, by show List.length (rc.xs.drop lo) ≤ _; rw [hlen]; show _ ≤ (g.lay r (.sl rc.k)).cap - lo; omega, fun ha => ?_, fun b hb => ?_⟩
          · have := f3 ha
            show (g.lay r (.sl rc.k)).cap - lo = 0
            omega
          · obtain ⟨h1, cs, h2, h3, h4, h5, h6, h7, h8⟩ := f5 b hb
            refine ⟨h1, cs.drop lo, by show _ = List.length (rc.xs.drop lo); rw [hlen, List.length_drop, h2], ?_, ?_, fun i hi => ?_⟩
            · show Blk w b (((g.lay r (.sl rc.k)).pre ++ front) ++ (cs.drop lo).flatten ++ _)
              rw [h6, List.append_assoc (g.lay r (.sl rc.k)).pre, ← flatten_take_drop]; exact h3
            · show ((g.lay r (.sl rc.k)).cap - lo - List.length (rc.xs.drop lo)) * _ ≤ _
              rw [hlen]
              have : (g.lay r (.sl rc.k)).cap - lo - (rc.xs.length - lo) = (g.lay r (.sl rc.k)).cap - rc.xs.length := by omega
              rw [this]; exact h4
            · have hi : i < List.length (rc.xs.drop lo) := hi
              rw [hlen] at hi
              have e3 : List.getD (rc.xs.drop lo) i rc.k.d = List.getD rc.xs (lo + i) rc.k.d := by simp [List.getD_eq_getElem?_getD]
              have e4 : (cs.drop lo).getD i [] = cs.getD (lo + i) [] := by simp [List.getD_eq_getElem?_getD]
              show RV _ w rc.k (List.getD (rc.xs.drop lo) i rc.k.d) _
              rw [e3, e4]
              exact h8 (lo + i) (by omega))
      rfl rfl rfl (Nat.le_refl _)
    refine ⟨_, key.1, key.2.1, key.2.2, fun A n cap hc eh hle => ⟨⟨_, _, _, rfl⟩, ?_, fun rc' hv => ?_⟩⟩
    · rw [St.r_wr, if_pos rfl]; exact ⟨Nat.le_refl _, fun _ => hle⟩
    · have e : rc' = { rc with xs := rc.xs.drop lo } := by
        have := hv.1
        rw [St.r_wr, if_pos rfl] at this
        exact (Option.some.inj this).symm
      subst e
      refine ⟨trivial, ⟨_, rfl⟩, ?_⟩
      have h2 : hdr (.sl rc.k) rc.xs (g.lay r (.sl rc.k)) = [.slice ((g.lay r (.sl rc.k)).a.map fun b => ⟨b, (g.lay r (.sl rc.k)).pre.length, none⟩) rc.xs.length (g.lay r (.sl rc.k)).cap] := rfl
      rw [h2] at eh
      have e3 := (List.cons.inj eh).1
      injection e3 with e4 e5 e6
      rw [← e4, ← e5, ← e6, own_nil]
      show _ = hdr (.sl rc.k) (rc.xs.drop lo) ((g.setL r (.sl rc.k) l').lay r (.sl rc.k))
      rw [Gh.lay_same]
      simp only [hdr, cutV, List.length_drop]
      by_cases hcap : (g.lay r (.sl rc.k)).cap = lo
      · rw [if_pos hcap] at hl'
        rw [hl', if_pos hcap, hcap, Nat.sub_self]
      · rw [if_neg hcap] at hl'
        rw [hl', if_neg hcap]
        congr 2
        cases ha : (g.lay r (.sl rc.k)).a with
        | none => rfl
        | some b =>
          obtain ⟨_, cs, _, _, _, _, _, h7, _⟩ := f5 b ha
          simp only [Option.map_some, List.length_append, h7, add_none]
theorem op_storeB {x y : Operand} {t : TypeId} (T : TabOk P E) (ho : o.op = .store t x y) (hd : o.dst = none) (hS : Sim S st g w a) {b gen : Nat} {p : Pth} {v : AV}
    (hx : RepV st g w (.pb b gen p) (a.eval x)) (hy : RepV st g w v (a.eval y)) (h : (storeB E t b gen p v).run st Q) : o.wp P a w (Good S Q) Qx := by
  unfold storeB at h
  simp only [Prog.run] at h
  split at h
  · exact h.elim
  · rename_i u hu
    obtain ⟨h1, h2⟩ := iff'_fail h
    obtain ⟨h3, h4⟩ := andB_true.1 h1
    obtain ⟨h5, h6⟩ := andB_true.1 h3
    obtain ⟨h7, h8⟩ := andB_true.1 h4
    have hgen := Nat.eq_of_beq_eq_true h5
    have hro := notB_true.1 h6
    have hx : Rep st g w (.pb b gen p) [a.eval x] := hx
    split at h2
    · rename_i r rg hc lo hi
      simp only [Prog.run] at h2
      obtain ⟨rc, g1, g2, g3, ⟨g4, g5⟩⟩ := live_run h2
      simp only [Prog.run] at g5
      obtain ⟨g6, g7⟩ := iff'_fail g5
      obtain ⟨_, hle, hv⟩ := (show Rep st g w (.cut r rg hc [] lo hi) [_] from hy)
      obtain ⟨_, k', ek, q1, q2, A, n, cap, q3, q4⟩ := hv rc ⟨g1, g2, .inl (by simp [ix])⟩
      have ek' : k' = rc.k := by cases ek; rfl
      subst ek'
      obtain ⟨g', s1, s2, s3, s4⟩ := hS.cutRoot g1 g3 (lo := lo) (by omega) rfl
      have hn : n = rc.xs.length := by
        have q3 : [Value.slice _ (List.length rc.xs) _] = [Value.slice A n cap] := q3
        have := (List.cons.inj q3).1
        injection this with _ e _
        exact e.symm
      have hr := s4 A n cap hc q3 (hle.2 g2)
      rw [hn, ← g4, ← (List.cons.inj q4).1] at hr
      exact box_store T ho hd s1 (u := u) (v := .rf r (Nat.succ (st.r r).gen) hc []) hu hgen hro (s2 _ _ hx) hr (by
        have := shape_kind h7
        unfold shape at h7 ⊢
        split <;> simp_all <;> (revert h7; cases kind E.tab t <;> simp [likeK])) h8 g6 g7
    · obtain ⟨g6, g7⟩ := iff'_fail h2
      exact box_store T ho hd hS hu hgen hro hx hy h7 h8 g6 g7
end
end Go.Am
namespace Go.Am
theorem set_get1 : ∀ {k : K} {q : Stp} (l : k.L), k.setL1 q l (k.getL1 q l) = l
  | .pair _ _, .f, _ => rfl
  | .pair _ _, .sn, _ => rfl
  | .pair _ _, .i _, _ => rfl
  | .sl k, .i n, l => by
    have : List.set l.els n (List.getD l.els n k.dl) = l.els := by
      apply List.ext_getElem?
      intro i
      rw [List.getElem?_set]
      split
      · rename_i e
        subst e
        split
        · rename_i h; simp [List.getD_eq_getElem?_getD, List.getElem?_eq_getElem h]
        · rename_i h; rw [List.getElem?_eq_none (by omega)]
      · rfl
    show ({ l with els := List.set l.els n (List.getD l.els n k.dl) } : SL k.L) = l
    rw [this]
  | .sl _, .f, _ => rfl
  | .sl _, .sn, _ => rfl
  | .int _, .f, _ => rfl
  | .int _, .sn, _ => rfl
  | .int _, .i _, _ => rfl
  | .bool, .f, _ => rfl
  | .bool, .sn, _ => rfl
  | .bool, .i _, _ => rfl
theorem set_getL {k : K} : ∀ (p : Pth) (l : k.L), k.setL p l (k.getL p l) = l := by
  intro p
  induction p generalizing k with
  | nil => exact fun _ => rfl
  | cons q p ih =>
    intro l
    show k.setL1 q l ((k.st q).setL p (k.getL1 q l) ((k.st q).getL p (k.getL1 q l))) = l
    rw [ih, set_get1]
theorem top_setL {k : K} {p : Pth} {xs : (K.sl k).T} (l : (K.sl k).L) (m : ((K.sl k).at p).L) (h0 : 0 < ix p) (hp : Okp (.sl k) p xs) :
    (l : SL k.L).a = ((K.sl k).setL p l m : SL k.L).a ∧ (l : SL k.L).pre.length = ((K.sl k).setL p l m : SL k.L).pre.length ∧ (l : SL k.L).cap = ((K.sl k).setL p l m : SL k.L).cap := by
  cases p with
  | nil => simp [ix] at h0
  | cons q p => cases q with
    | i n => exact ⟨rfl, rfl, rfl⟩
    | f => exact hp.1.elim
    | sn => exact hp.1.elim
theorem top_set {k : K} {p : Pth} {xs : (K.sl k).T} (y : ((K.sl k).at p).T) (h0 : 0 < ix p) (hp : Okp (.sl k) p xs) : List.length xs = List.length ((K.sl k).set p xs y : List k.T) := by
  cases p with
  | nil => simp [ix] at h0
  | cons q p => cases q with
    | i n => exact (List.length_set ..).symm
    | f => exact hp.1.elim
    | sn => exact hp.1.elim
section
variable {P : Program} {E : Env} {S : Start} {st : St} {g g' : Gh} {w w' : World} {a : Act} {Q : St → Prop} {gd : Gd} {o : Oper} {Qx : Exit → Act → World → Prop}
/-- What a store into an owned root must know, and what it brings about. -/
theorem Sim.putRoot (hS : Sim S st g w a) {r : Nat} {rc : RC} (hrc : (st.r r).c = some rc) (hinn : rc.inn = true) {p : Pth} (hp : Okp (.sl rc.k) p rc.xs) (h0 : 0 < ix p) (hh : (st.r r).hole = none ∨ (st.r r).hole = some p)
    {y : ((K.sl rc.k).at p).T} {m : ((K.sl rc.k).at p).L} (hf : Fit _ y m) (hP : Pool st g w (rows _ y m)) {hc : Nat} (hhc : (st.r r).hc ≤ hc)
    (hflat : hc = (st.r r).hc → Shp ((K.sl rc.k).at p) ((K.sl rc.k).get p rc.xs) y ∧ m = (K.sl rc.k).getL p (g.lay r (.sl rc.k))) {rv : RootV}
    (hrv : rv = { (st.r r) with hc := hc, hole := none, c := some { rc with xs := (K.sl rc.k).set p rc.xs y } }) :
    ∃ b A c B, ad (.sl rc.k) p (g.lay r (.sl rc.k)) none = some (b, A.length) ∧ c.length = ((K.sl rc.k).at p).sz ∧ Blk w b (A ++ c ++ B) ∧
      ∃ g', Sim S (st.wr r rv) g' (w.setRow b (A ++ hdr _ y m ++ B).toArray) a ∧ (∀ v cs, Rep st g w v cs → Rep (st.wr r rv) g' (w.setRow b (A ++ hdr _ y m ++ B).toArray) v cs) := by
  have hR := hS.root r rc hrc
  rw [if_pos hinn] at hR
  obtain ⟨f1, f2, f3, f4⟩ := hR
  obtain ⟨A, b, c1, c2, R, B, d1, d2, d3⟩ := rows_deep f1 hp h0 none
  rw [d1] at f2 f3
  have ng : ∀ b', (b' ∈ A.map Prod.fst ∨ b' = b ∨ b' ∈ R.map Prod.fst ∨ b' ∈ B.map Prod.fst) → ¬ gone rc (g.lay r (.sl rc.k)) (st.r r).hole b' := by
    intro b' hb' hg
    rcases hh with hh | hh
    · rw [hh] at hg; exact hg
    · rw [hh] at hg
      have hg : b' ∈ (rows _ ((K.sl rc.k).get p rc.xs) ((K.sl rc.k).getL p (g.lay r (.sl rc.k)))).map Prod.fst := hg
      simp only [List.map_append, List.map_cons, List.nodup_append, List.nodup_cons, List.mem_append, List.mem_cons] at f2
      obtain ⟨_, ⟨n1, ⟨_, n2, n3⟩, n4, n5⟩, n6⟩ := f2
      rcases hb' with h | h | h | h
      · exact n6 _ h _ (.inr (.inl (.inr hg))) rfl
      · subst h; exact n1 (.inl (.inr hg))
      · exact n3 _ h _ hg rfl
      · exact n5 _ (.inr hg) _ h rfl
  have own : ∀ b' c', (b', c') ∈ A ∨ (b', c') ∈ R ∨ (b', c') ∈ B → g.ow b' = some (2 * r) ∧ Blk w b' c' ∧ b' ≠ b := by
    intro b' c' h
    have hm : b' ∈ A.map Prod.fst ∨ b' ∈ R.map Prod.fst ∨ b' ∈ B.map Prod.fst := h.imp (List.mem_map_of_mem (f := Prod.fst)) (Or.imp (List.mem_map_of_mem (f := Prod.fst)) (List.mem_map_of_mem (f := Prod.fst)))
    obtain ⟨h1, h2⟩ := f3 b' c' (by rcases h with h | h | h <;> simp [h]) (ng b' (by rcases hm with h | h | h <;> simp only [h, true_or, or_true]))
    refine ⟨h1, h2, ?_⟩
    rintro rfl
    simp only [List.map_append, List.map_cons, List.nodup_append, List.nodup_cons, List.mem_append, List.mem_cons] at f2
    obtain ⟨_, ⟨n1, _⟩, n6⟩ := f2
    rcases hm with h | h | h
    · exact n6 _ h _ (.inl rfl) rfl
    · exact n1 (.inl (.inl h))
    · exact n1 (.inr h)
  obtain ⟨ob, hblk⟩ := f3 b (c1 ++ hdr _ ((K.sl rc.k).get p rc.xs) ((K.sl rc.k).getL p (g.lay r (.sl rc.k))) ++ c2) (List.mem_append_right _ (List.mem_cons_self ..)) (ng b (.inr (.inl rfl)))
  have pool : ∀ b' c', (b', c') ∈ rows _ y m → Blk w b' c' ∧ b' ≠ b ∧ g.ow b' ≠ some (2 * r) := by
    intro b' c' h
    obtain ⟨h1, r', h2, h3⟩ := hP.row b' c' h
    have hne : g.ow b' ≠ some (2 * r) := by
      rw [h2]; intro e
      have : r' = r := by have := Option.some.inj e; omega
      subst this; rw [hrc] at h3; cases h3
    exact ⟨h1, fun e => hne (by rw [e]; exact ob), hne⟩
  subst hrv
  refine ⟨b, c1, hdr _ ((K.sl rc.k).get p rc.xs) ((K.sl rc.k).getL p (g.lay r (.sl rc.k))), c2, d2, hdr_length _ _ _, hblk, ?_⟩
  have key := hS.setRoot (w' := w.setRow b (c1 ++ hdr _ y m ++ c2).toArray) hP (id := r) (rv := { (st.r r) with hc := hc, hole := none, c := some { rc with xs := (K.sl rc.k).set p rc.xs y } })
    (k := .sl rc.k) (l := (K.sl rc.k).setL p (g.lay r (.sl rc.k)) m) (bs := (rows _ y m).map Prod.fst)
    (fun d _ _ hn => setRow_other w _ _ (fun e => hn (by rw [e]; exact ob)))
    (fun d hd => ⟨.inl hd, by
      obtain ⟨⟨d', c'⟩, hm, e⟩ := List.mem_map.1 hd
      have e : d' = d := e
      subst e
      rw [setRow_size]; exact (hP.row _ _ hm).1.lt⟩)
    (.inr ⟨rfl, hhc, fun rc' hrc' => by
      have e : rc' = { rc with xs := (K.sl rc.k).set p rc.xs y } := (Option.some.inj hrc').symm
      subst e
      have hl : ((g.own (2 * r) ((rows _ y m).map Prod.fst)).setL r (.sl rc.k) ((K.sl rc.k).setL p (g.lay r (.sl rc.k)) m)).lay r (.sl rc.k) = (K.sl rc.k).setL p (g.lay r (.sl rc.k)) m := Gh.lay_same ..
      obtain ⟨t1, t2, t3⟩ := top_setL (g.lay r (.sl rc.k)) m h0 hp
      refine ⟨rc.xs, rc.inn, hrc, id, top_set y h0 hp, ?_, ?_, ?_, fun e _ => ?_⟩
      · exact t1.trans (congrArg SL.a hl).symm
      · exact t2.trans (congrArg (fun l : SL rc.k.L => l.pre.length) hl).symm
      · exact t3.trans (congrArg SL.cap hl).symm
      · obtain ⟨q1, q2⟩ := hflat e.symm
        refine ⟨Shp.set hp q1, ?_⟩
        have : (K.sl rc.k).setL p (g.lay r (.sl rc.k)) m = g.lay r (.sl rc.k) := by rw [q2, set_getL]
        exact (hl.trans this).symm⟩)
    (fun rc' hrc' => by
      have e : rc' = { rc with xs := (K.sl rc.k).set p rc.xs y } := (Option.some.inj hrc').symm
      subst e
      show if rc.inn = true then _ else _
      rw [if_pos hinn]
      rw [show ((g.own (2 * r) ((rows _ y m).map Prod.fst)).setL r (.sl rc.k) ((K.sl rc.k).setL p (g.lay r (.sl rc.k)) m)).lay r (.sl rc.k) = _ from Gh.lay_same ..]
      refine ⟨Fit_set f1 hp hf, ?_, fun b' c' hb _ => ?_, fun h eh => by cases eh⟩
      · show ((rows (.sl rc.k) ((K.sl rc.k).set p rc.xs y) ((K.sl rc.k).setL p (g.lay r (.sl rc.k)) m)).map Prod.fst).Nodup
        rw [d3 y m]
        have pm : ∀ b', b' ∈ (rows _ y m).map Prod.fst → b' ≠ b ∧ g.ow b' ≠ some (2 * r) := by
          intro b' hb
          obtain ⟨⟨d', c'⟩, hm, e⟩ := List.mem_map.1 hb
          have e : d' = b' := e
          subst e
          exact (pool _ _ hm).2
        have om : ∀ b', b' ∈ A.map Prod.fst ∨ b' ∈ R.map Prod.fst ∨ b' ∈ B.map Prod.fst → g.ow b' = some (2 * r) := by
          intro b' hb
          rcases hb with hb | hb | hb
          all_goals
            obtain ⟨⟨d', c'⟩, hm, e⟩ := List.mem_map.1 hb
            have e : d' = b' := e
            subst e
          · exact (own _ c' (.inl hm)).1
          · exact (own _ c' (.inr (.inl hm))).1
          · exact (own _ c' (.inr (.inr hm))).1
        simp only [List.map_append, List.map_cons, List.nodup_append, List.nodup_cons, List.mem_append, List.mem_cons] at f2 ⊢
        obtain ⟨n0, ⟨n1, ⟨nR, nM, nRM⟩, nB, nRMB⟩, n6⟩ := f2
        refine ⟨n0, ⟨?_, ⟨nR, hP.nodup, ?_⟩, nB, ?_⟩, ?_⟩
        · rintro ((h | h) | h)
          · exact n1 (.inl (.inl h))
          · exact (pm _ h).1 rfl
          · exact n1 (.inr h)
        · rintro x hx z hz rfl
          exact (pm _ hz).2 (om _ (.inr (.inl hx)))
        · rintro x (hx | hx) z hz
          · exact nRMB x (.inl hx) z hz
          · rintro rfl
            exact (pm _ hx).2 (om _ (.inr (.inr hz)))
        · rintro x hx z (hz | ((hz | hz) | hz))
          · exact n6 x hx z (.inl hz)
          · exact n6 x hx z (.inr (.inl (.inl hz)))
          · rintro rfl
            exact (pm _ hz).2 (om _ (.inl hx))
          · exact n6 x hx z (.inr (.inr hz))
      · have hb : (b', c') ∈ rows (.sl rc.k) ((K.sl rc.k).set p rc.xs y) ((K.sl rc.k).setL p (g.lay r (.sl rc.k)) m) := hb
        rw [d3 y m] at hb
        have keepO : ∀ {d c'}, g.ow d = some (2 * r) → Blk w d c' → d ≠ b → ((g.own (2 * r) ((rows _ y m).map Prod.fst)).setL r (.sl rc.k) ((K.sl rc.k).setL p (g.lay r (.sl rc.k)) m)).ow d = some (2 * r) ∧ Blk (w.setRow b (c1 ++ hdr _ y m ++ c2).toArray) d c' := by
          intro d c' h1 h2 h3
          refine ⟨?_, h2.same (setRow_other w _ _ h3)⟩
          show (if d ∈ _ then _ else _) = _
          split
          · rfl
          · exact h1
        rcases List.mem_append.1 hb with hb | hb
        · obtain ⟨h1, h2, h3⟩ := own b' c' (.inl hb)
          exact keepO h1 h2 h3
        · rcases List.mem_cons.1 hb with hb | hb
          · obtain ⟨rfl, rfl⟩ := Prod.mk.inj hb
            refine ⟨?_, setRow_blk hblk _⟩
            show (if b' ∈ _ then _ else _) = _
            split
            · rfl
            · exact ob
          · rcases List.mem_append.1 hb with hb | hb
            · rcases List.mem_append.1 hb with hb | hb
              · obtain ⟨h1, h2, h3⟩ := own b' c' (.inr (.inl hb))
                exact keepO h1 h2 h3
              · obtain ⟨h1, h2, _⟩ := pool b' c' hb
                refine ⟨?_, h1.same (setRow_other w _ _ h2)⟩
                show (if b' ∈ _ then _ else _) = _
                rw [if_pos (List.mem_map_of_mem (f := Prod.fst) hb)]
            · obtain ⟨h1, h2, h3⟩ := own b' c' (.inr (.inr hb))
              exact keepO h1 h2 h3)
    rfl rfl rfl (by rw [setRow_size]; exact Nat.le_refl _)
  exact ⟨_, key.1, key.2.1⟩
end
end Go.Am
