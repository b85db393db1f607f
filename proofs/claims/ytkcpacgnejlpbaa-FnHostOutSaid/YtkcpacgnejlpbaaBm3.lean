/-
  An abstract machine over the code of the model: its steps are sound for every program whose types fit the table; no condition beside.
-/
import Derived.Test.YtkcpacgnejlpbaaBm2
import Derived.Deep.Slices
import Derived.ProofKit
set_option linter.all false
set_option maxHeartbeats 0
namespace Go.Am
def ownRootsL (st : St) : List Pat → List AV → List Nat
  | p :: ps, v :: vs => ownRoots st p v ++ ownRootsL st ps vs
  | _, _ => []
def ownBoxesL (st : St) : List Pat → List AV → List Nat
  | p :: ps, v :: vs => ownBoxes st p v ++ ownBoxesL st ps vs
  | _, _ => []
def roBoxesL : List Pat → List AV → List Nat
  | p :: ps, v :: vs => roBoxes p v ++ roBoxesL ps vs
  | _, _ => []
def takeRootsL : List Pat → List AV → List Nat
  | p :: ps, v :: vs => takeRoots p v ++ takeRootsL ps vs
  | _, _ => []
def nslL : List RI → Nat
  | [] => 0
  | d :: ds => d.k.nsl + nslL ds
def nbL : List Pat → Nat
  | [] => 0
  | p :: ps => p.nb + nbL ps
def rootsL : List RI → Nat → List (Nat × RootV)
  | [], _ => []
  | d :: ds, j => (iniO d.k d.x j).2.1 ++ rootsL ds (j + d.k.nsl)
def Plcs (g : Gh) : List RI → Nat → Prop
  | [], _ => True
  | d :: ds, j => Plc g d.k d.x d.l j ∧ Plcs g ds (j + d.k.nsl)
def HasRs (st : St) : List RI → Nat → Prop
  | [], _ => True
  | d :: ds, j => HasR st d.k d.x j ∧ HasRs st ds (j + d.k.nsl)
def rowsL : List RI → List (Nat × List Value)
  | [] => []
  | d :: ds => rows d.k d.x d.l ++ rowsL ds
def rowsT : List Pat → List RI → List (Nat × List Value)
  | .take _ :: ps, d :: ds => rows d.k d.x d.l ++ rowsT ps ds
  | _ :: ps, _ :: ds => rowsT ps ds
  | _, _ => []
def BackOks (st : St) (g : Gh) : List Pat → List AV → List RI → Prop
  | [], [], [] => True
  | p :: ps, v :: vs, d :: ds => BackOk st g p v d ∧ BackOks st g ps vs ds
  | _, _, _ => False
def BoxLinks (st : St) (g g0 : Gh) : List Pat → List AV → Nat → Prop
  | p :: ps, v :: vs, nb => BoxLink st g g0 p v nb ∧ BoxLinks st g g0 ps vs (nb + p.nb)
  | _, _, _ => True
section
variable {P : Program} {E : Env} {S : Start} {st st1 st' : St} {g g' : Gh} {w w' : World} {a : Act} {Q : St → Prop} {gd : Gd} {o : Oper} {Qx : Exit → Act → World → Prop}
theorem Place.back (h : ∀ r, st1.r r = st.r r ∨ (st1.r r).c = none) {r : Nat} {p : Pth} {k : K} {x : k.T} {l : k.L} (hp : Place st1 g r p k x l) : st1.r r = st.r r ∧ Place st g r p k x l := by
  obtain ⟨rc, h1, h2⟩ := hp
  have e : st1.r r = st.r r := by
    rcases h r with e | e
    · exact e
    · rw [h1] at e; cases e
  rw [e] at h1 h2
  exact ⟨e, rc, h1, h2⟩
theorem OwnA.back (h : ∀ r, st1.r r = st.r r ∨ (st1.r r).c = none) : ∀ {k : K} {v : AV} {x : k.T} {l : k.L}, OwnA st1 g k v x l → OwnA st g k v x l
  | .int _, _, _, _, _ => trivial
  | .bool, _, _, _, _ => trivial
  | .pair _ _, _, _, _, ⟨u, t, e, h1, h2⟩ => ⟨u, t, e, h1.back h, h2.back h⟩
  | .sl _, _, _, _, ⟨r, gen, hc, p, e, h1, h2, h3⟩ => by
    obtain ⟨k1, k2⟩ := h3.back h
    rw [k1] at h1 h2
    exact ⟨r, gen, hc, p, e, h1, h2, k2⟩
theorem BackOk.back (h : ∀ r, st1.r r = st.r r ∨ (st1.r r).c = none) (hb : st1.boxes = st.boxes) {p : Pat} {v : AV} {d : RI} (hk : BackOk st1 g p v d) : BackOk st g p v d := by
  cases p with
  | q q => exact hk
  | take k => exact hk
  | own k => obtain ⟨x, l, e, h1⟩ := hk; exact ⟨x, l, e, h1.back h⟩
  | ro k =>
    rcases hk with ⟨r, gen, hc, p, x, l, e1, e2, h1, h2⟩ | ⟨b, gen, u, x, l, e1, h1, e2, h2⟩
    · exact .inl ⟨r, gen, hc, p, x, l, e1, e2, (h1.back h).2, h2⟩
    · rw [used_b hb] at h1
      exact .inr ⟨b, gen, u, x, l, e1, h1, e2, h2.back h⟩
  | box own k =>
    obtain ⟨b, gen, u, e1, h1, h2, h3, h4, h5, h6⟩ := hk
    rw [used_b hb] at h1 h2 h3
    refine ⟨b, gen, u, e1, h1, h2, h3, h4, fun ho => ?_, h6⟩
    obtain ⟨x, l, e, h7⟩ := h5 ho
    exact ⟨x, l, e, h7.back h⟩
  | bp k =>
    obtain ⟨b, gen, b2, gen2, u, x, l, e1, h1, h2, h3, h4, e2, h5⟩ := hk
    rw [used_b hb] at h1 h2 h3
    exact ⟨b, gen, b2, gen2, u, x, l, e1, h1, h2, h3, h4, e2, h5.back h⟩
theorem BackOks.back (h : ∀ r, st1.r r = st.r r ∨ (st1.r r).c = none) (hb : st1.boxes = st.boxes) : ∀ {ps : List Pat} {vs : List AV} {ds : List RI}, BackOks st1 g ps vs ds → BackOks st g ps vs ds
  | [], [], [], _ => trivial
  | _ :: _, _ :: _, _ :: _, hk => ⟨hk.1.back h hb, hk.2.back h hb⟩
  | [], [], _ :: _, hk => hk.elim
  | [], _ :: _, _, hk => hk.elim
  | _ :: _, [], _, hk => hk.elim
  | _ :: _, _ :: _, [], hk => hk.elim
theorem ownRootsL_same (hb : st1.boxes = st.boxes) : ∀ (ps : List Pat) (vs : List AV), ownRootsL st1 ps vs = ownRootsL st ps vs
  | [], [] => rfl
  | [], _ :: _ => rfl
  | _ :: _, [] => rfl
  | p :: ps, v :: vs => by
    have : ownRoots st1 p v = ownRoots st p v := by
      cases p with
      | box own k =>
        cases own
        · rfl
        · cases v <;> first | rfl | simp only [ownRoots, used_b hb]
      | ro k => cases v <;> first | rfl | simp only [ownRoots, used_b hb]
      | bp k =>
        have e : st1.b = st.b := funext (used_b hb)
        cases v <;> first | rfl | simp only [ownRoots, e]
      | _ => cases v <;> rfl
    simp only [ownRootsL, this, ownRootsL_same hb ps vs]
theorem ownBoxes_same (hb : st1.boxes = st.boxes) (p : Pat) (v : AV) : ownBoxes st1 p v = ownBoxes st p v := by
  have e : st1.b = st.b := funext (used_b hb)
  cases p with
  | bp k => cases v <;> first | rfl | simp only [ownBoxes, e]
  | _ => cases v <;> rfl
theorem ownBoxesL_same (hb : st1.boxes = st.boxes) : ∀ (ps : List Pat) (vs : List AV), ownBoxesL st1 ps vs = ownBoxesL st ps vs
  | [], [] => rfl
  | [], _ :: _ => rfl
  | _ :: _, [] => rfl
  | p :: ps, v :: vs => by simp only [ownBoxesL, ownBoxes_same hb p v, ownBoxesL_same hb ps vs]
theorem boxLinks_same {g0 : Gh} (hb : st1.boxes = st.boxes) : ∀ {ps : List Pat} {vs : List AV} {n : Nat}, BoxLinks st1 g g0 ps vs n → BoxLinks st g g0 ps vs n
  | [], [], _, _ => trivial
  | [], _ :: _, _, _ => trivial
  | _ :: _, [], _, _ => trivial
  | p :: ps, v :: vs, n, h => by
    refine ⟨?_, boxLinks_same hb h.2⟩
    have h1 := h.1
    have e : st1.b = st.b := funext (used_b hb)
    cases p with
    | bp k => cases v <;> first | exact h1 | (simp only [BoxLink, e] at h1 ⊢; exact h1)
    | _ => cases v <;> exact h1
theorem mts_run {args : List AV} {vals : List Value} : ∀ {ps : List Pat} {vs : List AV} {xvs : List Value} {c : MR → Prog} {st : St}, (mts args ps vs c).run st Q → All2 (RepV st g w) args vals → Sim S st g w a → All2 (RepV st g w) vs xvs →
    ∃ (m : MR) (st1 : St) (ds : List RI), (c m).run st1 Q ∧ Sim S st1 g w a ∧ (∀ v x, RepV st g w v x → RepV st1 g w v x) ∧
      (st1.env = st.env ∧ st1.boxes = st.boxes ∧ ∀ r, st1.r r = st.r r ∨ (r ∈ takeRootsL ps vs ∧ (st1.r r).c = none ∧ (st.r r).gen < (st1.r r).gen)) ∧
      m.o = ownRootsL st ps vs ∧ m.b = ownBoxesL st ps vs ∧ ((anyL Pat.lax ps = false → m.v = [] ∧ m.rb = []) ∧ ∀ b, b ∈ roBoxesL ps vs → b ∈ m.rb) ∧ BackOks st g ps vs ds ∧ (∀ b c, (b, c) ∈ rowsT ps ds → ∃ r, g.ow b = some (2 * r) ∧ (st1.r r).c = none) ∧
      (m.o.Nodup → m.b.Nodup → (∀ d, d ∈ ds → Fit d.k d.x d.l) ∧ ((rowsL ds).map Prod.fst).Nodup ∧ (∀ b c, (b, c) ∈ rowsL ds → (∃ r, r ∈ m.o ∧ g.ow b = some (2 * r)) ∧ Blk w b c) ∧
        ∃ eb : List Nat, (∀ b, b ∈ eb → b < w.heap.size ∧ (∃ r, r ∈ m.o ∧ g.ow b = some (2 * r)) ∧ b ∉ (rowsL ds).map Prod.fst) ∧ (anyL Pat.lax ps = false → eb = []) ∧
        ∀ (s s' : Ini), inis ps m.xs s = some s' → ∃ us : List AV, s'.avs = s.avs ++ us ∧ s'.nr = s.nr + nslL ds ∧ s'.nb = s.nb + nbL ps ∧ s'.roots = s.roots ++ rootsL ds s.nr ∧
          ∃ bl : List BI, s'.boxes = s.boxes ++ bl.map BI.ent ∧ (∀ i, i ∈ bl → s.nb ≤ i.nb ∧ i.nb < s'.nb ∧ (i.ro = false → i.ad.1 < w.heap.size ∧ ∃ c, c ∈ m.b ∧ g.ow i.ad.1 = some (2 * c + 3))) ∧ (bl.map BI.nb).Nodup ∧
            ((bl.filter fun i => !i.ro).map fun i => i.ad.1).Nodup ∧
            ((∀ i x, xvs[i]? = some x → vals[s.avs.length + i]? = some x) → ∀ (g0 : Gh) (st0 : St), (∀ b, Seen g w m.v m.rb b → g0.U w b) → (∀ b, b ∈ eb → g0.U w b) → (∀ i, i ∈ bl → g0.bx i.nb = i.ad ∧ st0.b i.nb = ⟨0, some i.u, i.ro⟩ ∧ (i.ro = false → g0.ow i.ad.1 = some (2 * i.nb + 3))) →
              Plcs g0 ds s.nr → HasRs st0 ds s.nr → (∀ n x, vals[n]? = some x → RepV st0 g0 w (nthA s.avs n) x) →
              All2 (RepV st0 g0 w) us xvs ∧ (∀ i, i ∈ bl → BoxM st0 g0 w i.nb ⟨0, some i.u, i.ro⟩) ∧ BoxLinks st g g0 ps vs s.nb))
  | [], [], [], c, st, h, hA, hS, hv => by
    refine ⟨MR.nil, st, [], h, hS, fun _ _ h => h, ⟨rfl, rfl, fun _ => .inl rfl⟩, rfl, rfl, ⟨fun _ => ⟨rfl, rfl⟩, fun b hb => (by simp [roBoxesL] at hb)⟩, trivial, fun b c hb => (by simp [rowsT] at hb), fun _ _ => ⟨fun d hd => (by simp at hd), by simp [rowsL], fun b c hb => (by simp [rowsL] at hb), [], fun b hb => (by simp at hb), fun _ => rfl, fun s s' hi => ?_⟩⟩
    have hi : some s = some s' := hi
    cases hi
    exact ⟨[], by simp, rfl, rfl, by simp [rootsL], [], by simp, fun i hi => (by simp at hi), by simp, by simp, fun _ g0 st0 _ _ _ _ _ _ => ⟨trivial, fun i hi => (by simp at hi), trivial⟩⟩
  | p :: ps, v :: vs, xv :: xvs, c, st, h, hA, hS, hv => by
    have h : (mt args p v fun x => mts args ps vs fun y => c (x.join y)).run st Q := h
    obtain ⟨m, st1, d, h1, s1, r1, ⟨u1, u2, u3⟩, mo, mb, ml, bk, tk, h2⟩ := mt_run hA hS h hv.1
    have all2R : ∀ {l : List AV} {x : List Value}, All2 (RepV st g w) l x → All2 (RepV st1 g w) l x := by
      intro l
      induction l with
      | nil => intro x h; cases x <;> exact h
      | cons v l ih => intro x h; cases x with
        | nil => exact h
        | cons y x => exact ⟨r1 _ _ h.1, ih h.2⟩
    obtain ⟨n, st2, ds, h3, s2, r2, ⟨t1, t2, t3⟩, no, nb, nl, bks, tks, h4⟩ := mts_run h1 (all2R hA) s1 (all2R hv.2)
    rw [ownRootsL_same u2] at no
    rw [ownBoxesL_same u2] at nb
    have hback := bks.back (fun r => (u3 r).imp id fun h => h.2.1) u2
    refine ⟨m.join n, st2, d :: ds, h3, s2, fun v x hv => r2 _ _ (r1 _ _ hv), ⟨t1.trans u1, t2.trans u2, fun r => ?_⟩, ?_, ?_, ⟨fun hl => ?_, fun b hb => ?_⟩, ⟨bk, hback⟩, fun b c hb => ?_, fun ho hb => ?_⟩
    · show _ ∨ (r ∈ takeRoots p v ++ takeRootsL ps vs ∧ _)
      rcases t3 r with e | ⟨e1, e2, e3⟩
      · rw [e]
        exact (u3 r).imp id fun ⟨k1, k2⟩ => ⟨List.mem_append_left _ k1, k2⟩
      · refine .inr ⟨List.mem_append_right _ e1, e2, ?_⟩
        rcases u3 r with f | ⟨f1, f2, f3⟩
        · rw [f] at e3; exact e3
        · exact Nat.lt_trans f3 e3
    · show cat m.o n.o = _
      rw [cat_eq, mo, no]; rfl
    · show cat m.b n.b = _
      rw [cat_eq, mb, nb]; rfl
    · have hl : orB p.lax (anyL Pat.lax ps) = false := hl
      have l1 : p.lax = false := by revert hl; cases p.lax <;> simp [orB]
      have l2 : anyL Pat.lax ps = false := by revert hl; rw [l1]; exact fun h => h
      show cat m.v n.v = [] ∧ cat m.rb n.rb = []
      rw [(ml.1 l1).1, (ml.1 l1).2, (nl.1 l2).1, (nl.1 l2).2]; exact ⟨rfl, rfl⟩
    · show b ∈ cat m.rb n.rb
      rw [cat_eq]
      rcases List.mem_append.1 (show b ∈ roBoxes p v ++ roBoxesL ps vs from hb) with hb | hb
      · exact List.mem_append_left _ (ml.2 b hb)
      · exact List.mem_append_right _ (nl.2 b hb)
    · have dead : (∃ r, g.ow b = some (2 * r) ∧ (st1.r r).c = none) → ∃ r, g.ow b = some (2 * r) ∧ (st2.r r).c = none := by
        rintro ⟨r, h1, h2⟩
        refine ⟨r, h1, ?_⟩
        rcases t3 r with e | e
        · rw [e]; exact h2
        · exact e.2.1
      cases p with
      | take k =>
        rcases List.mem_append.1 (show (b, c) ∈ rows d.k d.x d.l ++ rowsT ps ds from hb) with hb | hb
        · exact dead (tk k rfl b c hb)
        · exact tks b c hb
      | _ => exact tks b c hb
    · have ho : (cat m.o n.o).Nodup := ho
      have hb : (cat m.b n.b).Nodup := hb
      rw [cat_eq, List.nodup_append] at ho hb
      obtain ⟨f1, f2, f3, eb, f4, f5, f6⟩ := h2 ho.1
      obtain ⟨k1, k2, k3, eb', k4, k5, k6⟩ := h4 ho.2.1 hb.2.1
      have apart : ∀ b, (∃ r, r ∈ m.o ∧ g.ow b = some (2 * r)) → (∃ r, r ∈ n.o ∧ g.ow b = some (2 * r)) → False := by
        rintro b ⟨r, h1, h2⟩ ⟨r', h3, h4⟩
        rw [h2] at h4
        have e : r = r' := by have := Option.some.inj h4; omega
        subst e
        exact ho.2.2 r h1 r h3 rfl
      have hrow : ∀ b, b ∈ (rows d.k d.x d.l).map Prod.fst → ∃ r, r ∈ m.o ∧ g.ow b = some (2 * r) := by
        intro b hb
        obtain ⟨⟨b1, c1⟩, hm, e1⟩ := List.mem_map.1 hb
        have e1 : b1 = b := e1
        subst e1
        exact (f3 _ _ hm).1
      have hrows : ∀ b, b ∈ (rowsL ds).map Prod.fst → ∃ r, r ∈ n.o ∧ g.ow b = some (2 * r) := by
        intro b hb
        obtain ⟨⟨b1, c1⟩, hm, e1⟩ := List.mem_map.1 hb
        have e1 : b1 = b := e1
        subst e1
        exact (k3 _ _ hm).1
      have inl : ∀ b, (∃ r, r ∈ m.o ∧ g.ow b = some (2 * r)) → ∃ r, r ∈ cat m.o n.o ∧ g.ow b = some (2 * r) := fun b ⟨r, h1, h2⟩ => ⟨r, by rw [cat_eq]; exact List.mem_append_left _ h1, h2⟩
      have inr : ∀ b, (∃ r, r ∈ n.o ∧ g.ow b = some (2 * r)) → ∃ r, r ∈ cat m.o n.o ∧ g.ow b = some (2 * r) := fun b ⟨r, h1, h2⟩ => ⟨r, by rw [cat_eq]; exact List.mem_append_right _ h1, h2⟩
      refine ⟨fun d' hd => ?_, ?_, fun b c hb => ?_, eb ++ eb', fun b hb => ?_, fun hl => ?_, fun s s' hi => ?_⟩
      · rcases List.mem_cons.1 hd with e | e
        · rw [e]; exact f1
        · exact k1 d' e
      · show ((rows d.k d.x d.l ++ rowsL ds).map Prod.fst).Nodup
        rw [List.map_append, List.nodup_append]
        refine ⟨f2, k2, fun b hb b' hb' e => ?_⟩
        subst e
        exact apart b (hrow b hb) (hrows b hb')
      · rcases List.mem_append.1 (show (b, c) ∈ rows d.k d.x d.l ++ rowsL ds from hb) with hb | hb
        · exact ⟨inl b (f3 b c hb).1, (f3 b c hb).2⟩
        · exact ⟨inr b (k3 b c hb).1, (k3 b c hb).2⟩
      · show _ ∧ _ ∧ b ∉ (rows d.k d.x d.l ++ rowsL ds).map Prod.fst
        rw [List.map_append, List.mem_append]
        rcases List.mem_append.1 hb with hb | hb
        · obtain ⟨q1, q2, q3⟩ := f4 b hb
          exact ⟨q1, inl b q2, fun h => h.elim q3 fun h => apart b q2 (hrows b h)⟩
        · obtain ⟨q1, q2, q3⟩ := k4 b hb
          exact ⟨q1, inr b q2, fun h => h.elim (fun h => apart b (hrow b h) q2) q3⟩
      · have hl : orB p.lax (anyL Pat.lax ps) = false := hl
        have l1 : p.lax = false := by revert hl; cases p.lax <;> simp [orB]
        have l2 : anyL Pat.lax ps = false := by revert hl; rw [l1]; exact fun h => h
        rw [f5 l1, k5 l2]; rfl
      · have hi : (match ini p (cat m.xs n.xs) s with
          | some (v, r, s') => inis ps r { s' with avs := cat s'.avs [v] }
          | none => none) = some s' := hi
        split at hi
        · rename_i u r' s1' hi1
          obtain ⟨i1, i2, i3, i4, i5, bl, i6, i7, i8, i9, i10⟩ := f6 n.xs s u r' s1' hi1
          subst i1
          obtain ⟨us, j1, j2, j3, j4, bl', j5, j6, j7, j8, j9⟩ := k6 _ s' hi
          have j1 : s'.avs = cat s1'.avs [u] ++ us := j1
          rw [cat_eq, i2] at j1
          have j2 : s'.nr = s1'.nr + nslL ds := j2
          have j3 : s'.nb = s1'.nb + nbL ps := j3
          have j4 : s'.roots = s1'.roots ++ rootsL ds s1'.nr := j4
          have j5 : s'.boxes = s1'.boxes ++ bl'.map BI.ent := j5
          have j6 : ∀ i, i ∈ bl' → s1'.nb ≤ i.nb ∧ i.nb < s'.nb ∧ (i.ro = false → i.ad.1 < w.heap.size ∧ ∃ c, c ∈ n.b ∧ g.ow i.ad.1 = some (2 * c + 3)) := j6
          refine ⟨u :: us, by rw [j1]; simp, ?_, ?_, ?_, bl ++ bl', ?_, fun i hi => ?_, ?_, ?_, fun hx g0 st0 hU hE hB hp hr hvals => ?_⟩
          · show _ = s.nr + (d.k.nsl + nslL ds); omega
          · show _ = s.nb + (p.nb + nbL ps); omega
          · show _ = s.roots ++ ((iniO d.k d.x s.nr).2.1 ++ rootsL ds (s.nr + d.k.nsl))
            rw [j4, i5, i3]; simp
          · rw [j5, i6]; simp
          · rcases List.mem_append.1 hi with hi | hi
            · obtain ⟨q1, q2, q3⟩ := i7 i hi
              refine ⟨q1, by omega, fun h => ?_⟩
              obtain ⟨q4, c, q5, q6⟩ := q3 h
              exact ⟨q4, c, by show c ∈ cat m.b n.b; rw [cat_eq]; exact List.mem_append_left _ q5, q6⟩
            · obtain ⟨q1, q2, q3⟩ := j6 i hi
              refine ⟨by omega, q2, fun h => ?_⟩
              obtain ⟨q4, c, q5, q6⟩ := q3 h
              exact ⟨q4, c, by show c ∈ cat m.b n.b; rw [cat_eq]; exact List.mem_append_right _ q5, q6⟩
          · rw [List.map_append, List.nodup_append]
            refine ⟨i8, j7, fun n hn n' hn' e => ?_⟩
            subst e
            obtain ⟨i, hi, ei⟩ := List.mem_map.1 hn
            obtain ⟨i', hi', ei'⟩ := List.mem_map.1 hn'
            have := (i7 i hi).2.1
            have := (j6 i' hi').1
            omega
          · rw [List.filter_append, List.map_append, List.nodup_append]
            refine ⟨i9, j8, fun b hb1 b' hb2 e => ?_⟩
            subst e
            obtain ⟨i, hi, ei⟩ := List.mem_map.1 hb1
            obtain ⟨i', hi', ei'⟩ := List.mem_map.1 hb2
            rw [List.mem_filter] at hi hi'
            obtain ⟨_, c, q1, q2⟩ := (i7 i hi.1).2.2 (by simpa using hi.2)
            obtain ⟨_, c', q3, q4⟩ := (j6 i' hi'.1).2.2 (by simpa using hi'.2)
            rw [ei] at q2
            rw [ei', q2] at q4
            have e : c = c' := by have := Option.some.inj q4; omega
            subst e
            exact hb.2.2 c q1 c q3 rfl
          · have hU1 : ∀ b, Seen g w m.v m.rb b → g0.U w b := fun b hb => hU b (hb.mono (fun r hr => by show r ∈ cat m.v _; rw [cat_eq]; exact List.mem_append_left _ hr) (fun r hr => by show r ∈ cat m.rb _; rw [cat_eq]; exact List.mem_append_left _ hr))
            have hU2 : ∀ b, Seen g w n.v n.rb b → g0.U w b := fun b hb => hU b (hb.mono (fun r hr => by show r ∈ cat m.v _; rw [cat_eq]; exact List.mem_append_right _ hr) (fun r hr => by show r ∈ cat m.rb _; rw [cat_eq]; exact List.mem_append_right _ hr))
            obtain ⟨q1, q2, q3⟩ := i10 g0 st0 hU1 (fun b hb => hE b (List.mem_append_left _ hb)) (fun i hi => hB i (List.mem_append_left _ hi)) hp.1 hr.1 hvals
            have hx0 : vals[s.avs.length]? = some xv := by simpa using hx 0 xv rfl
            have hlen : (cat s1'.avs [u]).length = s.avs.length + 1 := by rw [cat_eq, i2]; simp
            obtain ⟨q4, q5, q6⟩ := j9 (fun i x hxi => by
                show vals[(cat s1'.avs [u]).length + i]? = some x
                rw [hlen]
                have := hx (i + 1) x (by simpa using hxi)
                rw [show s.avs.length + 1 + i = s.avs.length + (i + 1) from by omega]; exact this)
              g0 st0 hU2 (fun b hb => hE b (List.mem_append_right _ hb)) (fun i hi => hB i (List.mem_append_right _ hi))
              (by show Plcs g0 ds s1'.nr; rw [i3]; exact hp.2) (by show HasRs st0 ds s1'.nr; rw [i3]; exact hr.2)
              (fun n x hn => by
                show RepV st0 g0 w (nthA (cat s1'.avs [u]) n) x
                rw [cat_eq, i2, nthA_get, List.getElem?_append]
                split
                · have := hvals n x hn
                  rw [nthA_get] at this
                  exact this
                · rename_i hlt
                  by_cases e : n = s.avs.length
                  · subst e
                    rw [hx0] at hn
                    cases hn
                    simpa using q1
                  · rw [List.getElem?_eq_none (by simp; omega)]
                    exact trivial)
            refine ⟨⟨q1, q4⟩, fun i hi => ?_, q3, ?_⟩
            · rcases List.mem_append.1 hi with hi | hi
              · exact q2 i hi
              · exact q5 i hi
            · rw [← i4]; exact boxLinks_same u2 q6
        · cases hi
  | [], _ :: _, _, _, _, h, _, _, _ => h.elim
  | _ :: _, [], _, _, _, h, _, _, _ => h.elim
  | [], [], _ :: _, _, _, _, _, _, h => h.elim
  | _ :: _, _ :: _, [], _, _, _, _, _, h => h.elim
end
end Go.Am
namespace Go.Am
theorem look_skip {α : Type} (d : α) : ∀ {l m : List (Nat × α)} {i : Nat}, (∀ y, y ∈ l → y.1 ≠ i) → look d (l ++ m) i = look d m i
  | [], m, i, _ => rfl
  | (a, x) :: l, m, i, h => by
    show look d ((a, x) :: (l ++ m)) i = _
    rw [look_cons, if_neg (h (a, x) (by simp)), look_skip d (fun y hy => h y (by simp [hy]))]
theorem look_none {α : Type} (d : α) : ∀ {l : List (Nat × α)} {i : Nat}, (∀ y, y ∈ l → y.1 ≠ i) → look d l i = d
  | [], i, _ => rfl
  | (a, x) :: l, i, h => by rw [look_cons, if_neg (h (a, x) (by simp)), look_none d (fun y hy => h y (by simp [hy]))]
theorem look_nodup {α : Type} (d : α) : ∀ {l : List (Nat × α)} {i : Nat} {x : α}, (l.map Prod.fst).Nodup → (i, x) ∈ l → look d l i = x
  | [], i, x, _, h => by simp at h
  | (a, y) :: l, i, x, hn, h => by
    rw [List.map_cons, List.nodup_cons] at hn
    rw [look_cons]
    rcases List.mem_cons.1 h with e | e
    · cases e; rw [if_pos rfl]
    · have : a ≠ i := fun h => hn.1 (by
        subst h; exact List.mem_map.2 ⟨(a, x), e, rfl⟩)
      rw [if_neg this]
      exact look_nodup d hn.2 e
theorem iniO_ids : ∀ (k : K) (x : k.T) (j : Nat), ∀ y, y ∈ (iniO k x j).2.1 → j ≤ y.1 ∧ y.1 < j + k.nsl
  | .int _, _, _, y, h => by simp [iniO] at h
  | .bool, _, _, y, h => by simp [iniO] at h
  | .pair a b, x, j, y, h => by
    have h : y ∈ cat (iniO a x.1 j).2.1 (iniO b x.2 (iniO a x.1 j).2.2).2.1 := h
    rw [cat_eq, iniO_idx] at h
    show _ ∧ _ < j + (a.nsl + b.nsl)
    rcases List.mem_append.1 h with h | h
    · have := iniO_ids a _ _ y h; omega
    · have := iniO_ids b _ _ y h; omega
  | .sl k, xs, j, y, h => by
    have h : y ∈ [(j, (⟨0, 0, some ⟨k, xs, true⟩, none⟩ : RootV))] := h
    simp at h
    subst h
    exact ⟨Nat.le_refl _, Nat.lt_succ_self _⟩
theorem rootsL_ids : ∀ (ds : List RI) (j : Nat), ∀ y, y ∈ rootsL ds j → j ≤ y.1 ∧ y.1 < j + nslL ds
  | [], j, y, h => by simp [rootsL] at h
  | d :: ds, j, y, h => by
    show _ ∧ _ < j + (d.k.nsl + nslL ds)
    rcases List.mem_append.1 (show y ∈ (iniO d.k d.x j).2.1 ++ rootsL ds (j + d.k.nsl) from h) with h | h
    · have := iniO_ids _ _ _ y h; omega
    · have := rootsL_ids ds _ y h; omega
theorem hasR_of : ∀ (k : K) (x : k.T) (j : Nat) (pre post : List (Nat × RootV)) (st : St), (∀ y, y ∈ pre → y.1 < j) → (∀ y, y ∈ post → j + k.nsl ≤ y.1) → st.roots = pre ++ (iniO k x j).2.1 ++ post → HasR st k x j
  | .int _, _, _, _, _, _, _, _, _ => trivial
  | .bool, _, _, _, _, _, _, _, _ => trivial
  | .pair a b, x, j, pre, post, st, h1, h2, h => by
    have h2 : ∀ y, y ∈ post → j + (a.nsl + b.nsl) ≤ y.1 := h2
    have h : st.roots = pre ++ cat (iniO a x.1 j).2.1 (iniO b x.2 (iniO a x.1 j).2.2).2.1 ++ post := h
    rw [cat_eq, iniO_idx] at h
    refine ⟨hasR_of a x.1 j pre ((iniO b x.2 (j + a.nsl)).2.1 ++ post) st h1 (fun y hy => ?_) (by rw [h]; simp), hasR_of b x.2 (j + a.nsl) (pre ++ (iniO a x.1 j).2.1) post st (fun y hy => ?_) (fun y hy => by have := h2 y hy; omega) (by rw [h]; simp)⟩
    · rcases List.mem_append.1 hy with hy | hy
      · exact (iniO_ids b _ _ y hy).1
      · have := h2 y hy; omega
    · rcases List.mem_append.1 hy with hy | hy
      · have := h1 y hy; omega
      · exact (iniO_ids a _ _ y hy).2
  | .sl k, xs, j, pre, post, st, h1, h2, h => by
    show look RootV.none st.roots j = _
    have h : st.roots = pre ++ ([(j, (⟨0, 0, some ⟨k, xs, true⟩, none⟩ : RootV))] ++ post) := by rw [h]; simp [iniO]
    rw [h, look_skip _ (fun y hy => by have := h1 y hy; omega)]
    show look RootV.none ((j, _) :: post) j = _
    rw [look_cons, if_pos rfl]
theorem hasRs_of : ∀ (ds : List RI) (j : Nat) (pre : List (Nat × RootV)) (st : St), (∀ y, y ∈ pre → y.1 < j) → st.roots = pre ++ rootsL ds j → HasRs st ds j
  | [], _, _, _, _, _ => trivial
  | d :: ds, j, pre, st, h1, h => by
    have h : st.roots = pre ++ ((iniO d.k d.x j).2.1 ++ rootsL ds (j + d.k.nsl)) := h
    refine ⟨hasR_of d.k d.x j pre (rootsL ds (j + d.k.nsl)) st h1 (fun y hy => (rootsL_ids ds _ y hy).1) (by rw [h]; simp), hasRs_of ds (j + d.k.nsl) (pre ++ (iniO d.k d.x j).2.1) st (fun y hy => ?_) (by rw [h]; simp)⟩
    rcases List.mem_append.1 hy with hy | hy
    · have := h1 y hy; omega
    · exact (iniO_ids _ _ _ y hy).2
noncomputable def setLsL : List RI → Nat → Gh → Gh
  | [], _, g => g
  | d :: ds, j, g => setLsL ds (j + d.k.nsl) (setLs d.k d.l j g)
theorem setLsL_ow : ∀ (ds : List RI) (j : Nat) (g : Gh), (setLsL ds j g).ow = g.ow ∧ (setLsL ds j g).bx = g.bx
  | [], _, _ => ⟨rfl, rfl⟩
  | d :: ds, j, g => by
    obtain ⟨h1, h2⟩ := setLsL_ow ds (j + d.k.nsl) (setLs d.k d.l j g)
    obtain ⟨h3, h4⟩ := setLs_ow d.k d.l j g
    exact ⟨h1.trans h3, h2.trans h4⟩
theorem setLsL_out : ∀ (ds : List RI) (j : Nat) (g : Gh) (i : Nat), i < j → (setLsL ds j g).lay i = g.lay i
  | [], _, _, _, _ => rfl
  | d :: ds, j, g, i, h => by
    show (setLsL ds (j + d.k.nsl) (setLs d.k d.l j g)).lay i = _
    rw [setLsL_out ds _ _ i (by omega), setLs_out _ _ _ _ i (.inl h)]
def ownLs : List RI → Nat → List (Nat × Nat)
  | [], _ => []
  | d :: ds, j => ownL d.k d.x d.l j ++ ownLs ds (j + d.k.nsl)
theorem ownLs_fst : ∀ (ds : List RI) (j : Nat), (ownLs ds j).map Prod.fst = (rowsL ds).map Prod.fst
  | [], _ => rfl
  | d :: ds, j => by simp only [ownLs, rowsL, List.map_append, ownL_fst, ownLs_fst ds]
theorem plcs_of {g : Gh} : ∀ (ds : List RI) (j : Nat) (g1 : Gh), (∀ b c, (b, c) ∈ ownLs ds j → g1.ow b = some c) → Plcs (setLsL ds j g1) ds j
  | [], _, _, _ => trivial
  | d :: ds, j, g1, h => by
    refine ⟨plc_of ?_ fun b c hb => ?_, plcs_of (g := g) ds (j + d.k.nsl) _ fun b c hb => ?_⟩
    · exact (setLs_has d.k d.l j g1).mono fun i _ h2 => setLsL_out ds _ _ i h2
    · rw [(setLsL_ow (d :: ds) j g1).1]
      exact h b c (List.mem_append_left _ hb)
    · rw [(setLs_ow d.k d.l j g1).1]
      exact h b c (List.mem_append_right _ hb)
section
variable {P : Program} {E : Env} {S : Start} {st st1 st' : St} {g g' : Gh} {w w' : World} {a : Act} {Q : St → Prop} {gd : Gd} {o : Oper} {Qx : Exit → Act → World → Prop}
theorem regs_root : ∀ {ds : List RI} {j : Nat}, (∀ d, d ∈ ds → Fit d.k d.x d.l) → ((rowsL ds).map Prod.fst).Nodup → (∀ b c, (b, c) ∈ rowsL ds → Blk w b c) → Plcs g ds j → HasRs st ds j → ∀ i, j ≤ i → i < j + nslL ds → RootM g w i (st.r i)
  | [], j, _, _, _, _, _, i, h1, h2 => by simp [nslL] at h2; omega
  | d :: ds, j, hf, hn, hb, hp, hr, i, h1, h2 => by
    have h2 : i < j + (d.k.nsl + nslL ds) := h2
    have hn : ((rows d.k d.x d.l ++ rowsL ds).map Prod.fst).Nodup := hn
    rw [List.map_append, List.nodup_append] at hn
    by_cases hi : i < j + d.k.nsl
    · exact (reg_root (hf d (by simp)) hn.1 (fun b c h => hb b c (List.mem_append_left _ h)) hp.1 hr.1).1 i h1 hi
    · exact regs_root (fun d' hd => hf d' (by simp [hd])) hn.2.1 (fun b c h => hb b c (List.mem_append_right _ h)) hp.2 hr.2 i (by omega) (by omega)
theorem zipN_look : ∀ (l : List AV) (n t : Nat), look .dead (zipN n l) (n + t) = nthA l t
  | [], n, t => by cases t <;> rfl
  | v :: l, n, 0 => by
    show look .dead ((n, v) :: zipN (n + 1) l) n = v
    rw [look_cons, if_pos rfl]
  | v :: l, n, t + 1 => by
    show look .dead ((n, v) :: zipN (n + 1) l) (n + (t + 1)) = nthA l t
    rw [look_cons, if_neg (by omega), show n + (t + 1) = (n + 1) + t from by omega]
    exact zipN_look l (n + 1) t
/-- The callee's start, and what the caller keeps in mind. -/
structure Begun (st : St) (g g0 : Gh) (w : World) (ps : List Pat) (vs : List AV) (ds : List RI) (m : MR) : Prop where
  plcs : Plcs g0 ds 0
  links : BoxLinks st g g0 ps vs 0
  none : ∀ b, g.ow b = Option.none → g0.ow b = Option.none
  some : ∀ b x, g0.ow b = Option.some x → x = 1 ∨ b ∈ (rowsL ds).map Prod.fst ∨ ∃ c n, c ∈ m.b ∧ g.ow b = Option.some (2 * c + 3) ∧ x = 2 * n + 3
  far : ∀ b, anyL Pat.lax ps = false → g.ow b ≠ Option.none → g0.ow b ≠ Option.none
  lt : ∀ b x, g0.ow b = Option.some x → b < w.heap.size
theorem memN_false {n : Nat} {l : List Nat} (h : memN n l = false) : n ∉ l := fun hm => by rw [memN_mem.2 hm] at h; cases h
theorem nodupN_nodup : ∀ {l : List Nat}, nodupN l = true → l.Nodup
  | [], _ => by simp
  | n :: l, h => by
    obtain ⟨h1, h2⟩ := andB_true.1 (show andB (notB (memN n l)) (nodupN l) = true from h)
    rw [List.nodup_cons]
    exact ⟨memN_false (notB_true.1 h1), nodupN_nodup h2⟩
theorem apartN_apart : ∀ {l m : List Nat}, apartN l m = true → ∀ n, n ∈ l → n ∉ m
  | [], _, _, n, h => by simp at h
  | x :: l, m, h, n, hn => by
    obtain ⟨h1, h2⟩ := andB_true.1 (show andB (notB (memN x m)) (apartN l m) = true from h)
    rcases List.mem_cons.1 hn with e | e
    · subst e; exact memN_false (notB_true.1 h1)
    · exact apartN_apart h2 n e
theorem MR.ok_facts {m : MR} (h : m.ok = true) : m.o.Nodup ∧ m.b.Nodup ∧ (∀ n, n ∈ m.o → n ∉ m.v) ∧ ∀ n, n ∈ m.b → n ∉ m.rb := by
  obtain ⟨h1, h2⟩ := andB_true.1 (show andB (andB (nodupN m.o) (apartN m.o m.v)) (andB (nodupN m.b) (apartN m.b m.rb)) = true from h)
  obtain ⟨h3, h4⟩ := andB_true.1 h1
  obtain ⟨h5, h6⟩ := andB_true.1 h2
  exact ⟨nodupN_nodup h3, nodupN_nodup h5, apartN_apart h4, apartN_apart h6⟩
open Classical in
theorem begin_sim {ps : List Pat} {vs : List AV} {xvs : List Value} {c : MR → Prog} (h : (mts vs ps vs c).run st Q) (hS : Sim S st g w a) (hv : All2 (RepV st g w) vs xvs) :
    ∃ (m : MR) (st1 : St) (ds : List RI), (c m).run st1 Q ∧ Sim S st1 g w a ∧ (∀ v x, RepV st g w v x → RepV st1 g w v x) ∧
      (st1.env = st.env ∧ st1.boxes = st.boxes ∧ ∀ r, st1.r r = st.r r ∨ (r ∈ takeRootsL ps vs ∧ (st1.r r).c = none ∧ (st.r r).gen < (st1.r r).gen)) ∧
      m.o = ownRootsL st ps vs ∧ m.b = ownBoxesL st ps vs ∧ (∀ b, b ∈ roBoxesL ps vs → b ∈ m.rb) ∧ BackOks st g ps vs ds ∧ (∀ b c, (b, c) ∈ rowsT ps ds → ∃ r, g.ow b = Option.some (2 * r) ∧ (st1.r r).c = Option.none) ∧
      (m.ok = true → (∀ d, d ∈ ds → Fit d.k d.x d.l) ∧ ((rowsL ds).map Prod.fst).Nodup ∧ (∀ b c, (b, c) ∈ rowsL ds → (∃ r, r ∈ m.o ∧ g.ow b = some (2 * r)) ∧ Blk w b c) ∧
        ∀ (i : Ini) (n : Nat), inis ps m.xs ⟨[], 0, 0, [], []⟩ = some i → xvs.length ≤ n → ∃ g0, Begun st g g0 w ps vs ds m ∧
          Sim ⟨w, g0.ow, n, (St.init i).r, g0.lay, g0.bx⟩ (St.init i) g0 w { tmps := xvs.toArray ++ Array.replicate (n - xvs.length) undef, defers := [] } ∧ HasRs (St.init i) ds 0) := by
  obtain ⟨m, st1, ds, h1, s1, r1, u1, mo, mb, ml, bk, tk, h2⟩ := mts_run (vals := xvs) h hv hS hv
  refine ⟨m, st1, ds, h1, s1, r1, u1, mo, mb, ml.2, bk, tk, fun hok => ?_⟩
  obtain ⟨o1, o2, o3, o4⟩ := MR.ok_facts hok
  obtain ⟨f1, f2, f3, eb, f4, f5, f6⟩ := h2 o1 o2
  refine ⟨f1, f2, f3, fun i n hi hn => ?_⟩
  obtain ⟨us, i1, i2, i3, i4, bl, i5, i6, i7, i8, i9⟩ := f6 _ i hi
  have i1 : i.avs = us := by simpa using i1
  have i4 : i.roots = rootsL ds 0 := by simpa using i4
  have i5 : i.boxes = bl.map BI.ent := by simpa using i5
  have i2 : i.nr = nslL ds := by simpa using i2
  -- owners
  let bs : List (Nat × Nat) := (bl.filter fun i => !i.ro).map fun i => (i.ad.1, 2 * i.nb + 3)
  have hrow : ∀ b, b ∈ (rowsL ds).map Prod.fst → ∃ r, r ∈ m.o ∧ g.ow b = some (2 * r) := by
    intro b hb
    obtain ⟨⟨b1, c1⟩, hm, e1⟩ := List.mem_map.1 hb
    have e1 : b1 = b := e1
    subst e1
    exact (f3 _ _ hm).1
  have hbox : ∀ b x, (b, x) ∈ bs → ∃ j c, j ∈ bl ∧ j.ro = false ∧ j.ad.1 = b ∧ x = 2 * j.nb + 3 ∧ c ∈ m.b ∧ g.ow b = some (2 * c + 3) ∧ b < w.heap.size := by
    intro b x hb
    obtain ⟨j, hj, ej⟩ := List.mem_map.1 hb
    rw [List.mem_filter] at hj
    have hro : j.ro = false := by simpa using hj.2
    obtain ⟨_, _, q3⟩ := i6 j hj.1
    obtain ⟨q4, c, q5, q6⟩ := q3 hro
    cases ej
    exact ⟨j, c, hj.1, hro, rfl, rfl, q5, q6, q4⟩
  have hnd : ((ownLs ds 0 ++ bs).map Prod.fst).Nodup := by
    rw [List.map_append, ownLs_fst, List.nodup_append]
    refine ⟨f2, by rw [List.map_map]; exact i8, fun b hb b' hb' e => ?_⟩
    subst e
    obtain ⟨r, _, q1⟩ := hrow b hb
    obtain ⟨⟨b1, x⟩, hm, e1⟩ := List.mem_map.1 hb'
    have e1 : b1 = b := e1
    subst e1
    obtain ⟨_, c, _, _, _, _, _, q2, _⟩ := hbox b1 x hm
    rw [q1] at q2
    have := Option.some.inj q2; omega
  let ow0 : Nat → Option Nat := fun b => match look none ((ownLs ds 0 ++ bs).map fun y => (y.1, some y.2)) b with
    | some c => some c
    | none => if anyL Pat.lax ps = false ∧ g.ow b ≠ none then some 1 else none
  have hin : ∀ b c, (b, c) ∈ ownLs ds 0 ++ bs → ow0 b = some c := by
    intro b c hb
    have hl := look_nodup (none : Option Nat) (l := (ownLs ds 0 ++ bs).map fun y => (y.1, some y.2)) (i := b) (x := some c) (by rw [List.map_map]; exact hnd) (List.mem_map.2 ⟨(b, c), hb, rfl⟩)
    simp only [ow0, hl]
  have hout : ∀ b, b ∉ (ownLs ds 0 ++ bs).map Prod.fst → ow0 b = if anyL Pat.lax ps = false ∧ g.ow b ≠ none then some 1 else none := by
    intro b hb
    have hl := look_none (none : Option Nat) (l := (ownLs ds 0 ++ bs).map fun y => (y.1, some y.2)) (i := b) (fun y hy e => hb (by
      obtain ⟨z, hz, ez⟩ := List.mem_map.1 hy
      rw [← e, ← ez]
      exact List.mem_map_of_mem (f := Prod.fst) hz))
    simp only [ow0, hl]
  have hmem : ∀ b, b ∈ (ownLs ds 0 ++ bs).map Prod.fst → b ∈ (rowsL ds).map Prod.fst ∨ ∃ x, (b, x) ∈ bs := by
    intro b hb
    rw [List.map_append, ownLs_fst, List.mem_append] at hb
    refine hb.imp id fun hb => ?_
    obtain ⟨⟨b1, x⟩, hm, e1⟩ := List.mem_map.1 hb
    have e1 : b1 = b := e1
    subst e1
    exact ⟨x, hm⟩
  let gb : Gh := ⟨ow0, fun _ k => k.dl, fun nb => look (0, 0) (bl.map fun i => (i.nb, i.ad)) nb⟩
  have hg0 : (setLsL ds 0 gb).ow = ow0 ∧ (setLsL ds 0 gb).bx = gb.bx := setLsL_ow ds 0 gb
  have hplc : Plcs (setLsL ds 0 gb) ds 0 := plcs_of (g := g) ds 0 gb fun b c hb => hin b c (List.mem_append_left _ hb)
  have hU : ∀ b, Seen g w m.v m.rb b → (setLsL ds 0 gb).U w b := by
    intro b hb
    refine ⟨hb.1, ?_⟩
    rw [hg0.1, hout b (fun hm => ?_), if_neg]
    · rintro ⟨hl, hne⟩
      obtain ⟨e1, e2⟩ := ml.1 hl
      rcases hb.2 with k | ⟨r, k1, _⟩ | ⟨r, k1, _⟩
      · exact hne k
      · rw [e1] at k1; simp at k1
      · rw [e2] at k1; simp at k1
    · rcases hmem b hm with hm | ⟨x, hm⟩
      · obtain ⟨r, q1, q2⟩ := hrow b hm
        rcases hb.2 with k | ⟨r', k1, k2⟩ | ⟨r', k1, k2⟩
        · rw [q2] at k; cases k
        · rw [q2] at k2
          have e : r = r' := by have := Option.some.inj k2; omega
          subst e; exact o3 r q1 k1
        · rw [q2] at k2
          have := Option.some.inj k2; omega
      · obtain ⟨_, c, _, _, _, _, q1, q2, _⟩ := hbox b x hm
        rcases hb.2 with k | ⟨r', k1, k2⟩ | ⟨r', k1, k2⟩
        · rw [q2] at k; cases k
        · rw [q2] at k2
          have := Option.some.inj k2; omega
        · rw [q2] at k2
          have e : c = r' := by have := Option.some.inj k2; omega
          subst e; exact o4 c q1 k1
  have hE : ∀ b, b ∈ eb → (setLsL ds 0 gb).U w b := by
    intro b hb
    obtain ⟨q1, ⟨r, q2, q3⟩, q4⟩ := f4 b hb
    refine ⟨q1, ?_⟩
    rw [hg0.1, hout b (fun hm => ?_), if_neg]
    · rintro ⟨hl, hne⟩
      rw [f5 hl] at hb; simp at hb
    · rcases hmem b hm with hm | ⟨x, hm⟩
      · exact q4 hm
      · obtain ⟨_, c, _, _, _, _, _, k2, _⟩ := hbox b x hm
        rw [q3] at k2
        have := Option.some.inj k2; omega
  have hbnd : ((bl.map BI.ent).map Prod.fst).Nodup := by rw [List.map_map]; exact i7
  have hB : ∀ j, j ∈ bl → (setLsL ds 0 gb).bx j.nb = j.ad ∧ (St.init i).b j.nb = ⟨0, some j.u, j.ro⟩ ∧ (j.ro = false → (setLsL ds 0 gb).ow j.ad.1 = some (2 * j.nb + 3)) := by
    intro j hj
    refine ⟨?_, ?_, fun hro => ?_⟩
    · rw [hg0.2]
      exact look_nodup (0, 0) (by rw [List.map_map]; exact i7) (List.mem_map.2 ⟨j, hj, rfl⟩)
    · show look BoxV.none i.boxes j.nb = _
      rw [i5]
      exact look_nodup _ hbnd (List.mem_map.2 ⟨j, hj, rfl⟩)
    · rw [hg0.1]
      exact hin _ _ (List.mem_append_right _ (List.mem_map.2 ⟨j, by rw [List.mem_filter]; exact ⟨hj, by simp [hro]⟩, rfl⟩))
  have hR : HasRs (St.init i) ds 0 := hasRs_of ds 0 [] _ (fun y hy => by simp at hy) (by show i.roots = _; rw [i4]; rfl)
  obtain ⟨q1, q2, q3⟩ := i9 (fun j x hj => by simpa using hj) (setLsL ds 0 gb) (St.init i) hU hE hB hplc hR (fun n x _ => by
    show RepV _ _ _ (nthA [] n) x
    exact trivial)
  refine ⟨setLsL ds 0 gb, ⟨hplc, q3, fun b hb => ?_, fun b x hx => ?_, fun b hl hne => ?_, fun b x hx => ?_⟩, ?_, hR⟩
  · rw [hg0.1, hout b (fun hm => ?_), if_neg (fun h => h.2 hb)]
    rcases hmem b hm with hm | ⟨x, hm⟩
    · obtain ⟨r, _, k⟩ := hrow b hm; rw [hb] at k; cases k
    · obtain ⟨_, c, _, _, _, _, _, k, _⟩ := hbox b x hm; rw [hb] at k; cases k
  · rw [hg0.1] at hx
    by_cases hm : b ∈ (ownLs ds 0 ++ bs).map Prod.fst
    · obtain ⟨⟨b1, c1⟩, hm', e1⟩ := List.mem_map.1 hm
      have e1 : b1 = b := e1
      subst e1
      rcases hmem b1 hm with k | ⟨y, k⟩
      · exact .inr (.inl k)
      · rw [hin b1 y (List.mem_append_right _ k)] at hx
        cases hx
        obtain ⟨j, c, _, _, _, k1, k2, k3, _⟩ := hbox b1 _ k
        exact .inr (.inr ⟨c, j.nb, k2, k3, k1⟩)
    · rw [hout b hm] at hx
      split at hx
      · cases hx; exact .inl rfl
      · cases hx
  · rw [hg0.1]
    by_cases hm : b ∈ (ownLs ds 0 ++ bs).map Prod.fst
    · obtain ⟨⟨b1, c1⟩, hm', e1⟩ := List.mem_map.1 hm
      have e1 : b1 = b := e1
      subst e1
      rw [hin b1 c1 hm']; simp
    · rw [hout b hm, if_pos ⟨hl, hne⟩]; simp
  · rw [hg0.1] at hx
    by_cases hm : b ∈ (ownLs ds 0 ++ bs).map Prod.fst
    · rcases hmem b hm with k | ⟨y, k⟩
      · obtain ⟨⟨b1, c1⟩, hm', e1⟩ := List.mem_map.1 k
        have e1 : b1 = b := e1
        subst e1
        exact (f3 _ _ hm').2.lt
      · obtain ⟨_, _, _, _, _, _, _, _, k⟩ := hbox b y k
        exact k
    · rw [hout b hm] at hx
      split at hx
      · rename_i hh
        cases e : g.ow b with
        | none => exact absurd e hh.2
        | some y => exact hS.own b y e
      · cases hx
  · have hlen := all2_len q1
    refine ⟨?_, rfl, fun t => ?_, fun r => ?_, fun b => ?_, fun b x hx => ?_, rfl, rfl, rfl, Nat.le_refl _, fun b _ ho => ⟨ho, rfl⟩, fun b x hx _ => ?_, fun b hb => ⟨hb, rfl⟩, fun r rc _ _ hc => ⟨rc.xs, rc.inn, hc, rfl, rfl, rfl, rfl⟩, fun b v _ _ _ => rfl⟩
    · simp; omega
    · have hs : (St.init i).s t = nthA us t := by
        show look .dead (zipN 0 i.avs) t = _
        rw [i1]
        simpa using zipN_look us 0 t
      rw [hs, nthA_get]
      by_cases ht : t < xvs.length
      · have hu : us[t]? = some us[t] := List.getElem?_eq_getElem (by omega)
        obtain ⟨v, k1, k2⟩ := all2_get t q1 (List.getElem?_eq_getElem ht)
        rw [k1]
        have : (xvs.toArray ++ Array.replicate (n - xvs.length) undef).getD t undef = xvs[t] := by
          rw [Array.getD_eq_getD_getElem?, Array.getElem?_append_left (by simpa using ht)]
          simp [ht]
        rw [this]
        exact k2
      · rw [List.getElem?_eq_none (by omega)]
        exact trivial
    · by_cases hr : r < nslL ds
      · exact regs_root f1 f2 (fun b c h => (f3 b c h).2) hplc hR r (Nat.zero_le _) (by omega)
      · have : (St.init i).r r = RootV.none := by
          show look RootV.none i.roots r = _
          rw [i4]
          exact look_none _ fun y hy e => by have := (rootsL_ids ds 0 y hy).2; omega
        rw [this]
        intro rc hrc; cases hrc
    · by_cases hb : ∃ j, j ∈ bl ∧ j.nb = b
      · obtain ⟨j, hj, e⟩ := hb
        subst e
        rw [(hB j hj).2.1]
        exact q2 j hj
      · have : (St.init i).b b = BoxV.none := by
          show look BoxV.none i.boxes b = _
          rw [i5]
          refine look_none _ fun y hy e => hb ?_
          obtain ⟨j, hj, ej⟩ := List.mem_map.1 hy
          exact ⟨j, hj, by rw [← e, ← ej]; rfl⟩
        rw [this]
        intro v hv; cases hv
    · rw [hg0.1] at hx
      by_cases hm : b ∈ (ownLs ds 0 ++ bs).map Prod.fst
      · rcases hmem b hm with k | ⟨y, k⟩
        · obtain ⟨⟨b1, c1⟩, hm', e1⟩ := List.mem_map.1 k
          have e1 : b1 = b := e1
          subst e1
          exact (f3 _ _ hm').2.lt
        · obtain ⟨_, _, _, _, _, _, _, _, k⟩ := hbox b y k
          exact k
      · rw [hout b hm] at hx
        split at hx
        · rename_i hh
          cases e : g.ow b with
          | none => exact absurd e hh.2
          | some y => exact hS.own b y e
        · cases hx
    · show (setLsL ds 0 gb).ow b ≠ none
      rw [hx]; simp
end
end Go.Am
namespace Go.Am
/-- At the end a value's slices are where they were. -/
def EndR (st : St) : (k : K) → k.T → Nat → Prop
  | .int _, _, _ => True
  | .bool, _, _ => True
  | .pair a b, x, j => EndR st a x.1 j ∧ EndR st b x.2 (j + a.nsl)
  | .sl k, xs, j => (st.r j).gen = 0 ∧ (st.r j).c = some ⟨k, xs, true⟩ ∧ (st.r j).hole = none
def asmL (g : Gh) : (k : K) → Nat → k.L
  | .int _, _ => ()
  | .bool, _ => ()
  | .pair a b, j => (asmL g a j, asmL g b (j + a.nsl))
  | .sl k, j => g.lay j (.sl k)
section
variable {P : Program} {E : Env} {S : Start} {st st1 st' : St} {g g' : Gh} {w w' : World} {a : Act} {Q : St → Prop} {gd : Gd} {o : Oper} {Qx : Exit → Act → World → Prop}
theorem endR_run {j : Nat} {k : K} {xs : List k.T} {c : Prog} (h : (endR j k xs c).run st Q) : EndR st (.sl k) xs j ∧ c.run st Q := by
  have h : (live 0 (st.r j) fun rc => iff' rc.inn (match K.same rc.k k with | some ⟨h⟩ => .vc ((h ▸ rc.xs : List k.T) = xs) c | none => .fail) .fail).run st Q := h
  obtain ⟨rc, h1, h2, h3, h4⟩ := live_run h
  obtain ⟨h5, h6⟩ := iff'_fail h4
  split at h6
  · rename_i hk _
    obtain ⟨rk, ys, inn⟩ := rc
    have hk : rk = k := hk
    subst hk
    have h5 : inn = true := h5
    subst h5
    obtain ⟨h7, h8⟩ := h6
    have h7 : ys = xs := h7
    subst h7
    exact ⟨⟨h2.symm, h1, h3⟩, h8⟩
  · exact h6.elim
theorem endO_run : ∀ {k : K} {x : k.T} {j : Nat} {c : Nat → Prog}, (endO k x j c).run st Q → EndR st k x j ∧ (c (j + k.nsl)).run st Q
  | .int _, _, _, _, h => ⟨trivial, h⟩
  | .bool, _, _, _, h => ⟨trivial, h⟩
  | .pair a b, x, j, c, h => by
    have h : (endO a x.1 j fun j => endO b x.2 j c).run st Q := h
    obtain ⟨h1, h2⟩ := endO_run h
    obtain ⟨h3, h4⟩ := endO_run h2
    refine ⟨⟨h1, h3⟩, ?_⟩
    show (c (j + (a.nsl + b.nsl))).run st Q
    rw [← Nat.add_assoc]; exact h4
  | .sl k, xs, j, c, h => endR_run h
theorem endB_run : ∀ {k : K} {u : AV} {x : k.T} {j : Nat} {c : Nat → Prog}, (endB k u x j c).run st Q → EndR st k x j ∧ (c (j + k.nsl)).run st Q ∧ ∀ {cs : List Value}, Rep st g w u cs → cs = hdr k x (asmL g k j)
  | .int ik, u, n, j, c, h => by
    cases u <;> first | exact h.elim | skip
    obtain ⟨h1, h2, h3⟩ := iff'_fail h
    have e := eqIK_eq h1
    subst e
    have h2 : _ = n := h2
    subst h2
    exact ⟨trivial, h3, fun hr => hr⟩
  | .bool, u, b, j, c, h => by
    cases u <;> first | exact h.elim | skip
    obtain ⟨h2, h3⟩ := h
    have h2 : _ = b := h2
    subst h2
    exact ⟨trivial, h3, fun hr => hr⟩
  | .pair p q, u, x, j, c, h => by
    cases u <;> first | exact h.elim | skip
    rename_i u t
    have h : (endB p u x.1 j fun j => endB q t x.2 j c).run st Q := h
    obtain ⟨h1, h2, r1⟩ := endB_run h
    obtain ⟨h3, h4, r2⟩ := endB_run h2
    refine ⟨⟨h1, h3⟩, ?_, ?_⟩
    · show (c (j + (p.nsl + q.nsl))).run st Q
      rw [← Nat.add_assoc]; exact h4
    · rintro cs ⟨c1, c2, e, k1, k2⟩
      rw [e, r1 k1, r2 k2]; rfl
  | .sl k, u, xs, j, c, h => by
    cases u <;> first | exact h.elim | skip
    rename_i r gen hc p
    cases p with
    | cons _ _ => exact h.elim
    | nil =>
      have h : (iff' (andB (Nat.beq r j) (Nat.beq gen 0)) (endR j k xs (c (j + 1))) .fail).run st Q := h
      obtain ⟨h1, h2⟩ := iff'_fail h
      obtain ⟨h3, h4⟩ := andB_true.1 h1
      have e1 := Nat.eq_of_beq_eq_true h3
      have e2 := Nat.eq_of_beq_eq_true h4
      subst e1 e2
      obtain ⟨h5, h6⟩ := endR_run h2
      refine ⟨h5, h6, fun {cs} hr => ?_⟩
      obtain ⟨_, _, hv⟩ := hr
      exact (hv ⟨k, xs, true⟩ ⟨h5.2.1, h5.1.symm, .inl (by simp [ix])⟩).2.2
/-- What a region is at the end. -/
theorem end_facts (hS : Sim S st g w a) {st0 : St} (h0 : S.r = st0.r) {g0 : Gh} (hl : S.lay = g0.lay) : ∀ {k : K} {x y : k.T} {l : k.L} {j : Nat}, EndR st k y j → HasR st0 k x j → Plc g0 k x l j → j + k.nsl ≤ 1000 →
    Fit k y (asmL g k j) ∧ ((rows k y (asmL g k j)).map Prod.fst).Nodup ∧ (∀ b c, (b, c) ∈ rows k y (asmL g k j) → (∃ i, j ≤ i ∧ i < j + k.nsl ∧ g.ow b = some (2 * i)) ∧ Blk w b c) ∧ hdr k (mrg k x y) (asmL g k j) = hdr k x l
  | .int _, _, _, _, _, _, _, _, _ => ⟨trivial, by simp [rows], fun b c hb => by simp [rows] at hb, rfl⟩
  | .bool, _, _, _, _, _, _, _, _ => ⟨trivial, by simp [rows], fun b c hb => by simp [rows] at hb, rfl⟩
  | .pair p q, x, y, l, j, he, hr, hp, hj => by
    have hj : j + (p.nsl + q.nsl) ≤ 1000 := hj
    obtain ⟨f1, f2, f3, f4⟩ := end_facts hS h0 hl he.1 hr.1 hp.1 (by omega)
    obtain ⟨g1, g2, g3, g4⟩ := end_facts hS h0 hl he.2 hr.2 hp.2 (by omega)
    refine ⟨⟨f1, g1⟩, ?_, fun b c hb => ?_, ?_⟩
    · show ((rows p y.1 _ ++ rows q y.2 _).map Prod.fst).Nodup
      rw [List.map_append, List.nodup_append]
      refine ⟨f2, g2, fun b hb b' hb' e => ?_⟩
      subst e
      obtain ⟨⟨b1, c1⟩, hm, e1⟩ := List.mem_map.1 hb
      obtain ⟨⟨b2, c2⟩, hm', e2⟩ := List.mem_map.1 hb'
      have e1 : b1 = b := e1
      have e2 : b2 = b := e2
      subst e1 e2
      obtain ⟨⟨i, k1, k2, k3⟩, _⟩ := f3 _ _ hm
      obtain ⟨⟨i', k4, k5, k6⟩, _⟩ := g3 _ _ hm'
      rw [k3] at k6
      have := Option.some.inj k6
      omega
    · rcases List.mem_append.1 (show (b, c) ∈ rows p y.1 _ ++ rows q y.2 _ from hb) with hb | hb
      · obtain ⟨⟨i, k1, k2, k3⟩, k4⟩ := f3 b c hb
        exact ⟨⟨i, k1, by show i < j + (p.nsl + q.nsl); omega, k3⟩, k4⟩
      · obtain ⟨⟨i, k1, k2, k3⟩, k4⟩ := g3 b c hb
        exact ⟨⟨i, by omega, by show i < j + (p.nsl + q.nsl); omega, k3⟩, k4⟩
    · show hdr p (mrg p x.1 y.1) (asmL g p j) ++ hdr q (mrg q x.2 y.2) (asmL g q (j + p.nsl)) = hdr p x.1 l.1 ++ hdr q x.2 l.2
      rw [f4, g4]
  | .sl k, xs, ys, l, j, he, hr, hp, hj => by
    have hj : j + 1 ≤ 1000 := hj
    obtain ⟨e1, e2, e3⟩ := he
    have hR := hS.root j _ e2
    rw [if_pos rfl] at hR
    obtain ⟨f1, f2, f3, f4⟩ := hR
    obtain ⟨zs, inn, t1, t2, t3, t4, t5⟩ := hS.topr j _ (by omega) e1 e2
    refine ⟨f1, f2, fun b c hb => ?_, ?_⟩
    · obtain ⟨k1, k2⟩ := f3 b c hb (by rw [e3]; exact fun h => h)
      exact ⟨⟨j, Nat.le_refl _, Nat.lt_succ_self _, k1⟩, k2⟩
    · have hr : st0.r j = ⟨0, 0, some ⟨k, xs, true⟩, none⟩ := hr
      rw [h0, hr] at t1
      have e : zs = xs := by cases t1; rfl
      subst e
      rw [hl, hp.1] at t3 t4 t5
      show hdr (.sl k) ys (g.lay j (.sl k)) = hdr (.sl k) zs l
      simp only [hdr]
      rw [← t2, ← t3, ← t4, ← t5]
/-- A caller's root behind a call: one of its places is filled anew. -/
theorem root_behind {r : Nat} {rv : RootV} {rc : RC} (hR : RootM g w r rv) (hrc : rv.c = some rc) (hh : rv.hole = none) (hinn : rc.inn = true) {p : Pth} (hp : Okp (.sl rc.k) p rc.xs) {y : ((K.sl rc.k).at p).T} {m : ((K.sl rc.k).at p).L}
    (hf : Fit _ y m) (hn : ((rows _ y m).map Prod.fst).Nodup) (hb : ∀ b c, (b, c) ∈ rows _ y m → g'.ow b = some (2 * r) ∧ Blk w' b c) (hhd : hdr _ y m = hdr _ ((K.sl rc.k).get p rc.xs) ((K.sl rc.k).getL p (g.lay r (.sl rc.k))))
    (hkeep : ∀ b, g.ow b = some (2 * r) → b ∉ (rows _ ((K.sl rc.k).get p rc.xs) ((K.sl rc.k).getL p (g.lay r (.sl rc.k)))).map Prod.fst → g'.ow b = some (2 * r) ∧ w'.heap[b]? = w.heap[b]? ∧ b ∉ (rows _ y m).map Prod.fst)
    (hlay : g'.lay r (.sl rc.k) = (K.sl rc.k).setL p (g.lay r (.sl rc.k)) m) {rv' : RootV} (hrv : rv' = { rv with hc := Nat.succ rv.hc, c := some { rc with xs := (K.sl rc.k).set p rc.xs y } }) :
    RStep rv rv' (g.lay r) (g'.lay r) ∧ RootM g' w' r rv' := by
  have hR := hR rc hrc
  rw [if_pos hinn] at hR
  obtain ⟨f1, f2, f3, f4⟩ := hR
  have f3 : ∀ b c, (b, c) ∈ rows (.sl rc.k) rc.xs (g.lay r (.sl rc.k)) → g.ow b = some (2 * r) ∧ Blk w b c := fun b c hb => f3 b c hb (by rw [hh]; exact fun h => h)
  subst hrv
  have hk : ∀ {b c}, g.ow b = some (2 * r) → Blk w b c → b ∉ (rows _ ((K.sl rc.k).get p rc.xs) ((K.sl rc.k).getL p (g.lay r (.sl rc.k)))).map Prod.fst → g'.ow b = some (2 * r) ∧ Blk w' b c := fun h1 h2 h3 => by
    obtain ⟨k1, k2, _⟩ := hkeep _ h1 h3
    exact ⟨k1, h2.same k2⟩
  by_cases h0 : p = []
  · subst h0
    -- the whole
    have hhd : hdr (.sl rc.k) y m = hdr (.sl rc.k) rc.xs (g.lay r (.sl rc.k)) := hhd
    simp only [hdr, List.cons.injEq, and_true, Value.slice.injEq] at hhd
    obtain ⟨e1, e2, e3⟩ := hhd
    have hlay : g'.lay r (.sl rc.k) = m := hlay
    have ea : (m : SL rc.k.L).a = (g.lay r (.sl rc.k)).a ∧ (m : SL rc.k.L).pre.length = (g.lay r (.sl rc.k)).pre.length := by
      cases h1 : (m : SL rc.k.L).a with
      | none =>
        rw [h1] at e1
        cases h2 : (g.lay r (.sl rc.k)).a with
        | none =>
          refine ⟨rfl, ?_⟩
          rw [(hf.2.2.2 h1).2, (f1.2.2.2 h2).2]
        | some b => rw [h2] at e1; cases e1
      | some b =>
        rw [h1] at e1
        cases h2 : (g.lay r (.sl rc.k)).a with
        | none => rw [h2] at e1; cases e1
        | some b' =>
          rw [h2] at e1
          simp only [Option.map_some, Option.some.injEq, Addr.mk.injEq, and_true] at e1
          exact ⟨by rw [e1.1], e1.2⟩
    refine ⟨.inr ⟨rfl, Nat.le_succ _, fun rc' hrc' => ?_⟩, fun rc' hrc' => ?_⟩
    · have e : rc' = { rc with xs := (K.sl rc.k).set [] rc.xs y } := (Option.some.inj hrc').symm
      subst e
      refine ⟨rc.xs, rc.inn, hrc, id, e2.symm, ?_, ?_, ?_, fun e => ?_⟩
      · rw [hlay]; exact ea.1.symm
      · rw [hlay]; exact ea.2.symm
      · rw [hlay]; exact e3.symm
      · have e : rv.hc = Nat.succ rv.hc := e
        omega
    · have e : rc' = { rc with xs := (K.sl rc.k).set [] rc.xs y } := (Option.some.inj hrc').symm
      subst e
      show if rc.inn = true then _ else _
      rw [if_pos hinn]
      show Fit (.sl rc.k) y (g'.lay r (.sl rc.k)) ∧ ((rows (.sl rc.k) y (g'.lay r (.sl rc.k))).map Prod.fst).Nodup ∧ (∀ b c, (b, c) ∈ rows (.sl rc.k) y (g'.lay r (.sl rc.k)) → _ → _) ∧ _
      rw [hlay]
      exact ⟨hf, hn, fun b c h _ => hb b c h, fun h eh => by
        have eh : rv.hole = some h := eh
        rw [hh] at eh; cases eh⟩
  · have hi : 0 < ix p := by
      cases p with
      | nil => exact absurd rfl h0
      | cons q p => cases q with
        | i n => simp [ix]
        | f => exact hp.1.elim
        | sn => exact hp.1.elim
    obtain ⟨A, b0, c1, c2, R, B, d1, d2, d3⟩ := rows_deep f1 hp hi none
    obtain ⟨t1, t2, t3⟩ := top_setL (g.lay r (.sl rc.k)) m hi hp
    refine ⟨.inr ⟨rfl, Nat.le_succ _, fun rc' hrc' => ?_⟩, fun rc' hrc' => ?_⟩
    · have e : rc' = { rc with xs := (K.sl rc.k).set p rc.xs y } := (Option.some.inj hrc').symm
      subst e
      refine ⟨rc.xs, rc.inn, hrc, id, top_set y hi hp, ?_, ?_, ?_, fun e => ?_⟩
      · rw [hlay]; exact t1
      · rw [hlay]; exact t2
      · rw [hlay]; exact t3
      · have e : rv.hc = Nat.succ rv.hc := e
        omega
    · have e : rc' = { rc with xs := (K.sl rc.k).set p rc.xs y } := (Option.some.inj hrc').symm
      subst e
      show if rc.inn = true then _ else _
      rw [if_pos hinn]
      show Fit (.sl rc.k) ((K.sl rc.k).set p rc.xs y) (g'.lay r (.sl rc.k)) ∧ ((rows (.sl rc.k) ((K.sl rc.k).set p rc.xs y) (g'.lay r (.sl rc.k))).map Prod.fst).Nodup ∧ (∀ b c, (b, c) ∈ rows (.sl rc.k) ((K.sl rc.k).set p rc.xs y) (g'.lay r (.sl rc.k)) → _ → _) ∧ _
      rw [hlay, d3 y m, hhd]
      rw [d1] at f2 f3
      simp only [List.map_append, List.map_cons, List.nodup_append, List.nodup_cons, List.mem_append, List.mem_cons] at f2
      obtain ⟨n0, ⟨n1, ⟨nR, nM, nRM⟩, nB, nRMB⟩, n6⟩ := f2
      -- the others
      have oth : ∀ b c, ((b, c) ∈ A ∨ (b, c) = (b0, c1 ++ hdr _ ((K.sl rc.k).get p rc.xs) ((K.sl rc.k).getL p (g.lay r (.sl rc.k))) ++ c2) ∨ (b, c) ∈ R ∨ (b, c) ∈ B) → (g'.ow b = some (2 * r) ∧ Blk w' b c) ∧ b ∉ (rows _ y m).map Prod.fst := by
        intro b c hbc
        have hm : (b, c) ∈ A ++ (b0, c1 ++ hdr _ ((K.sl rc.k).get p rc.xs) ((K.sl rc.k).getL p (g.lay r (.sl rc.k))) ++ c2) :: (R ++ rows _ ((K.sl rc.k).get p rc.xs) ((K.sl rc.k).getL p (g.lay r (.sl rc.k))) ++ B) := by
          simp only [List.mem_append, List.mem_cons]
          rcases hbc with h | h | h | h
          · exact .inl h
          · exact .inr (.inl h)
          · exact .inr (.inr (.inl (.inl h)))
          · exact .inr (.inr (.inr h))
        obtain ⟨k1, k2⟩ := f3 b c hm
        have hnb : b ∉ (rows _ ((K.sl rc.k).get p rc.xs) ((K.sl rc.k).getL p (g.lay r (.sl rc.k)))).map Prod.fst := by
          intro hx
          rcases hbc with h | h | h | h
          · exact n6 b (List.mem_map_of_mem (f := Prod.fst) h) b (.inr (.inl (.inr hx))) rfl
          · cases h; exact n1 (.inl (.inr hx))
          · exact nRM b (List.mem_map_of_mem (f := Prod.fst) h) b hx rfl
          · exact nRMB b (.inr hx) b (List.mem_map_of_mem (f := Prod.fst) h) rfl
        exact ⟨hk k1 k2 hnb, (hkeep b k1 hnb).2.2⟩
      refine ⟨Fit_set f1 hp hf, ?_, fun b c hbc _ => ?_, fun h eh => by
        have eh : rv.hole = some h := eh
        rw [hh] at eh; cases eh⟩
      · have fstA : ∀ b, b ∈ A.map Prod.fst ∨ b = b0 ∨ b ∈ R.map Prod.fst ∨ b ∈ B.map Prod.fst → b ∉ (rows _ y m).map Prod.fst := by
          intro b h
          rcases h with h | h | h | h
          · obtain ⟨⟨b1, c⟩, hm, e⟩ := List.mem_map.1 h
            have e : b1 = b := e
            subst e
            exact (oth _ c (.inl hm)).2
          · subst h; exact (oth _ _ (.inr (.inl rfl))).2
          · obtain ⟨⟨b1, c⟩, hm, e⟩ := List.mem_map.1 h
            have e : b1 = b := e
            subst e
            exact (oth _ c (.inr (.inr (.inl hm)))).2
          · obtain ⟨⟨b1, c⟩, hm, e⟩ := List.mem_map.1 h
            have e : b1 = b := e
            subst e
            exact (oth _ c (.inr (.inr (.inr hm)))).2
        simp only [List.map_append, List.map_cons, List.nodup_append, List.nodup_cons, List.mem_append, List.mem_cons]
        refine ⟨n0, ⟨?_, ⟨nR, hn, ?_⟩, nB, ?_⟩, ?_⟩
        · rintro ((h | h) | h)
          · exact n1 (.inl (.inl h))
          · exact fstA b0 (.inr (.inl rfl)) h
          · exact n1 (.inr h)
        · rintro z hz z' hz' rfl
          exact fstA z (.inr (.inr (.inl hz))) hz'
        · rintro z (hz | hz) z' hz' rfl
          · exact nRMB z (.inl hz) z hz' rfl
          · exact fstA z (.inr (.inr (.inr hz'))) hz
        · rintro z hz z' (hz' | ((hz' | hz') | hz')) rfl
          · exact n6 z hz z (.inl hz') rfl
          · exact n6 z hz z (.inr (.inl (.inl hz'))) rfl
          · exact fstA z (.inl hz) hz'
          · exact n6 z hz z (.inr (.inr hz')) rfl
      · rcases List.mem_append.1 hbc with h | h
        · exact (oth b c (.inl h)).1
        · rcases List.mem_cons.1 h with h | h
          · exact (oth b c (.inr (.inl h))).1
          · rcases List.mem_append.1 h with h | h
            · rcases List.mem_append.1 h with h | h
              · exact (oth b c (.inr (.inr (.inl h)))).1
              · exact hb b c h
            · exact (oth b c (.inr (.inr (.inr h)))).1
end
end Go.Am
namespace Go.Am
def Shp1 (v : Value) (p : Bool) : Prop := (p = true → ∃ c, v = .agg c) ∧ (p = false → v.cells.toList = [v])
/-- 'U': blocks of lasting memory; 'V': blocks that the callee let go. -/
def ResOk (fr : Bool) (U V : Nat → Prop) (g : Gh) (w : World) : RP → Value → Cont → Cont → List (Nat × List Value) → List Nat → Prop
  | .vw k, v, ys, rest, RD, BD => ∃ x, ys = ⟨k, x⟩ :: rest ∧ RV U w k x v.cells.toList ∧ Shp1 v k.isPair ∧ RD = [] ∧ BD = []
  | .fz k, v, ys, rest, RD, BD => ∃ x, ys = ⟨k, x⟩ :: rest ∧ RV U w k x v.cells.toList ∧ Shp1 v k.isPair ∧ RD = [] ∧ BD = []
  | .own k, v, ys, rest, RD, BD => ∃ x, ys = ⟨k, x⟩ :: rest ∧ Shp1 v k.isPair ∧ BD = [] ∧
      if fr = true then RV V w k x v.cells.toList ∧ RD = [] else ∃ l, Fit k x l ∧ v.cells.toList = hdr k x l ∧ RD = rows k x l
  | .bx k, v, ys, rest, RD, BD => ∃ x b0 cs b, ys = ⟨k, x⟩ :: rest ∧ v = .pointer (some ⟨b0, 0, none⟩) ∧ Blk w b0 cs ∧ RV U w k x cs ∧ g.ow b0 = some (2 * b + 3) ∧ 1000 ≤ b ∧ RD = [] ∧ BD = [b0]
  | .nil, v, ys, rest, RD, BD => v = .tuple #[] ∧ ys = rest ∧ RD = [] ∧ BD = []
  | .cons a b, v, ys, rest, RD, BD => ∃ x xs ys1 RD1 RD2 BD1 BD2, v = .tuple (x :: xs).toArray ∧ ResOk fr U V g w a x ys ys1 RD1 BD1 ∧ ResOk fr U V g w b (.tuple xs.toArray) ys1 rest RD2 BD2 ∧ RD = RD1 ++ RD2 ∧ BD = BD1 ++ BD2
section
variable {P : Program} {E : Env} {S : Start} {st st1 st2 st' : St} {g g' g2 : Gh} {w w' : World} {a : Act} {Q : St → Prop} {gd : Gd} {o : Oper} {Qx : Exit → Act → World → Prop}
theorem RV.any {U U' : Nat → Prop} {w : World} {k : K} (hk : k.flat = true) {x : k.T} {cs : List Value} (h : RV U w k x cs) : RV U' w k x cs := by
  rw [h.flat hk k.dl]; exact RV.of_flat hk x k.dl
theorem ResOk.up {fr : Bool} {U V U' V' : Nat → Prop} (hV : ∀ b, V b → V' b) : ∀ {rp : RP} {v : Value} {ys rest : Cont} {RD : List (Nat × List Value)} {BD : List Nat}, (rp.gives = false ∨ ∀ b, U b → U' b) →
    (∀ b x, b ∈ BD → g.ow b = some (2 * x + 3) → 1000 ≤ x → ∃ x', g'.ow b = some (2 * x' + 3) ∧ 1000 ≤ x') → ResOk fr U V g w rp v ys rest RD BD → ResOk fr U' V' g' w rp v ys rest RD BD
  | .vw k, _, _, _, _, _, hU, _, ⟨x, e, h1, h2⟩ => by
    refine ⟨x, e, ?_, h2⟩
    rcases hU with hU | hU
    · exact h1.any (by have : notB k.flat = false := hU; revert this; cases k.flat <;> simp [notB])
    · exact h1.mono fun b hb => ⟨hU b hb, rfl⟩
  | .fz k, _, _, _, _, _, hU, _, ⟨x, e, h1, h2⟩ => by
    refine ⟨x, e, ?_, h2⟩
    rcases hU with hU | hU
    · exact h1.any (by have : notB k.flat = false := hU; revert this; cases k.flat <;> simp [notB])
    · exact h1.mono fun b hb => ⟨hU b hb, rfl⟩
  | .own _, _, _, _, _, _, _, _, ⟨x, e, h1, h2, h3⟩ => by
    refine ⟨x, e, h1, h2, ?_⟩
    split
    · rename_i hf
      rw [if_pos hf] at h3
      exact ⟨h3.1.mono fun b hb => ⟨hV b hb, rfl⟩, h3.2⟩
    · rename_i hf
      rw [if_neg hf] at h3
      exact h3
  | .bx k, _, _, _, _, _, hU, ho, ⟨x, b0, cs, b, e, h1, h2, h3, h4, h5, h6, h7⟩ => by
    obtain ⟨b', k1, k2⟩ := ho b0 b (by rw [h7]; simp) h4 h5
    refine ⟨x, b0, cs, b', e, h1, h2, ?_, k1, k2, h6, h7⟩
    rcases hU with hU | hU
    · exact h3.any (by have : notB k.flat = false := hU; revert this; cases k.flat <;> simp [notB])
    · exact h3.mono fun b hb => ⟨hU b hb, rfl⟩
  | .nil, _, _, _, _, _, _, _, h => h
  | .cons a b, _, _, _, _, _, hU, ho, ⟨x, xs, ys1, RD1, RD2, BD1, BD2, e, h1, h2, h3, h4⟩ => by
    refine ⟨x, xs, ys1, RD1, RD2, BD1, BD2, e, h1.up hV ?_ (fun b x hb => ho b x (by rw [h4]; exact List.mem_append_left _ hb)), h2.up hV ?_ (fun b x hb => ho b x (by rw [h4]; exact List.mem_append_right _ hb)), h3, h4⟩
    · refine hU.imp (fun h => ?_) id
      have h : orB a.gives b.gives = false := h
      revert h; cases a.gives <;> simp [orB]
    · refine hU.imp (fun h => ?_) id
      have h : orB a.gives b.gives = false := h
      revert h; cases a.gives <;> simp [orB]
/-- What returning changes. -/
structure Chg (st st2 : St) (g g2 : Gh) (w : World) : Prop where
  root : ∀ r, st2.r r = st.r r ∨ (st2.r r).c = none
  box : ∀ b, st2.b b = st.b b ∨ ((st2.b b).c = none ∧ 1000 ≤ b)
  lay : g2.lay = g.lay
  bx : g2.bx = g.bx
  U : ∀ b, g.U w b → g2.U w b
  ow : ∀ b, g2.ow b = g.ow b ∨ (g2.ow b = none ∧ ∃ r, g.ow b = some (2 * r))
  rep : ∀ v x, RepV st g w v x → RepV st2 g2 w v x
theorem Chg.refl : Chg st st g g w := ⟨fun _ => .inl rfl, fun _ => .inl rfl, rfl, rfl, fun _ h => h, fun _ => .inl rfl, fun _ _ h => h⟩
theorem Chg.trans (h : Chg st st1 g g' w) (k : Chg st1 st2 g' g2 w) : Chg st st2 g g2 w := by
  refine ⟨fun r => ?_, fun b => ?_, k.lay.trans h.lay, k.bx.trans h.bx, fun b hb => k.U b (h.U b hb), fun b => ?_, fun v x hv => k.rep v x (h.rep v x hv)⟩
  · rcases k.root r with e | e
    · rw [e]; exact h.root r
    · exact .inr e
  · rcases k.box b with e | e
    · rw [e]; exact h.box b
    · exact .inr e
  · rcases k.ow b with e | ⟨e, r, e'⟩
    · rw [e]; exact h.ow b
    · rcases h.ow b with f | ⟨f, _⟩
      · exact .inr ⟨e, r, by rw [← f]; exact e'⟩
      · rw [f] at e'; cases e'
theorem Chg.far (h : Chg st st2 g g2 w) (b x : Nat) (hb : g.ow b = some (2 * x + 3)) : g2.ow b = some (2 * x + 3) := by
  rcases h.ow b with e | ⟨_, r, e⟩
  · rw [e]; exact hb
  · rw [hb] at e; have := Option.some.inj e; omega
theorem Chg.used (h : Used st st1) (hr : ∀ v x, RepV st g w v x → RepV st1 g w v x) : Chg st st1 g g w :=
  ⟨fun r => (h.root r).imp id fun h => h.1, fun b => .inl (used_b h.boxes b), rfl, rfl, fun _ h => h, fun _ => .inl rfl, hr⟩
theorem used_rep (h : Used st st1) : ∀ v x, RepV st g w v x → RepV st1 g w v x := by
  intro v x hv
  refine RepV.step (fun _ hb => ⟨hb, rfl⟩) (fun r => ?_) (fun b => ?_) hv
  · rcases h.root r with e | ⟨e, e'⟩
    · rw [e]; exact RStep.refl _ _
    · exact .inl e'
  · rw [used_b h.boxes]; exact BStep.refl _ _
/-- Rows at the end of the pool let go. -/
theorem Sim.letgo2 (hS : Sim S st g w a) {R T : List (Nat × List Value)} (hP : Pool st g w (R ++ T)) :
    ∃ g', Sim S st g' w a ∧ Chg st st g g' w ∧ (∀ b, b ∈ T.map Prod.fst → g'.U w b) ∧ Pool st g' w R := by
  have hn := hP.nodup
  rw [List.map_append, List.nodup_append] at hn
  have hT : Pool st g w T := ⟨hn.2.1, fun b c hb => hP.row b c (List.mem_append_right _ hb)⟩
  obtain ⟨g', s1, s2, s3, s4, s5, s6, s7, s8⟩ := hS.letgo hT
  refine ⟨g', s1, ⟨fun _ => .inl rfl, fun _ => .inl rfl, s6, s7, s4, fun b => ?_, s3⟩, s5, hn.1, fun b c hb => ?_⟩
  · by_cases hb : b ∈ T.map Prod.fst
    · obtain ⟨⟨b1, c1⟩, hm, e1⟩ := List.mem_map.1 hb
      have e1 : b1 = b := e1
      subst e1
      obtain ⟨_, r, h1, _⟩ := hT.row _ _ hm
      exact .inr ⟨(s5 b1 hb).2, r, h1⟩
    · exact .inl (s8 b hb)
  · obtain ⟨h1, r, h2, h3⟩ := hP.row b c (List.mem_append_left _ hb)
    exact ⟨h1, r, by rw [s8 b (fun hm => hn.2.2 b (List.mem_map_of_mem (f := Prod.fst) hb) b hm rfl)]; exact h2, h3⟩
theorem Src.seen {k : K} {inn : Bool} {xs : List k.T} {v : Value} {R R0 : List (Nat × List Value)} (h : Src g w k inn xs v R) (hP : Pool st g w (R0 ++ R)) :
    RV (fun b => g.U w b ∨ b ∈ R.map Prod.fst) w (.sl k) xs [v] := by
  obtain ⟨l, body, I, e, h1, h2, h3, h4, h5, h6, h7, h8⟩ := h
  refine ⟨_, _, by rw [e], h1, fun ad hA => ?_, fun i hi => ?_⟩
  · cases ha : l.a with
    | none => rw [ha] at hA; cases hA
    | some b => rw [ha] at hA; cases hA; exact fun _ => rfl
  · cases ha : l.a with
    | none =>
      have := h2 ha
      have hi : i < List.length xs := hi
      omega
    | some b =>
      have hb := (hP.row b (l.pre ++ body ++ l.post) (by rw [h6]; simp [topR, ha])).1
      have hin : b ∈ R.map Prod.fst := by rw [h6]; simp [topR, ha]
      cases inn with
      | true =>
        obtain ⟨f1, f2, f3⟩ := h7 rfl
        have hlen := allZ_length f1
        refine ⟨⟨b, l.pre.length, none⟩, hdr k (List.getD xs i k.d) (l.els.getD i k.dl), rfl, .inr hin, ?_, ?_⟩
        · rw [f2] at hb
          exact zipC_at hb.cells hlen hi
        · refine RV.own (allZ_get f1 i _ _ hi) fun b' c' hb' => ?_
          have hm : (b', c') ∈ R := by
            rw [h6, f3]
            refine List.mem_append_right _ ?_
            obtain ⟨A, B, q1, _⟩ := zipR_split k.d k.dl xs l.els i hlen hi
            rw [q1]
            exact List.mem_append_left _ (List.mem_append_right _ hb')
          exact ⟨(hP.row b' c' (List.mem_append_right _ hm)).1, .inr (List.mem_map_of_mem (f := Prod.fst) hm)⟩
      | false =>
        obtain ⟨_, cs, f1, f2, f3⟩ := h8 rfl
        have hi' : i < List.length xs := hi
        refine ⟨⟨b, l.pre.length, none⟩, cs.getD i [], rfl, .inr hin, ?_, (f3 i hi').mono fun b hb => ⟨.inl hb, rfl⟩⟩
        rw [f2] at hb
        exact chunk_cells hb (fun j hj => (f3 j (by omega)).length) (by omega)
theorem clsV_run : ∀ {k : K} {v : AV} {c : k.T → Prog} {cs : List Value} {R : List (Nat × List Value)} {st : St}, (clsV k v c).run st Q → Sim S st g w a → Pool st g w R → Rep st g w v cs →
    ∃ x st1 T, (c x).run st1 Q ∧ Sim S st1 g w a ∧ Used st st1 ∧ (∀ v cs, Rep st g w v cs → Rep st1 g w v cs) ∧ Pool st1 g w (R ++ T) ∧ RV (fun b => g.U w b ∨ b ∈ T.map Prod.fst) w k x cs ∧ v.isPr = k.isPair ∧ v.one = true ∧ v ≠ .dead := by
  intro k
  induction k with
  | int ik =>
    intro v c cs R st h hS hP hr
    cases v <;> first | exact h.elim | skip
    obtain ⟨h1, h2⟩ := iff'_fail h
    have e := eqIK_eq h1
    subst e
    exact ⟨_, st, [], h2, hS, Used.refl _, fun _ _ h => h, by simpa using hP, hr, rfl, rfl, by simp⟩
  | bool =>
    intro v c cs R st h hS hP hr
    cases v <;> first | exact h.elim | skip
    exact ⟨_, st, [], h, hS, Used.refl _, fun _ _ h => h, by simpa using hP, hr, rfl, rfl, by simp⟩
  | pair p q ip iq =>
    intro v c cs R st h hS hP hr
    cases v <;> first | exact h.elim | skip
    rename_i u t
    obtain ⟨c1, c2, e, r1, r2⟩ := hr
    replace h : (clsV p u fun x => clsV q t fun y => c (x, y)).run st Q := h
    obtain ⟨x, st1, T, h1, s1, u1, m1, p1, v1, _⟩ := ip h hS hP r1
    obtain ⟨y, st2, T', h2, s2, u2, m2, p2, v2, _⟩ := iq h1 s1 p1 (m1 _ _ r2)
    refine ⟨(x, y), st2, T ++ T', h2, s2, u1.trans u2, fun v cs h => m2 _ _ (m1 _ _ h), by simpa [List.append_assoc] using p2, ⟨c1, c2, e, v1.mono fun b hb => ⟨?_, rfl⟩, v2.mono fun b hb => ⟨?_, rfl⟩⟩, rfl, rfl, by simp⟩
    · rw [List.map_append, List.mem_append]
      exact hb.imp id .inl
    · rw [List.map_append, List.mem_append]
      exact hb.imp id .inr
  | sl k ih =>
    intro v c cs R st h hS hP hr
    cases v with
    | nils => exact ⟨([] : List k.T), st, [], h, hS, Used.refl _, fun _ _ h => h, by simpa using hP, ⟨none, 0, hr, Nat.le_refl _, fun _ h => (by cases h), fun i hi => (by simp at hi)⟩, rfl, rfl, by simp⟩
    | vsl k' xs =>
      replace h : (match K.same k' k with | some ⟨h⟩ => c (h ▸ xs) | none => .fail).run st Q := h
      split at h
      · rename_i hk _
        have hk : k' = k := hk
        subst hk
        exact ⟨xs, st, [], h, hS, Used.refl _, fun _ _ h => h, by simpa using hP, RV.mono (fun b hb => ⟨.inl hb, rfl⟩) (show RV (g.U w) w (.sl k') xs cs from hr), rfl, rfl, by simp⟩
      · exact h.elim
    | rf r gen hc p =>
      cases p with
      | cons _ _ => exact h.elim
      | nil =>
        replace h : (live gen (st.r r) fun rc => match K.same rc.k k with | some ⟨h⟩ => .wrR r { (st.r r) with gen := Nat.succ (st.r r).gen, c := none } (c (h ▸ rc.xs)) | none => .fail).run st Q := h
        obtain ⟨rc, h1, h2, h3, h4⟩ := live_run h
        split at h4
        · rename_i hk _
          obtain ⟨rk, xs, inn⟩ := rc
          have hk : rk = k := hk
          subst hk
          obtain ⟨⟨A, n, cc, ec⟩, _⟩ := id hr
          subst ec
          obtain ⟨s1, s2, s3, T, s4, s5⟩ := hS.useRoot hP h1 h2 h3 hr rfl
          exact ⟨xs, _, T, h4, s1, Used.one st r rfl rfl, s2, s5, s4.seen s5, rfl, rfl, by simp⟩
        · exact h4.elim
    | _ => exact h.elim
theorem Pool.sub {R T T' : List (Nat × List Value)} (h : Pool st g w (R ++ T)) (hs : T'.Sublist T) : Pool st g w (R ++ T') :=
  ⟨h.nodup.sublist ((List.Sublist.append (List.Sublist.refl _) hs).map _), fun b c hb => h.row b c ((List.Sublist.append (List.Sublist.refl _) hs).subset hb)⟩
theorem clsR_run : ∀ {k : K} {v : AV} {c : k.T → Prog} {cs : List Value} {R : List (Nat × List Value)} {st : St} (_ : (clsR k v c).run st Q) (_ : Sim S st g w a) (_ : Pool st g w R) (_ : Rep st g w v cs),
    ∃ x l st1, Sim S st1 g w a ∧ (Used st st1 ∧ likeK k v = true) ∧ Fit k x l ∧ cs = hdr k x l ∧ Pool st1 g w (R ++ rows k x l) ∧ (c x).run st1 Q := by
  intro k v c cs R st h hS hP hr
  unfold clsR at h
  split at h
  · rename_i k' r gen hc lo hi c
    obtain ⟨_, hle, hv⟩ := hr
    have h0 : (live gen (st.r r) fun rc => iff' rc.inn (match K.same rc.k k' with | some ⟨e⟩ => .wrR r { (st.r r) with gen := Nat.succ (st.r r).gen, c := none } ((fun xs : List k'.T => Prog.vc (lo ≤ hi ∧ hi = List.length xs) (c (List.drop lo xs))) (e ▸ rc.xs)) | none => .fail) .fail).run st Q := h
    obtain ⟨rc, h1, h2, h3, h4⟩ := live_run h0
    obtain ⟨_, h5⟩ := iff'_fail h4
    split at h5
    · rename_i hk _
      obtain ⟨rk, xs, inn⟩ := rc
      have hk : rk = k' := hk
      subst hk
      obtain ⟨_, kk, ek, q1, q2, A, n, cap, q3, q4⟩ := hv _ ⟨h1, h2, .inl (by simp [ix])⟩
      have ek' : kk = rk := by cases ek; rfl
      subst ek'
      have hrf : Rep st g w (.rf r gen hc []) (hdr (.sl kk) xs (g.lay r (.sl kk))) := ⟨⟨_, _, _, rfl⟩, hle, fun rc' hv' => by
        have e : rc' = ⟨kk, xs, inn⟩ := by have := hv'.1; rw [h1] at this; exact (Option.some.inj this).symm
        subst e
        exact ⟨trivial, ⟨_, rfl⟩, rfl⟩⟩
      obtain ⟨x, l, st1, s1, u1, m1, f1, e1, p1, ⟨⟨g1, g2⟩, g3⟩⟩ := cls_run h hS hP hrf
      have q3 : hdr (.sl kk) xs (g.lay r (.sl kk)) = [.slice A n cap] := q3
      have e2 : hdr (.sl kk) x l = [.slice (l.a.map fun b => ⟨b, l.pre.length, none⟩) (List.length x) l.cap] := rfl
      rw [← e1, q3] at e2
      have e3 := (List.cons.inj e2).1
      injection e3 with e4 e5 e6
      have hlo : lo ≤ List.length x := by omega
      obtain ⟨A1, B1, r1, r2⟩ := cutL_rows f1 hlo
      refine ⟨List.drop lo x, cutL x l lo, st1, s1, ⟨u1.1, rfl⟩, cutL_fit f1 hlo, ?_, p1.sub ?_, g3⟩
      · rw [q4, cutL_hdr f1 hlo, e4, e6, g2]
      · rw [r1, r2]; exact List.Sublist.append (List.Sublist.refl _) (List.drop_sublist ..)
    · exact h5.elim
  · obtain ⟨x, l, st1, s1, u1, m1, f1, e1, p1, h1⟩ := cls_run h hS hP hr
    exact ⟨x, l, st1, s1, ⟨u1.1, u1.2.2.1⟩, f1, e1, p1, h1⟩
theorem res_run (fr : Bool) : ∀ {rp : RP} {rv : AV} {ys : Cont} {c : Cont → Prog} {v : Value} {R : List (Nat × List Value)} {st : St} {g : Gh}, (res rp rv ys c).run st Q → Sim S st g w a → RepV st g w rv v → Pool st g w R →
    ∃ rest st2 g2 RD BD, (c rest).run st2 Q ∧ Sim S st2 g2 w a ∧ Chg st st2 g g2 w ∧ Pool st2 g2 w (R ++ RD) ∧ ResOk fr (g2.U w) (fun b => g2.U w b ∧ (b < S.w.heap.size → S.ow b ≠ none)) g2 w rp v ys rest RD BD := by
  intro rp
  induction rp with
  | vw k =>
    intro rv ys c v R st g h hS hv hP
    cases ys with
    | nil => exact h.elim
    | cons y r =>
      have hone : rv.one = true ∧ rv ≠ .dead := by
        cases rv <;> first | (refine ⟨rfl, ?_⟩; simp; done) | (exfalso; replace h : (y.as k fun x => vwS k _ fun z => .vc (z = x) (c r)).run st Q := h; unfold Dyn.as at h; split at h; (cases k <;> exact h.elim); exact h.elim)
      obtain ⟨c1, c2, c3⟩ := one_cells hv hone.1 hone.2
      replace h : (y.as k fun x => vwS k rv fun z => .vc (z = x) (c r)).run st Q := h
      unfold Dyn.as at h
      split at h
      · rename_i hk _
        obtain ⟨yk, x⟩ := y
        have hk : yk = k := hk
        subst hk
        obtain ⟨z, ⟨h1, h2⟩, rv1, hp, _⟩ := vwS_run h c1
        have h1 : z = x := h1
        subst h1
        exact ⟨r, st, g, [], [], h2, hS, Chg.refl, by simpa using hP, z, rfl, rv1, ⟨fun e => c2 (by rw [hp]; exact e), fun e => c3 (by rw [hp]; exact e)⟩, rfl, rfl⟩
      · exact h.elim
  | fz k =>
    intro rv ys c v R st g h hS hv hP
    cases ys with
    | nil => exact h.elim
    | cons y r =>
      have hone : rv.one = true ∧ rv ≠ .dead := by
        cases rv <;> first | (refine ⟨rfl, ?_⟩; simp; done) | (exfalso; replace h : (y.as k fun x => clsV k _ fun z => .vc (z = x) (c r)).run st Q := h; unfold Dyn.as at h; split at h; (cases k <;> exact h.elim); exact h.elim)
      obtain ⟨c1, c2, c3⟩ := one_cells hv hone.1 hone.2
      replace h : (y.as k fun x => clsV k rv fun z => .vc (z = x) (c r)).run st Q := h
      unfold Dyn.as at h
      split at h
      · rename_i hk _
        obtain ⟨yk, x⟩ := y
        have hk : yk = k := hk
        subst hk
        obtain ⟨z, st1, T, ⟨h1, h2⟩, s1, u1, m1, p1, rv1, hp, _⟩ := clsV_run h hS hP c1
        have h1 : z = x := h1
        subst h1
        obtain ⟨g', t1, t2, t3, t4⟩ := s1.letgo2 p1
        exact ⟨r, st1, g', [], [], h2, t1, (Chg.used u1 (used_rep u1)).trans t2, by simpa using t4, z, rfl, rv1.mono (fun b hb => ⟨hb.elim (t2.U b) (t3 b), rfl⟩), ⟨fun e => c2 (by rw [hp]; exact e), fun e => c3 (by rw [hp]; exact e)⟩, rfl, rfl⟩
      · exact h.elim
  | own k =>
    intro rv ys c v R st g h hS hv hP
    cases ys with
    | nil => exact h.elim
    | cons y r =>
      have hone : rv.one = true ∧ rv ≠ .dead := by
        cases rv <;> first | (refine ⟨rfl, ?_⟩; simp; done) | (exfalso; replace h : (y.as k fun x => clsR k _ fun z => .vc (z = x) (c r)).run st Q := h; unfold Dyn.as at h; split at h; (cases k <;> exact h.elim); exact h.elim)
      obtain ⟨c1, c2, c3⟩ := one_cells hv hone.1 hone.2
      replace h : (y.as k fun x => clsR k rv fun z => .vc (z = x) (c r)).run st Q := h
      unfold Dyn.as at h
      split at h
      · rename_i hk _
        obtain ⟨yk, x⟩ := y
        have hk : yk = k := hk
        subst hk
        obtain ⟨z, l, st1, s1, u1, f1, e1, p1, ⟨h1, h2⟩⟩ := clsR_run h hS hP c1
        have h1 : z = x := h1
        subst h1
        have hp := (likeK_w u1.2).2
        have hch := Chg.used (g := g) (w := w) u1.1 (used_rep u1.1)
        have shp : Shp1 v yk.isPair := ⟨fun e => c2 (by rw [hp]; exact e), fun e => c3 (by rw [hp]; exact e)⟩
        cases fr with
        | true =>
          obtain ⟨g', t1, t2, t3, t4⟩ := s1.letgo2 p1
          refine ⟨r, st1, g', [], [], h2, t1, hch.trans t2, by simpa using t4, z, rfl, shp, rfl, ?_⟩
          rw [if_pos rfl]
          refine ⟨?_, rfl⟩
          rw [e1]
          exact RV.own f1 fun b c hb => ⟨(p1.row b c (List.mem_append_right _ hb)).1, t3 b (List.mem_map_of_mem (f := Prod.fst) hb), fun hlt => by
            obtain ⟨_, r, k1, _⟩ := p1.row b c (List.mem_append_right _ hb)
            exact s1.was b _ k1 hlt⟩
        | false =>
          refine ⟨r, st1, g, rows yk z l, [], h2, s1, hch, p1, z, rfl, shp, rfl, ?_⟩
          rw [if_neg (by simp)]
          exact ⟨l, f1, e1, rfl⟩
      · exact h.elim
  | bx k =>
    intro rv ys c v R st g h hS hv hP
    cases ys with
    | nil => exact h.elim
    | cons y r =>
      replace h : (match y :: r, rv with
        | y :: r, .pb b gen [] => y.as k fun x => iff' (Nat.blt b 1000) .fail <| Prog.rdB b fun bv => match bv.c with
          | some u => iff' (andB (Nat.beq gen bv.gen) (notB bv.ro)) (vwS k u fun z => .vc (z = x) (.wrB b { bv with gen := Nat.succ bv.gen, c := none } (c r))) .fail
          | none => .fail
        | _, _ => .fail).run st Q := h
      split at h
      · rename_i y0 r0 b gen ey
        cases ey
        unfold Dyn.as at h
        split at h
        · rename_i hk _
          obtain ⟨yk, x⟩ := y
          have hk : yk = k := hk
          subst hk
          rcases iff'_run h with ⟨_, h⟩ | ⟨hlt, h⟩
          · exact h.elim
          have hb : 1000 ≤ b := by
            by_cases hlt' : b < 1000
            · have : Nat.blt b 1000 = true := Nat.ble_eq_true_of_le hlt'
              rw [this] at hlt; cases hlt
            · omega
          replace h : (match (st.b b).c with
            | some u => iff' (andB (Nat.beq gen (st.b b).gen) (notB (st.b b).ro)) (vwS yk u fun z => .vc (z = x) (.wrB b { (st.b b) with gen := Nat.succ (st.b b).gen, c := none } (c r))) .fail
            | none => Prog.fail).run st Q := h
          split at h
          · rename_i u hu
            obtain ⟨h1, h2⟩ := iff'_fail h
            obtain ⟨h3, h4⟩ := andB_true.1 h1
            have e3 := Nat.eq_of_beq_eq_true h3
            have h4 := notB_true.1 h4
            obtain ⟨b1, b2⟩ := hS.box b u hu
            rw [if_neg (by rw [h4]; simp)] at b2
            obtain ⟨b3, b4, cs, b5, b6⟩ := b2
            obtain ⟨z, ⟨h5, h6⟩, rv1, _⟩ := vwS_run h2 b6
            have h5 : z = x := h5
            subst h5
            have key := hS.next (st' := st.wb b { (st.b b) with gen := Nat.succ (st.b b).gen, c := none }) (g' := g) (w' := w) (fun t => rfl) (fun _ hb => ⟨hb, rfl⟩) (fun r => .inl ⟨rfl, rfl, fun _ _ h => ⟨h, rfl⟩⟩)
              (fun b' => by
                rw [St.b_wb]
                split
                · rename_i e
                  subst e
                  exact .inr ⟨.inl (Nat.lt_succ_self _), fun _ v hv => (by cases hv)⟩
                · exact .inl ⟨rfl, rfl, fun _ h => ⟨h, rfl⟩⟩)
              hS.own rfl rfl rfl (Nat.le_refl _) (fun _ h => ⟨h, rfl⟩)
            obtain ⟨_, _, kk⟩ := (show Rep st g w (.pb b gen []) [v] from hv)
            obtain ⟨_, k2⟩ := kk u hu e3
            refine ⟨r, _, g, [], [(g.bx b).1], h6, key.1, ⟨fun _ => .inl rfl, fun b' => ?_, rfl, rfl, fun _ h => h, fun _ => .inl rfl, key.2.2⟩, ⟨by simpa using hP.nodup, fun b c hb => hP.row b c (by simpa using hb)⟩, z, (g.bx b).1, cs, b, rfl, ?_, b5, rv1, b4, hb, rfl, rfl⟩
            · rw [St.b_wb]
              split
              · rename_i e; subst e; exact .inr ⟨rfl, hb⟩
              · exact .inl rfl
            · rw [(av_nil _).2.1, b3] at k2
              exact (List.cons.inj k2).1
          · exact h.elim
        · exact h.elim
      · exact h.elim
  | nil =>
    intro rv ys c v R st g h hS hv hP
    replace h : (match rv with | .nil => c ys | _ => Prog.fail).run st Q := h
    split at h
    · obtain ⟨vs, e, h1⟩ := hv
      have h1 : vs.toList = [] := h1
      have : vs = #[] := by apply Array.ext'; simpa using h1
      subst this
      exact ⟨ys, st, g, [], [], h, hS, Chg.refl, by simpa using hP, e, rfl, rfl, rfl⟩
    · exact h.elim
  | cons p q ip iq =>
    intro rv ys c v R st g h hS hv hP
    replace h : (match rv with | .cons u w => iff' (andB u.one w.isList) (res p u ys fun ys => res q w ys c) .fail | _ => Prog.fail).run st Q := h
    split at h
    · rename_i u t
      obtain ⟨h1, h2⟩ := iff'_fail h
      obtain ⟨o1, o2⟩ := andB_true.1 h1
      obtain ⟨vs, ev, x, xs, e, hx, hxs⟩ := hv
      have hvs : vs = (x :: xs).toArray := by apply Array.ext'; simpa using e
      subst hvs
      have ht : RepV st g w t (.tuple xs.toArray) := by
        cases t <;> first | (simp [AV.isList] at o2; done) | exact ⟨xs.toArray, rfl, by simpa using hxs⟩
      obtain ⟨ys1, st1, g1, RD1, BD1, h3, s1, c1, p1, k1⟩ := ip h2 hS (of_one o1 hx) hP
      obtain ⟨rest, st2, g2, RD2, BD2, h4, s2, c2, p2, k2⟩ := iq h3 s1 (c1.rep _ _ ht) p1
      exact ⟨rest, st2, g2, RD1 ++ RD2, BD1 ++ BD2, h4, s2, c1.trans c2, by simpa [List.append_assoc] using p2, x, xs, ys1, RD1, RD2, BD1, BD2, ev, k1.up (fun b hb => ⟨c2.U b hb.1, hb.2⟩) (.inr c2.U) (fun b x _ h1 h2 => ⟨x, c2.far b x h1, h2⟩), k2, rfl, rfl⟩
    · exact h.elim
end
end Go.Am
namespace Go.Am
structure Rgn where
  r : Nat
  p : Pth
  k : K
  x : k.T
  l : k.L
  y : k.T
  j : Nat
structure Bxn where
  b : Nat
  nb : Nat
  own : Bool
  k : K
  u : AV
  y : k.T
  j : Nat
def newRV (rv : RootV) (rc : RC) (p : Pth) (y : ((K.sl rc.k).at p).T) : RootV := { rv with hc := Nat.succ rv.hc, c := some { rc with xs := (K.sl rc.k).set p rc.xs y } }
def RgnOk (st : St) (g : Gh) (st0 : St) (g0 : Gh) (st2 : St) (D : Rgn) : Prop := Place st g D.r D.p D.k D.x D.l ∧ HasR st0 D.k D.x D.j ∧ Plc g0 D.k D.x D.l D.j ∧ EndR st2 D.k D.y D.j
def Upd (st stf : St) (D : Rgn) : Prop := ∃ rc, (st.r D.r).c = some rc ∧ ∃ e : D.k = (K.sl rc.k).at D.p, stf.r D.r = newRV (st.r D.r) rc D.p (e ▸ mrg D.k D.x D.y)
def RgIn (st : St) (RG : List Rgn) : (k : K) → AV → k.T → Nat → Prop
  | .int _, _, _, _ => True
  | .bool, _, _, _ => True
  | .pair a b, v, y, j => ∃ u t, v = .pr u t ∧ RgIn st RG a u y.1 j ∧ RgIn st RG b t y.2 (j + a.nsl)
  | .sl k, v, ys, j => ∃ r gen hc p xs l, v = .rf r gen hc p ∧ gen = (st.r r).gen ∧ hc ≤ (st.r r).hc ∧ (⟨r, p, .sl k, xs, l, ys, j⟩ : Rgn) ∈ RG
def BxnOk (st : St) (g g0 : Gh) (st2 : St) (RG : List Rgn) (B : Bxn) : Prop :=
  (st.b B.b).c = some B.u ∧ (st.b B.b).ro = false ∧ likeK B.k B.u = true ∧ g0.bx B.nb = g.bx B.b ∧ ∃ u2, (st2.b B.nb).c = some u2 ∧ (st2.b B.nb).gen = 0 ∧ (st2.b B.nb).ro = false ∧
    if B.own = true then RgIn st RG B.k B.u B.y B.j ∧ ∀ (g2 : Gh) (w2 : World) cs, Rep st2 g2 w2 u2 cs → cs = hdr B.k B.y (asmL g2 B.k B.j)
    else ∀ (g2 : Gh) (w2 : World) cs, Rep st2 g2 w2 u2 cs → RV (g2.U w2) w2 B.k B.y cs
def Bxn.new (st : St) (B : Bxn) : BoxV := { (st.b B.b) with c := some (if B.own = true then bxO B.k B.u B.y else opnV B.k B.y) }
def keepRoots (st : St) : Pat → AV → List Nat
  | .take _, _ => []
  | p, v => ownRoots st p v
def keepRootsL (st : St) : List Pat → List AV → List Nat
  | p :: ps, v :: vs => keepRoots st p v ++ keepRootsL st ps vs
  | _, _ => []
theorem keep_own (st : St) (p : Pat) (v : AV) : ∀ r, r ∈ keepRoots st p v → r ∈ ownRoots st p v := by
  intro r h
  cases p <;> first | exact h | (simp [keepRoots] at h)
theorem keepL_own (st : St) : ∀ (ps : List Pat) (vs : List AV), ∀ r, r ∈ keepRootsL st ps vs → r ∈ ownRootsL st ps vs
  | [], [], r, h => by simp [keepRootsL] at h
  | [], _ :: _, r, h => by simp [keepRootsL] at h
  | _ :: _, [], r, h => by simp [keepRootsL] at h
  | p :: ps, v :: vs, r, h => by
    rcases List.mem_append.1 (show r ∈ keepRoots st p v ++ keepRootsL st ps vs from h) with h | h
    · exact List.mem_append_left _ (keep_own st p v r h)
    · exact List.mem_append_right _ (keepL_own st ps vs r h)
section
variable {P : Program} {E : Env} {S : Start} {st st0 st1 st2 stc stf st' : St} {g g' g0 g2 : Gh} {w w' : World} {a : Act} {Q : St → Prop} {gd : Gd} {o : Oper} {Qx : Exit → Act → World → Prop}
theorem RgIn.mono {RG RG' : List Rgn} (h : ∀ D, D ∈ RG → D ∈ RG') : ∀ {k : K} {v : AV} {y : k.T} {j : Nat}, RgIn st RG k v y j → RgIn st RG' k v y j
  | .int _, _, _, _, _ => trivial
  | .bool, _, _, _, _ => trivial
  | .pair _ _, _, _, _, ⟨u, t, e, h1, h2⟩ => ⟨u, t, e, h1.mono h, h2.mono h⟩
  | .sl _, _, _, _, ⟨r, gen, hc, p, xs, l, e, h1, h2, h3⟩ => ⟨r, gen, hc, p, xs, l, e, h1, h2, h _ h3⟩
theorem mrg_cast {k0 k : K} (e : k0 = k) (e' : k = k0) (x0 : k0.T) (y : k.T) : mrg k0 x0 (e' ▸ y) = e' ▸ mrg k (e ▸ x0) y := by subst e; rfl
/-- What regions must be. -/
structure Rgs (st : St) (g : Gh) (st0 : St) (g0 : Gh) (st2 stc stf : St) (rs : List Nat) (j j' : Nat) (RG : List Rgn) : Prop where
  ok : ∀ D, D ∈ RG → RgnOk st g st0 g0 st2 D ∧ Upd st stf D ∧ D.r ∈ rs ∧ j ≤ D.j ∧ D.j + D.k.nsl ≤ j'
  sep : RG.Pairwise fun D D' => D.j + D.k.nsl ≤ D'.j
  nodup : (RG.map Rgn.r).Nodup
  out : ∀ r, r ∉ RG.map Rgn.r → stf.r r = stc.r r
theorem Rgs.nil {rs : List Nat} {j : Nat} : Rgs st g st0 g0 st2 stc stc rs j j [] := ⟨fun D h => by simp at h, .nil, by simp, fun _ _ => rfl⟩
theorem Rgs.append {sta stb stc : St} {rs rs' : List Nat} {j j' j'' : Nat} {RG RG' : List Rgn} (h : Rgs st g st0 g0 st2 sta stb rs j j' RG) (k : Rgs st g st0 g0 st2 stb stc rs' j' j'' RG') (hj : j ≤ j') (hj' : j' ≤ j'') (hd : ∀ r, r ∈ rs → r ∉ rs') :
    Rgs st g st0 g0 st2 sta stc (rs ++ rs') j j'' (RG ++ RG') := by
  have hr : ∀ r, r ∈ RG.map Rgn.r → r ∈ rs := fun r hr => by
    obtain ⟨D, hD, e⟩ := List.mem_map.1 hr
    rw [← e]; exact (h.ok D hD).2.2.1
  have hr' : ∀ r, r ∈ RG'.map Rgn.r → r ∈ rs' := fun r hr => by
    obtain ⟨D, hD, e⟩ := List.mem_map.1 hr
    rw [← e]; exact (k.ok D hD).2.2.1
  refine ⟨fun D hD => ?_, ?_, ?_, fun r hr0 => ?_⟩
  · rcases List.mem_append.1 hD with hD | hD
    · obtain ⟨h1, ⟨rc, h2, e, h3⟩, h4, h5, h6⟩ := h.ok D hD
      refine ⟨h1, ⟨rc, h2, e, ?_⟩, List.mem_append_left _ h4, h5, by omega⟩
      rw [k.out D.r (fun hm => hd D.r h4 (hr' _ hm))]; exact h3
    · obtain ⟨h1, h2, h4, h5, h6⟩ := k.ok D hD
      exact ⟨h1, h2, List.mem_append_right _ h4, by omega, h6⟩
  · rw [List.pairwise_append]
    refine ⟨h.sep, k.sep, fun D hD D' hD' => ?_⟩
    have := (h.ok D hD).2.2.2.2
    have := (k.ok D' hD').2.2.2.1
    omega
  · rw [List.map_append, List.nodup_append]
    refine ⟨h.nodup, k.nodup, fun r h1 r' h2 e => ?_⟩
    subst e
    exact hd r (hr r h1) (hr' r h2)
  · rw [List.map_append, List.mem_append, not_or] at hr0
    rw [k.out r hr0.2, h.out r hr0.1]
theorem ownWr_run : ∀ {k : K} {v : AV} {x y : k.T} {l : k.L} {j : Nat} {c : Prog} {stc : St}, OwnA st g k v x l → (roots v).Nodup → (∀ r, r ∈ roots v → stc.r r = st.r r) → (ownWr k v y c).run stc Q → HasR st0 k x j → Plc g0 k x l j → EndR st2 k y j →
    ∃ stf RG, c.run stf Q ∧ stf.env = stc.env ∧ stf.boxes = stc.boxes ∧ Rgs st g st0 g0 st2 stc stf (roots v) j (j + k.nsl) RG ∧ RgIn st RG k v y j ∧ ∀ b c, (b, c) ∈ rows k x l → ∃ D, D ∈ RG ∧ (b, c) ∈ rows D.k D.x D.l := by
  intro k
  induction k with
  | int ik => intro v x y l j c stc _ _ _ h _ _ _; exact ⟨stc, [], h, rfl, rfl, ⟨fun D h => by simp at h, .nil, by simp, fun _ _ => rfl⟩, trivial, fun b c hb => by simp [rows] at hb⟩
  | bool => intro v x y l j c stc _ _ _ h _ _ _; exact ⟨stc, [], h, rfl, rfl, ⟨fun D h => by simp at h, .nil, by simp, fun _ _ => rfl⟩, trivial, fun b c hb => by simp [rows] at hb⟩
  | pair p q ip iq =>
    intro v x y l j c stc ha hn hs h hr hp he
    obtain ⟨u, t, e, a1, a2⟩ := ha
    subst e
    replace hn : (cat (roots u) (roots t)).Nodup := hn
    have hs : ∀ r, r ∈ cat (roots u) (roots t) → stc.r r = st.r r := hs
    rw [cat_eq] at hn hs
    rw [List.nodup_append] at hn
    replace h : (ownWr p u y.1 (ownWr q t y.2 c)).run stc Q := h
    obtain ⟨stm, RG, h1, e1, b1, r1, i1, c1⟩ := ip a1 hn.1 (fun r hr => hs r (List.mem_append_left _ hr)) h hr.1 hp.1 he.1
    have hout : ∀ r, r ∈ roots t → stm.r r = st.r r := fun r hr => by
      rw [r1.out r (fun hm => ?_)]
      · exact hs r (List.mem_append_right _ hr)
      · obtain ⟨D, hD, eD⟩ := List.mem_map.1 hm
        have := (r1.ok D hD).2.2.1
        rw [eD] at this
        exact hn.2.2 r this r hr rfl
    obtain ⟨stf, RG', h2, e2, b2, r2, i2, c2⟩ := iq a2 hn.2.1 hout h1 hr.2 hp.2 he.2
    refine ⟨stf, RG ++ RG', h2, e2.trans e1, b2.trans b1, ?_, ⟨u, t, rfl, i1.mono fun D h => List.mem_append_left _ h, i2.mono fun D h => List.mem_append_right _ h⟩, fun b c hb => ?_⟩
    · have := r1.append r2 (by omega) (by omega) (fun r h1 h2 => hn.2.2 r h1 r h2 rfl)
      show Rgs _ _ _ _ _ _ _ (cat (roots u) (roots t)) j (j + (p.nsl + q.nsl)) _
      rw [cat_eq, ← Nat.add_assoc]; exact this
    · rcases List.mem_append.1 (show (b, c) ∈ rows p x.1 l.1 ++ rows q x.2 l.2 from hb) with hb | hb
      · obtain ⟨D, k1, k2⟩ := c1 b c hb; exact ⟨D, List.mem_append_left _ k1, k2⟩
      · obtain ⟨D, k1, k2⟩ := c2 b c hb; exact ⟨D, List.mem_append_right _ k1, k2⟩
  | sl k ih =>
    intro v x y l j c stc ha hn hs h hr hp he
    obtain ⟨r, gen, hc, p, e, h1, h2, h3⟩ := ha
    subst e
    have es : stc.r r = st.r r := hs r (by simp [roots])
    obtain ⟨rc, k1, k2, k3, k4, e, k5, k6⟩ := id h3
    replace h : (match (stc.r r).c with
      | none => Prog.fail
      | some rc => match K.same (.sl k) ((K.sl rc.k).at p) with
        | some ⟨h⟩ => Prog.wrR r { (stc.r r) with hc := Nat.succ (stc.r r).hc, c := some { rc with xs := (K.sl rc.k).set p rc.xs (h ▸ y) } } c
        | none => .fail).run stc Q := h
    rw [es, k1] at h
    replace h : (match K.same (.sl k) ((K.sl rc.k).at p) with
        | some ⟨h⟩ => Prog.wrR r { (st.r r) with hc := Nat.succ (st.r r).hc, c := some { rc with xs := (K.sl rc.k).set p rc.xs (h ▸ y) } } c
        | none => Prog.fail).run stc Q := h
    split at h
    · rename_i hk _
      refine ⟨_, [⟨r, p, .sl k, x, l, y, j⟩], h, rfl, rfl, ⟨fun D hD => ?_, List.pairwise_singleton _ _, by simp, fun r' hr' => ?_⟩, ⟨r, gen, hc, p, x, l, rfl, h1, h2, by simp⟩, fun b c hb => ⟨_, List.mem_singleton.2 rfl, hb⟩⟩
      · simp at hD
        subst hD
        refine ⟨⟨h3, hr, hp, he⟩, ⟨rc, k1, hk, ?_⟩, by simp [roots], Nat.le_refl _, Nat.le_refl _⟩
        rw [St.r_wr, if_pos rfl]; rfl
      · rw [St.r_wr, if_neg]
        intro e; subst e; simp at hr'
    · exact h.elim
theorem vwS_any : ∀ {k : K} {u : AV} {y : k.T} {c : Prog}, (vwS k u fun z => .vc (z = y) c).run st Q → c.run st Q ∧ ∀ (g2 : Gh) (w2 : World) cs, Rep st g2 w2 u cs → RV (g2.U w2) w2 k y cs := by
  intro k u y c h
  have key : ∀ {k : K} {u : AV} {F : k.T → Prog}, (vwS k u F).run st Q → ∃ x, (F x).run st Q ∧ ∀ (g2 : Gh) (w2 : World) cs, Rep st g2 w2 u cs → RV (g2.U w2) w2 k x cs := by
    intro k
    induction k with
    | int ik =>
      intro u F h
      cases u <;> first | exact h.elim | skip
      obtain ⟨h1, h2⟩ := iff'_fail h
      have e := eqIK_eq h1
      subst e
      exact ⟨_, h2, fun _ _ _ hr => hr⟩
    | bool =>
      intro u F h
      cases u <;> first | exact h.elim | skip
      exact ⟨_, h, fun _ _ _ hr => hr⟩
    | pair p q ip iq =>
      intro u F h
      cases u <;> first | exact h.elim | skip
      rename_i u t
      replace h : (vwS p u fun x => vwS q t fun y => F (x, y)).run st Q := h
      obtain ⟨x, h1, r1⟩ := ip h
      obtain ⟨y, h2, r2⟩ := iq h1
      exact ⟨(x, y), h2, fun g2 w2 cs ⟨c1, c2, e, k1, k2⟩ => ⟨c1, c2, e, r1 g2 w2 c1 k1, r2 g2 w2 c2 k2⟩⟩
    | sl k _ =>
      intro u F h
      cases u with
      | nils => exact ⟨([] : List k.T), h, fun _ _ cs hr => ⟨none, 0, hr, Nat.le_refl _, fun _ h => (by cases h), fun i hi => (by simp at hi)⟩⟩
      | vsl k' xs =>
        replace h : (match K.same k' k with | some ⟨h⟩ => F (h ▸ xs) | none => .fail).run st Q := h
        split at h
        · rename_i hk _
          have hk : k' = k := hk
          subst hk
          exact ⟨xs, h, fun _ _ _ hr => hr⟩
        · exact h.elim
      | _ => exact h.elim
  obtain ⟨x, ⟨h1, h2⟩, h3⟩ := key h
  have h1 : x = y := h1
  subst h1
  exact ⟨h2, h3⟩
theorem as_run {k : K} {d : Dyn} {c : k.T → Prog} (h : (d.as k c).run st Q) : ∃ x, d = ⟨k, x⟩ ∧ (c x).run st Q := by
  unfold Dyn.as at h
  obtain ⟨dk, x⟩ := d
  split at h
  · rename_i hk _
    have hk : dk = k := hk
    subst hk
    exact ⟨x, rfl, h⟩
  · exact h.elim
/-- Boxes that come back. -/
structure Bxs (st : St) (g g0 : Gh) (st2 stc stf : St) (bs : List Nat) (nb nb' : Nat) (RG : List Rgn) (BX : List Bxn) : Prop where
  ok : ∀ B, B ∈ BX → BxnOk st g g0 st2 RG B ∧ stf.b B.b = B.new st ∧ nb ≤ B.nb ∧ B.nb < nb'
  sep : BX.Pairwise fun B B' => B.nb < B'.nb
  all : BX.map Bxn.b = bs
  out : ∀ b, b ∉ bs → stf.b b = stc.b b
theorem BxnOk.mono {RG RG' : List Rgn} (h : ∀ D, D ∈ RG → D ∈ RG') {B : Bxn} (hB : BxnOk st g g0 st2 RG B) : BxnOk st g g0 st2 RG' B := by
  obtain ⟨h1, h2, h3, h4, u2, h5, h6, h7, h8⟩ := hB
  refine ⟨h1, h2, h3, h4, u2, h5, h6, h7, ?_⟩
  split
  · rename_i e
    rw [if_pos e] at h8
    exact ⟨h8.1.mono h, h8.2⟩
  · rename_i e
    rw [if_neg e] at h8
    exact h8
theorem fw_run {Qt : St → Prop} : ∀ {ps : List Pat} {vs : List AV} {ds : List RI} {ys : Cont} {nr nb : Nat} {K0 : Prog} {stc : St}, BackOks st g ps vs ds → (ownRootsL st ps vs).Nodup → (ownBoxesL st ps vs).Nodup → (∀ b, b ∈ roBoxesL ps vs → b ∉ ownBoxesL st ps vs) →
    (fins ps ys nr nb .ret).run st2 Qt → (wbs ps vs ys K0).run stc Q → (∀ r, r ∈ keepRootsL st ps vs → stc.r r = st.r r) → (∀ b, b ∈ ownBoxesL st ps vs → stc.b b = st.b b) → (∀ b, b ∈ roBoxesL ps vs → stc.b b = st.b b) → Plcs g0 ds nr → HasRs st0 ds nr → BoxLinks st g g0 ps vs nb →
    ∃ stf RG BX, K0.run stf Q ∧ stf.env = stc.env ∧ Rgs st g st0 g0 st2 stc stf (keepRootsL st ps vs) nr (nr + nslL ds) RG ∧ Bxs st g g0 st2 stc stf (ownBoxesL st ps vs) nb (nb + nbL ps) RG BX ∧ (∀ B, B ∈ BX → B.own = false → Pat.gives (.box false B.k) = true → anyL Pat.gives ps = true) ∧
      ∀ b c, (b, c) ∈ rowsL ds → (∃ D, D ∈ RG ∧ (b, c) ∈ rows D.k D.x D.l) ∨ (b, c) ∈ rowsT ps ds
  | [], [], [], ys, nr, nb, K0, stc, _, _, _, _, hf, hw, _, _, _, _, _, _ => by
    cases ys with
    | nil => exact ⟨stc, [], [], hw, rfl, ⟨fun D h => by simp at h, .nil, by simp, fun _ _ => rfl⟩, ⟨fun B h => by simp at h, .nil, rfl, fun _ _ => rfl⟩, fun B h => (by simp at h), fun b c hb => by simp [rowsL] at hb⟩
    | cons _ _ => exact hw.elim
  | p :: ps, v :: vs, d :: ds, ys, nr, nb, K0, stc, hk, hno, hnb, hrb, hf, hw, hsr, hsb, hsb', hpl, hr, hl => by
    obtain ⟨hk1, hk2⟩ := hk
    replace hno : (ownRoots st p v ++ ownRootsL st ps vs).Nodup := hno
    replace hnb : (ownBoxes st p v ++ ownBoxesL st ps vs).Nodup := hnb
    rw [List.nodup_append] at hno hnb
    replace hf : (fin p ys nr nb fun ys nr nb => fins ps ys nr nb .ret).run st2 Qt := hf
    replace hw : (wb p v ys fun r => wbs ps vs r K0).run stc Q := hw
    have hsr : ∀ r, r ∈ keepRoots st p v ++ keepRootsL st ps vs → stc.r r = st.r r := hsr
    have hsb : ∀ b, b ∈ ownBoxes st p v ++ ownBoxesL st ps vs → stc.b b = st.b b := hsb
    have hsb' : ∀ b, b ∈ roBoxes p v ++ roBoxesL ps vs → stc.b b = st.b b := hsb'
    have hrb : ∀ b, b ∈ roBoxes p v ++ roBoxesL ps vs → b ∉ ownBoxes st p v ++ ownBoxesL st ps vs := hrb
    -- one pattern: it yields regions and boxes, and the rest goes on
    have step : ∀ (ys' : Cont) (stm : St) (RG1 : List Rgn) (BX1 : List Bxn), (fins ps ys' (nr + d.k.nsl) (nb + p.nb) .ret).run st2 Qt → (wbs ps vs ys' K0).run stm Q → stm.env = stc.env →
        Rgs st g st0 g0 st2 stc stm (keepRoots st p v) nr (nr + d.k.nsl) RG1 → Bxs st g g0 st2 stc stm (ownBoxes st p v) nb (nb + p.nb) RG1 BX1 →
        (∀ b c, (b, c) ∈ rows d.k d.x d.l → (∃ D, D ∈ RG1 ∧ (b, c) ∈ rows D.k D.x D.l) ∨ ∃ k, p = .take k) → (∀ B, B ∈ BX1 → B.own = false → Pat.gives (.box false B.k) = true → p.gives = true) →
        ∃ stf RG BX, K0.run stf Q ∧ stf.env = stc.env ∧ Rgs st g st0 g0 st2 stc stf (keepRootsL st (p :: ps) (v :: vs)) nr (nr + nslL (d :: ds)) RG ∧ Bxs st g g0 st2 stc stf (ownBoxesL st (p :: ps) (v :: vs)) nb (nb + nbL (p :: ps)) RG BX ∧ (∀ B, B ∈ BX → B.own = false → Pat.gives (.box false B.k) = true → anyL Pat.gives (p :: ps) = true) ∧
          ∀ b c, (b, c) ∈ rowsL (d :: ds) → (∃ D, D ∈ RG ∧ (b, c) ∈ rows D.k D.x D.l) ∨ (b, c) ∈ rowsT (p :: ps) (d :: ds) := by
      intro ys' stm RG1 BX1 f1 w1 e1 r1 b1 c1 v1
      have hm1 : ∀ r, r ∈ keepRootsL st ps vs → stm.r r = st.r r := fun r hr => by
        rw [r1.out r (fun hm => ?_)]
        · exact hsr r (List.mem_append_right _ hr)
        · obtain ⟨D, hD, eD⟩ := List.mem_map.1 hm
          have := (r1.ok D hD).2.2.1
          rw [eD] at this
          exact hno.2.2 r (keep_own _ _ _ _ this) r (keepL_own _ _ _ _ hr) rfl
      have hm2 : ∀ b, b ∈ ownBoxesL st ps vs → stm.b b = st.b b := fun b hb => by
        rw [b1.out b (fun hm => hnb.2.2 b hm b hb rfl)]
        exact hsb b (List.mem_append_right _ hb)
      have hm3 : ∀ b, b ∈ roBoxesL ps vs → stm.b b = st.b b := fun b hb => by
        rw [b1.out b (fun hm => hrb b (List.mem_append_right _ hb) (List.mem_append_left _ hm))]
        exact hsb' b (List.mem_append_right _ hb)
      obtain ⟨stf, RG2, BX2, k0, e2, r2, b2, v2, c2⟩ := fw_run hk2 hno.2.1 hnb.2.1 (fun b hb hc => hrb b (List.mem_append_right _ hb) (List.mem_append_right _ hc)) f1 w1 hm1 hm2 hm3 hpl.2 hr.2 hl.2
      refine ⟨stf, RG1 ++ RG2, BX1 ++ BX2, k0, e2.trans e1, ?_, ⟨fun B hB => ?_, ?_, ?_, fun b hb => ?_⟩, fun B hB ho hg => ?_, fun b c hb => ?_⟩
      · have := r1.append r2 (by omega) (by omega) (fun r h1 h2 => hno.2.2 r (keep_own _ _ _ _ h1) r (keepL_own _ _ _ _ h2) rfl)
        show Rgs _ _ _ _ _ _ _ (keepRoots st p v ++ keepRootsL st ps vs) nr (nr + (d.k.nsl + nslL ds)) _
        rw [← Nat.add_assoc]; exact this
      · have hnn : nb + nbL (p :: ps) = nb + p.nb + nbL ps := by show nb + (p.nb + nbL ps) = _; omega
        rcases List.mem_append.1 hB with hB | hB
        · obtain ⟨q1, q2, q3, q4⟩ := b1.ok B hB
          refine ⟨q1.mono fun D h => List.mem_append_left _ h, ?_, q3, by omega⟩
          rw [b2.out B.b (fun hm => hnb.2.2 B.b (by rw [← b1.all]; exact List.mem_map_of_mem (f := Bxn.b) hB) B.b hm rfl)]
          exact q2
        · obtain ⟨q1, q2, q3, q4⟩ := b2.ok B hB
          exact ⟨q1.mono fun D h => List.mem_append_right _ h, q2, by omega, by omega⟩
      · rw [List.pairwise_append]
        refine ⟨b1.sep, b2.sep, fun B hB B' hB' => ?_⟩
        have := (b1.ok B hB).2.2.2
        have := (b2.ok B' hB').2.2.1
        omega
      · rw [List.map_append, b1.all, b2.all]; rfl
      · have hb : b ∉ ownBoxes st p v ++ ownBoxesL st ps vs := hb
        rw [List.mem_append, not_or] at hb
        rw [b2.out b hb.2, b1.out b hb.1]
      · show orB p.gives (anyL Pat.gives ps) = true
        rw [orB_true]
        rcases List.mem_append.1 hB with hB | hB
        · exact .inl (v1 B hB ho hg)
        · exact .inr (v2 B hB ho hg)
      · rcases List.mem_append.1 (show (b, c) ∈ rows d.k d.x d.l ++ rowsL ds from hb) with hb | hb
        · rcases c1 b c hb with ⟨D, h1, h2⟩ | ⟨k, e⟩
          · exact .inl ⟨D, List.mem_append_left _ h1, h2⟩
          · subst e; exact .inr (List.mem_append_left _ hb)
        · rcases c2 b c hb with ⟨D, h1, h2⟩ | h
          · exact .inl ⟨D, List.mem_append_right _ h1, h2⟩
          · right
            cases p with
            | take k => exact List.mem_append_right _ h
            | _ => exact h
    have nobox : ∀ RG1 : List Rgn, ∀ stm : St, stm.boxes = stc.boxes → Bxs st g g0 st2 stc stm [] nb (nb + 0) RG1 [] := fun RG1 stm e => ⟨fun B h => by simp at h, .nil, rfl, fun b _ => used_b e b⟩
    cases p with
    | q q =>
      have hd : d = .none := hk1
      subst hd
      refine step ys stc [] [] hf hw rfl ⟨fun D h => by simp at h, .nil, by simp, fun _ _ => rfl⟩ ⟨fun B h => by simp at h, .nil, rfl, fun _ _ => rfl⟩ (fun b c hb => by simp [RI.none, rows] at hb) (fun B h => (by simp at h))
    | take k =>
      have hd : d.k = k := hk1
      subst hd
      exact step ys stc [] [] hf hw rfl ⟨fun D h => by simp at h, .nil, by simp, fun _ _ => rfl⟩ ⟨fun B h => by simp at h, .nil, by cases v <;> rfl, fun _ _ => rfl⟩ (fun b c hb => .inr ⟨_, rfl⟩) (fun B h => (by simp at h))
    | own k =>
      obtain ⟨x, l, e, oa⟩ := hk1
      subst e
      cases ys with
      | nil => exact hw.elim
      | cons y r =>
        replace hf : (y.as k fun x => endO k x nr fun nr => fins ps r nr nb .ret).run st2 Qt := hf
        replace hw : (y.as k fun x => ownWr k v x (wbs ps vs r K0)).run stc Q := hw
        obtain ⟨yv, ey, hf2⟩ := as_run hf
        subst ey
        obtain ⟨yv', ey, hw2⟩ := as_run hw
        cases ey
        clear hf hw
        have hf := hf2
        have hw := hw2
        clear hf2 hw2
        · · obtain ⟨er, f1⟩ := endO_run hf
            obtain ⟨stm, RG, w1, e1, b1, r1, i1, c1⟩ := ownWr_run oa hno.1 (fun r hr => hsr r (List.mem_append_left _ hr)) hw hr.1 hpl.1 er
            refine step r stm RG [] f1 w1 e1 r1 ?_ (fun b c hb => .inl (c1 b c hb)) (fun B h => (by simp at h))
            have : ownBoxes st (.own k) v = [] := by cases v <;> rfl
            rw [this]; exact nobox RG stm b1
    | ro k =>
      rcases hk1 with ⟨r, gen, hc, p, x, l, e1, e2, hp, hi⟩ | ⟨b, gen, u, x, l, e1, hu, e2, oa⟩
      rotate_left
      · subst e1 e2
        cases ys with
        | nil => exact hw.elim
        | cons y rs =>
          replace hf : (y.as k fun x => endO k x nr fun nr => fins ps rs nr (nb + 1) .ret).run st2 Qt := hf
          replace hw : (y.as k fun x => .rdB b fun bv => match bv.c with
            | some u => ownWr k u x (wbs ps vs rs K0)
            | none => .fail).run stc Q := hw
          have es : stc.b b = st.b b := hsb' b (List.mem_append_left _ (by simp [roBoxes]))
          obtain ⟨yv, ey, hf2⟩ := as_run hf
          subst ey
          obtain ⟨yv', ey, hw2⟩ := as_run hw
          cases ey
          replace hw2 : (match (stc.b b).c with
            | some u => ownWr k u yv (wbs ps vs rs K0)
            | none => Prog.fail).run stc Q := hw2
          rw [es, hu] at hw2
          replace hw2 : (ownWr k u yv (wbs ps vs rs K0)).run stc Q := hw2
          obtain ⟨er, f1⟩ := endO_run hf2
          have hroots : ownRoots st (.ro k) (.pb b gen []) = roots u := by simp only [ownRoots, hu]
          rw [hroots] at hno
          obtain ⟨stm, RG, w1, q1, q2, r1, i1, c1⟩ := ownWr_run oa hno.1 (fun r hr => hsr r (List.mem_append_left _ (by show r ∈ ownRoots st (.ro k) (.pb b gen []); rw [hroots]; exact hr))) hw2 hr.1 hpl.1 er
          refine step rs stm RG [] f1 w1 q1 ?_ ⟨fun B h => by simp at h, .nil, rfl, fun b _ => used_b q2 b⟩ (fun b c hb => .inl (c1 b c hb)) (fun B hB => (by simp at hB))
          show Rgs _ _ _ _ _ _ _ (ownRoots st (.ro k) (.pb b gen [])) _ _ _
          rw [hroots]
          exact r1
      subst e1 e2
      cases ys with
      | nil => exact hw.elim
      | cons y rs =>
        replace hf : (y.as k fun x => endO k x nr fun nr => fins ps rs nr (nb + 1) .ret).run st2 Qt := hf
        have es : stc.r r = st.r r := hsr r (List.mem_append_left _ (by simp [keepRoots, ownRoots]))
        obtain ⟨rc, k1, k2, k3, k4, e, k5, k6⟩ := id hp
        replace hw : (y.as k fun x => .rdR r fun rv => match rv.c with
          | none => .fail
          | some rc => match K.same k ((K.sl rc.k).at p) with
            | some ⟨h⟩ => Prog.wrR r { rv with hc := Nat.succ rv.hc, c := some { rc with xs := (K.sl rc.k).set p rc.xs (mrg _ ((K.sl rc.k).get p rc.xs) (h ▸ x)) } } (wbs ps vs rs K0)
            | none => .fail).run stc Q := hw
        obtain ⟨yv, ey, hf2⟩ := as_run hf
        subst ey
        obtain ⟨yv', ey, hw2⟩ := as_run hw
        cases ey
        clear hf hw
        have hf := hf2
        have hw := hw2
        clear hf2 hw2
        · · obtain ⟨er, f1⟩ := endO_run hf
            replace hw : (match (stc.r r).c with
              | none => Prog.fail
              | some rc => match K.same k ((K.sl rc.k).at p) with
                | some ⟨h⟩ => Prog.wrR r { (stc.r r) with hc := Nat.succ (stc.r r).hc, c := some { rc with xs := (K.sl rc.k).set p rc.xs (mrg _ ((K.sl rc.k).get p rc.xs) (h ▸ yv)) } } (wbs ps vs rs K0)
                | none => .fail).run stc Q := hw
            rw [es, k1] at hw
            replace hw : (match K.same k ((K.sl rc.k).at p) with
                | some ⟨h⟩ => Prog.wrR r { (st.r r) with hc := Nat.succ (st.r r).hc, c := some { rc with xs := (K.sl rc.k).set p rc.xs (mrg _ ((K.sl rc.k).get p rc.xs) (h ▸ yv)) } } (wbs ps vs rs K0)
                | none => Prog.fail).run stc Q := hw
            split at hw
            · rename_i hk' _
              refine step rs _ [⟨r, p, k, x, l, yv, nr⟩] [] f1 hw rfl ⟨fun D hD => ?_, List.pairwise_singleton _ _, by simp, fun r' hr' => ?_⟩ ⟨fun B h => by simp at h, .nil, rfl, fun _ _ => rfl⟩ (fun b c hb => .inl ⟨_, List.mem_singleton.2 rfl, hb⟩) (fun B h => (by simp at h))
              · simp at hD
                subst hD
                refine ⟨⟨hp, hr.1, hpl.1, er⟩, ⟨rc, k1, hk', ?_⟩, by simp [keepRoots, ownRoots], Nat.le_refl _, Nat.le_refl _⟩
                rw [St.r_wr, if_pos rfl]
                unfold newRV
                have : mrg ((K.sl rc.k).at p) ((K.sl rc.k).get p rc.xs) (hk' ▸ yv) = hk' ▸ mrg k x yv := by
                  rw [← k5]
                  exact mrg_cast e hk' _ _
                simp only [this]
              · rw [St.r_wr, if_neg]
                intro e; subst e; simp at hr'
            · exact hw.elim
    | box own k =>
      obtain ⟨b, gen, u, e1, hu, e3, hro, lk, ho1, ho2⟩ := hk1
      subst e1
      cases ys with
      | nil => exact hw.elim
      | cons y rs =>
        replace hf : (y.as k fun x => .rdB nb fun bv => match bv.c with
          | some u => iff' (andB (Nat.beq bv.gen 0) (notB bv.ro)) (iff' own (endB k u x nr fun nr => fins ps rs nr (nb + 1) .ret) (vwS k u fun z => .vc (z = x) (fins ps rs nr (nb + 1) .ret))) .fail
          | none => .fail).run st2 Qt := hf
        replace hw : (y.as k fun x => .rdB b fun bv => match bv.c with
          | some u => iff' own (ownWr k u x (.wrB b { bv with c := some (bxO k u x) } (wbs ps vs rs K0))) (.wrB b { bv with c := some (opnV k x) } (wbs ps vs rs K0))
          | none => .fail).run stc Q := hw
        have es : stc.b b = st.b b := hsb b (List.mem_append_left _ (by simp [ownBoxes]))
        obtain ⟨yv, ey, hf2⟩ := as_run hf
        subst ey
        obtain ⟨yv', ey, hw2⟩ := as_run hw
        cases ey
        clear hf hw
        have hf := hf2
        have hw := hw2
        clear hf2 hw2
        · · replace hf : (match (st2.b nb).c with
              | some u => iff' (andB (Nat.beq (st2.b nb).gen 0) (notB (st2.b nb).ro)) (iff' own (endB k u yv nr fun nr => fins ps rs nr (nb + 1) .ret) (vwS k u fun z => .vc (z = yv) (fins ps rs nr (nb + 1) .ret))) .fail
              | none => Prog.fail).run st2 Qt := hf
            replace hw : (match (stc.b b).c with
              | some u => iff' own (ownWr k u yv (.wrB b { (stc.b b) with c := some (bxO k u yv) } (wbs ps vs rs K0))) (.wrB b { (stc.b b) with c := some (opnV k yv) } (wbs ps vs rs K0))
              | none => Prog.fail).run stc Q := hw
            rw [es, hu] at hw
            split at hf
            · rename_i u2 hu2
              obtain ⟨f1, f2⟩ := iff'_fail hf
              obtain ⟨f3, f4⟩ := andB_true.1 f1
              have f3 := Nat.eq_of_beq_eq_true f3
              have f4 := notB_true.1 f4
              cases own with
              | true =>
                obtain ⟨x, l, e, oa⟩ := ho1 rfl
                subst e
                replace f2 : (endB k u2 yv nr fun nr => fins ps rs nr (nb + 1) .ret).run st2 Qt := f2
                replace hw : (ownWr k u yv (.wrB b { (st.b b) with c := some (bxO k u yv) } (wbs ps vs rs K0))).run stc Q := hw
                have er := (endB_run (g := g) (w := default) f2).1
                have f5 := (endB_run (g := g) (w := default) f2).2.1
                have hroots : ownRoots st (.box true k) (.pb b gen []) = roots u := by simp only [ownRoots, hu]
                rw [hroots] at hno
                obtain ⟨stm, RG, w1, q1, q2, r1, i1, c1⟩ := ownWr_run oa hno.1 (fun r hr => hsr r (List.mem_append_left _ (by show r ∈ ownRoots st (.box true k) (.pb b gen []); rw [hroots]; exact hr))) hw hr.1 hpl.1 er
                refine step rs (stm.wb b { (st.b b) with c := some (bxO k u yv) }) RG [⟨b, nb, true, k, u, yv, nr⟩] f5 w1 q1 ?_ ⟨fun B hB => ?_, List.pairwise_singleton _ _, rfl, fun b' hb' => ?_⟩ (fun b c hb => .inl (c1 b c hb)) (fun B hB ho => (by simp at hB; subst hB; cases ho))
                · show Rgs _ _ _ _ _ _ _ (ownRoots st (.box true k) (.pb b gen [])) _ _ _
                  rw [hroots]
                  exact ⟨fun D hD => r1.ok D hD, r1.sep, r1.nodup, fun r hr => r1.out r hr⟩
                · simp at hB
                  subst hB
                  refine ⟨⟨hu, hro, lk, hl.1, u2, hu2, f3, f4, ?_⟩, ?_, Nat.le_refl _, Nat.lt_succ_self _⟩
                  · rw [if_pos rfl]
                    exact ⟨i1, fun g2 w2 cs hcs => (endB_run (g := g2) (w := w2) f2).2.2 hcs⟩
                  · rw [St.b_wb, if_pos rfl]; rfl
                · rw [St.b_wb, if_neg, used_b q2]
                  intro e; subst e; simp [ownBoxes] at hb'
              | false =>
                have hd := ho2 rfl
                subst hd
                replace f2 : (vwS k u2 fun z => .vc (z = yv) (fins ps rs nr (nb + 1) .ret)).run st2 Qt := f2
                replace hw : (wbs ps vs rs K0).run (stc.wb b { (st.b b) with c := some (opnV k yv) }) Q := hw
                obtain ⟨f5, f6⟩ := vwS_any f2
                refine step rs _ [] [⟨b, nb, false, k, u, yv, nr⟩] f5 hw rfl ⟨fun D h => by simp at h, .nil, by simp, fun _ _ => rfl⟩ ⟨fun B hB => ?_, List.pairwise_singleton _ _, rfl, fun b' hb' => ?_⟩ (fun b c hb => by simp [RI.none, rows] at hb) (fun B hB _ hg => (by simp at hB; subst hB; exact hg))
                · simp at hB
                  subst hB
                  refine ⟨⟨hu, hro, lk, hl.1, u2, hu2, f3, f4, ?_⟩, ?_, Nat.le_refl _, Nat.lt_succ_self _⟩
                  · rw [if_neg (by simp)]
                    exact f6
                  · rw [St.b_wb, if_pos rfl]; rfl
                · rw [St.b_wb, if_neg]
                  intro e; subst e; simp [ownBoxes] at hb'
            · exact hf.elim
    | bp k =>
      obtain ⟨b, gen, b2, gen2, u, x, l, e1, hu1, hu, hro, lk, e, oa⟩ := hk1
      subst e1 e
      cases ys with
      | nil => exact hw.elim
      | cons y rs =>
        replace hf : (y.as k fun x => .rdB (nb + 1) fun bv => match bv.c with
          | some u => iff' (andB (Nat.beq bv.gen 0) (notB bv.ro)) (endB k u x nr fun nr => fins ps rs nr (nb + 2) .ret) .fail
          | none => .fail).run st2 Qt := hf
        replace hw : (y.as k fun x => .rdB b fun bv => match bv.c with
          | some (.pb b2 _ []) => Prog.rdB b2 fun bv2 => match bv2.c with
            | some u => ownWr k u x (.wrB b2 { bv2 with c := some (bxO k u x) } (wbs ps vs rs K0))
            | none => Prog.fail
          | _ => Prog.fail).run stc Q := hw
        have hob : ownBoxes st (.bp k) (.pb b gen []) = [b2] := by simp only [ownBoxes, hu1]
        have es1 : stc.b b = st.b b := hsb' b (List.mem_append_left _ (by simp [roBoxes]))
        have es2 : stc.b b2 = st.b b2 := hsb b2 (List.mem_append_left _ (by rw [hob]; simp))
        obtain ⟨yv, ey, hf2⟩ := as_run hf
        subst ey
        obtain ⟨yv', ey, hw2⟩ := as_run hw
        cases ey
        clear hf hw
        have hf := hf2
        have hw := hw2
        clear hf2 hw2
        replace hf : (match (st2.b (nb + 1)).c with
            | some u => iff' (andB (Nat.beq (st2.b (nb + 1)).gen 0) (notB (st2.b (nb + 1)).ro)) (endB k u yv nr fun nr => fins ps rs nr (nb + 2) .ret) .fail
            | none => Prog.fail).run st2 Qt := hf
        replace hw : (match (stc.b b).c with
            | some (.pb b2 _ []) => Prog.rdB b2 fun bv2 => match bv2.c with
              | some u => ownWr k u yv (.wrB b2 { bv2 with c := some (bxO k u yv) } (wbs ps vs rs K0))
              | none => Prog.fail
            | _ => Prog.fail).run stc Q := hw
        rw [es1, hu1] at hw
        replace hw : (match (stc.b b2).c with
              | some u => ownWr k u yv (.wrB b2 { (stc.b b2) with c := some (bxO k u yv) } (wbs ps vs rs K0))
              | none => Prog.fail).run stc Q := hw
        rw [es2, hu] at hw
        replace hw : (ownWr k u yv (.wrB b2 { (st.b b2) with c := some (bxO k u yv) } (wbs ps vs rs K0))).run stc Q := hw
        split at hf
        · rename_i u2 hu2
          obtain ⟨f1, f2⟩ := iff'_fail hf
          obtain ⟨f3, f4⟩ := andB_true.1 f1
          have f3 := Nat.eq_of_beq_eq_true f3
          have f4 := notB_true.1 f4
          have er := (endB_run (g := g) (w := default) f2).1
          have f5 := (endB_run (g := g) (w := default) f2).2.1
          have hroots : ownRoots st (.bp k) (.pb b gen []) = roots u := by simp only [ownRoots, hu1, hu]
          rw [hroots] at hno
          obtain ⟨stm, RG, w1, q1, q2, r1, i1, c1⟩ := ownWr_run oa hno.1 (fun r hr => hsr r (List.mem_append_left _ (by show r ∈ ownRoots st (.bp k) (.pb b gen []); rw [hroots]; exact hr))) hw hr.1 hpl.1 er
          refine step rs (stm.wb b2 { (st.b b2) with c := some (bxO k u yv) }) RG [⟨b2, nb + 1, true, k, u, yv, nr⟩] f5 w1 q1 ?_ ⟨fun B hB => ?_, List.pairwise_singleton _ _, hob.symm, fun b' hb' => ?_⟩ (fun b c hb => .inl (c1 b c hb)) (fun B hB ho => (by simp at hB; subst hB; cases ho))
          · show Rgs _ _ _ _ _ _ _ (ownRoots st (.bp k) (.pb b gen [])) _ _ _
            rw [hroots]
            exact ⟨fun D hD => r1.ok D hD, r1.sep, r1.nodup, fun r hr => r1.out r hr⟩
          · simp at hB
            subst hB
            refine ⟨⟨hu, hro, lk, hl.1 b2 gen2 hu1, u2, hu2, f3, f4, ?_⟩, ?_, by show nb ≤ nb + 1; omega, by show nb + 1 < nb + 2; omega⟩
            · rw [if_pos rfl]
              exact ⟨i1, fun g2 w2 cs hcs => (endB_run (g := g2) (w := w2) f2).2.2 hcs⟩
            · rw [St.b_wb, if_pos rfl]; rfl
          · rw [hob] at hb'
            rw [St.b_wb, if_neg, used_b q2]
            intro e; subst e; simp at hb'
        · exact hf.elim
  | [], [], _ :: _, _, _, _, _, _, h, _, _, _, _, _, _, _, _, _, _, _ => h.elim
  | [], _ :: _, _, _, _, _, _, _, h, _, _, _, _, _, _, _, _, _, _, _ => h.elim
  | _ :: _, [], _, _, _, _, _, _, h, _, _, _, _, _, _, _, _, _, _, _ => h.elim
  | _ :: _, _ :: _, [], _, _, _, _, _, h, _, _, _, _, _, _, _, _, _, _, _ => h.elim
end
end Go.Am
namespace Go.Am
def RP.nsl : RP → Nat
  | .own k => k.nsl
  | .cons a b => a.nsl + b.nsl
  | _ => 0
section
variable {P : Program} {E : Env} {S : Start} {st st0 st1 st2 stc stf st' : St} {g g' g0 g2 : Gh} {w w' : World} {a : Act} {Q : St → Prop} {gd : Gd} {o : Oper} {Qx : Exit → Act → World → Prop}
theorem Sim.newRoot2 (hS : Sim S st g w a) {R : List (Nat × List Value)} (hP : Pool st g w R) (id : Nat) {k : K} {xs : List k.T} {l : (K.sl k).L} (hf : Fit (.sl k) xs l) (hn : ((rows (.sl k) xs l).map Prod.fst).Nodup)
    (hb : ∀ b c, (b, c) ∈ rows (.sl k) xs l → Blk w b c ∧ b ∈ R.map Prod.fst) :
    ∃ g', Sim S (st.wr id ⟨Nat.succ (st.r id).gen, 0, some ⟨k, xs, true⟩, none⟩) g' w a ∧
      (∀ v x, RepV st g w v x → RepV (st.wr id ⟨Nat.succ (st.r id).gen, 0, some ⟨k, xs, true⟩, none⟩) g' w v x) ∧
      Rep (st.wr id ⟨Nat.succ (st.r id).gen, 0, some ⟨k, xs, true⟩, none⟩) g' w (.rf id (Nat.succ (st.r id).gen) 0 []) (hdr (.sl k) xs l) ∧
      (∀ b, b ∉ (rows (.sl k) xs l).map Prod.fst → g'.ow b = g.ow b) ∧ (∀ v cs, Rep st g w v cs → Rep (st.wr id ⟨Nat.succ (st.r id).gen, 0, some ⟨k, xs, true⟩, none⟩) g' w v cs) := by
  have key := hS.setRoot (w' := w) hP (id := id) (rv := ⟨Nat.succ (st.r id).gen, 0, some ⟨k, xs, true⟩, none⟩) (k := .sl k) (l := l) (bs := (rows (.sl k) xs l).map Prod.fst)
    (fun b h1 h2 _ => rfl)
    (fun b h => by
      obtain ⟨⟨d, c⟩, hm, e⟩ := List.mem_map.1 h
      have e : d = b := e
      subst e
      obtain ⟨h1, h2⟩ := hb _ _ hm
      exact ⟨.inl h2, h1.lt⟩)
    (.inl (Nat.lt_succ_self _))
    (fun rc hrc => by
      have e : rc = ⟨k, xs, true⟩ := (Option.some.inj hrc).symm
      subst e
      rw [if_pos rfl]
      rw [show ((g.own (2 * id) ((rows (.sl k) xs l).map Prod.fst)).setL id (.sl k) l).lay id (.sl k) = l from Gh.lay_same ..]
      exact ⟨hf, hn, fun b c h _ => ⟨Gh.own_in g (List.mem_map_of_mem (f := Prod.fst) h), (hb b c h).1⟩, fun h eh => by cases eh⟩)
    rfl rfl rfl (Nat.le_refl _)
  refine ⟨_, key.1, key.2.2, ⟨⟨_, _, _, rfl⟩, ?_, fun rc hv => ?_⟩, fun b hb => Gh.own_out g hb, key.2.1⟩
  · rw [St.r_wr, if_pos rfl]; exact ⟨Nat.le_refl _, fun _ => Nat.le_refl _⟩
  · have e : rc = ⟨k, xs, true⟩ := by
      have := hv.1
      rw [St.r_wr, if_pos rfl] at this
      exact (Option.some.inj this).symm
    subst e
    refine ⟨trivial, ⟨_, rfl⟩, ?_⟩
    show _ = hdr (.sl k) xs (((g.own (2 * id) ((rows (.sl k) xs l).map Prod.fst)).setL id (.sl k) l).lay id (.sl k))
    rw [Gh.lay_same]
/-- A pool whose owners lie far off. -/
def PoolF (st : St) (g : Gh) (w : World) (J : Nat) (R : List (Nat × List Value)) : Prop := (R.map Prod.fst).Nodup ∧ ∀ b c, (b, c) ∈ R → Blk w b c ∧ ∃ r, g.ow b = some (2 * r) ∧ (st.r r).c = none ∧ J ≤ r
theorem PoolF.pool {J : Nat} {R : List (Nat × List Value)} (h : PoolF st g w J R) : Pool st g w R := ⟨h.1, fun b c hb => by obtain ⟨h1, r, h2, h3, _⟩ := h.2 b c hb; exact ⟨h1, r, h2, h3⟩⟩
theorem opnN_run {d J : Nat} : ∀ {k : K} {x : k.T} {l : k.L} {j : Nat} {c : AV → Nat → Prog} {st : St} {g : Gh} {R : List (Nat × List Value)}, (opnN d k x j c).run st Q → Sim S st g w a → Fit k x l → PoolF st g w J (rows k x l ++ R) → rid d (j + k.nsl) ≤ J →
    ∃ av st' g', (c av (j + k.nsl)).run st' Q ∧ Sim S st' g' w a ∧ (∀ v x, RepV st g w v x → RepV st' g' w v x) ∧ Rep st' g' w av (hdr k x l) ∧ PoolF st' g' w J R ∧ av.ok = true ∧ likeK k av = true ∧
      (∀ b, g.U w b → g'.U w b) ∧ (∀ b x, g.ow b = some (2 * x + 3) → g'.ow b = some (2 * x + 3)) ∧ (∀ v cs, Rep st g w v cs → Rep st' g' w v cs) := by
  intro k
  induction k with
  | int ik => intro x l j c st g R h hS hf hP hJ; exact ⟨_, st, g, h, hS, fun _ _ h => h, rfl, hP, rfl, rfl, fun _ h => h, fun _ _ h => h, fun _ _ h => h⟩
  | bool => intro x l j c st g R h hS hf hP hJ; exact ⟨_, st, g, h, hS, fun _ _ h => h, rfl, hP, rfl, rfl, fun _ h => h, fun _ _ h => h, fun _ _ h => h⟩
  | pair p q ip iq =>
    intro x l j c st g R h hS hf hP hJ
    have hJ : 1000 + d * 8 + (j + (p.nsl + q.nsl)) ≤ J := hJ
    replace h : (opnN d p x.1 j fun u j => opnN d q x.2 j fun v j => c (.pr u v) j).run st Q := h
    have hP' : PoolF st g w J (rows p x.1 l.1 ++ (rows q x.2 l.2 ++ R)) := by rw [← List.append_assoc]; exact hP
    obtain ⟨u, st1, g1, h1, s1, r1, e1, p1, o1, k1, U1, b1, m1⟩ := ip h hS hf.1 hP' (by show 1000 + d * 8 + (j + p.nsl) ≤ J; omega)
    obtain ⟨v, st2, g2, h2, s2, r2, e2, p2, o2, k2, U2, b2, m2⟩ := iq h1 s1 hf.2 p1 (by show 1000 + d * 8 + (j + p.nsl + q.nsl) ≤ J; omega)
    refine ⟨.pr u v, st2, g2, ?_, s2, fun v x hv => r2 _ _ (r1 _ _ hv), ⟨_, _, rfl, m2 _ _ e1, e2⟩, p2, andB_true.2 ⟨o1, o2⟩, andB_true.2 ⟨k1, k2⟩, fun b hb => U2 b (U1 b hb), fun b x hb => b2 b x (b1 b x hb), fun v cs hv => m2 _ _ (m1 _ _ hv)⟩
    show (c (.pr u v) (j + (p.nsl + q.nsl))).run st2 Q
    rw [← Nat.add_assoc]; exact h2
  | sl k ih =>
    intro x l j c st g R h hS hf hP hJ
    have hJ : 1000 + d * 8 + (j + 1) ≤ J := hJ
    have hid : rid d j = 1000 + d * 8 + j := rfl
    replace h : (c (.rf (rid d j) (Nat.succ (st.r (rid d j)).gen) 0 []) (j + 1)).run (st.wr (rid d j) ⟨Nat.succ (st.r (rid d j)).gen, 0, some ⟨k, x, true⟩, none⟩) Q := h
    have hn := hP.1
    rw [List.map_append, List.nodup_append] at hn
    obtain ⟨g', s1, s2, s3, s4, s5⟩ := hS.newRoot2 hP.pool (rid d j) (k := k) (xs := x) hf hn.1 (fun b c hb => ⟨(hP.2 b c (List.mem_append_left _ hb)).1, by rw [List.map_append]; exact List.mem_append_left _ (List.mem_map_of_mem (f := Prod.fst) hb)⟩)
    have hrow : ∀ b, b ∈ (rows (.sl k) x l).map Prod.fst → ∃ r, g.ow b = some (2 * r) := by
      intro b hb
      obtain ⟨⟨b1, c1⟩, hm, e1⟩ := List.mem_map.1 hb
      have e1 : b1 = b := e1
      subst e1
      obtain ⟨_, r, k1, _⟩ := hP.2 _ _ (List.mem_append_left _ hm)
      exact ⟨r, k1⟩
    refine ⟨_, _, g', h, s1, s2, s3, ⟨hn.2.1, fun b c hb => ?_⟩, rfl, rfl, fun b hb => ⟨hb.1, ?_⟩, fun b x hb => ?_, s5⟩
    · obtain ⟨h1, r, h2, h3, h4⟩ := hP.2 b c (List.mem_append_right _ hb)
      refine ⟨h1, r, ?_, ?_, h4⟩
      · rw [s4 b (fun hm => hn.2.2 b hm b (List.mem_map_of_mem (f := Prod.fst) hb) rfl)]; exact h2
      · rw [St.r_wr, if_neg (by omega)]; exact h3
    · rw [s4 b (fun hm => by obtain ⟨r, k1⟩ := hrow b hm; rw [hb.2] at k1; cases k1)]; exact hb.2
    · rw [s4 b (fun hm => by obtain ⟨r, k1⟩ := hrow b hm; rw [hb] at k1; have := Option.some.inj k1; omega)]; exact hb
theorem mkR_run {gd : Gd} {d J : Nat} : ∀ {rp : RP} {ys : Cont} {j : Nat} {c : AV → Cont → Nat → Prog} {v : Value} {rest : Cont} {RD R : List (Nat × List Value)} {BD : List Nat} {st : St} {g : Gh}, (mkR gd d rp ys j c).run st Q → Sim S st g w a →
    ResOk gd.isSome (g.U w) (g.U w) g w rp v ys rest RD BD → (∀ b, b ∈ BD → g.ow b = some (2 * bid d + 3)) → PoolF st g w J (RD ++ R) → rid d (j + rp.nsl) ≤ J →
    ∃ av st' g' j', j' ≤ j + rp.nsl ∧ (c av rest j').run st' Q ∧ Sim S st' g' w a ∧ (∀ v x, RepV st g w v x → RepV st' g' w v x) ∧ RepV st' g' w av v ∧ PoolF st' g' w J R ∧
      (∀ b, g.U w b → g'.U w b) ∧ (∀ b x, g.ow b = some (2 * x + 3) → g'.ow b = some (2 * x + 3)) ∧ (rp.isS = true → av.one = true) ∧ (rp.isS = false → av.isList = true) := by
  intro rp
  induction rp with
  | vw k =>
    intro ys j c v rest RD R BD st g h hS hr hB hP hJ
    obtain ⟨x, e, rv, sh, e1, e2⟩ := hr
    subst e e1
    obtain ⟨x', ex, h'⟩ := as_run (k := k) (d := ⟨k, x⟩) (c := fun x => c (opnV k x) rest j) h
    cases ex
    obtain ⟨o1, o2, o3⟩ := opnV_rep (st := st) rv
    have ep := (likeK_w o2).2
    exact ⟨_, st, g, j, by omega, h', hS, fun _ _ h => h, of_cells o1 (ok_one o3).1 (fun e => sh.1 (by rw [← ep]; exact e)) (fun e => sh.2 (by rw [← ep]; exact e)), hP, fun _ h => h, fun _ _ h => h, fun _ => (ok_one o3).1, fun e => (by cases e)⟩
  | fz k =>
    intro ys j c v rest RD R BD st g h hS hr hB hP hJ
    obtain ⟨x, e, rv, sh, e1, e2⟩ := hr
    subst e e1
    obtain ⟨x', ex, h'⟩ := as_run (k := k) (d := ⟨k, x⟩) (c := fun x => c (opnV k x) rest j) h
    cases ex
    obtain ⟨o1, o2, o3⟩ := opnV_rep (st := st) rv
    have ep := (likeK_w o2).2
    exact ⟨_, st, g, j, by omega, h', hS, fun _ _ h => h, of_cells o1 (ok_one o3).1 (fun e => sh.1 (by rw [← ep]; exact e)) (fun e => sh.2 (by rw [← ep]; exact e)), hP, fun _ h => h, fun _ _ h => h, fun _ => (ok_one o3).1, fun e => (by cases e)⟩
  | own k =>
    intro ys j c v rest RD R BD st g h hS hr hB hP hJ
    obtain ⟨x, e, sh, e1, hr⟩ := hr
    subst e
    cases gd with
    | none =>
      rw [if_neg (by simp)] at hr
      obtain ⟨l, f1, f2, f3⟩ := hr
      subst f3
      obtain ⟨x', ex, h'⟩ := as_run (k := k) (d := ⟨k, x⟩) (c := fun x => opnN d k x j fun v j => c v rest j) h
      cases ex
      obtain ⟨av, st', g', k1, k2, k3, k4, k5, k6, k7, k8, k9, _⟩ := opnN_run h' hS f1 hP hJ
      have ep := (likeK_w k7).2
      exact ⟨av, st', g', j + k.nsl, Nat.le_refl _, k1, k2, k3, of_cells (by rw [f2]; exact k4) (ok_one k6).1 (fun e => sh.1 (by rw [← ep]; exact e)) (fun e => sh.2 (by rw [← ep]; exact e)), k5, k8, k9, fun _ => (ok_one k6).1, fun e => (by cases e)⟩
    | some b =>
      rw [if_pos (by rfl)] at hr
      obtain ⟨rv, e2⟩ := hr
      subst e2
      obtain ⟨x', ex, h'⟩ := as_run (k := k) (d := ⟨k, x⟩) (c := fun x => c (opnV k x) rest j) h
      cases ex
      obtain ⟨o1, o2, o3⟩ := opnV_rep (st := st) rv
      have ep := (likeK_w o2).2
      exact ⟨_, st, g, j, by omega, h', hS, fun _ _ h => h, of_cells o1 (ok_one o3).1 (fun e => sh.1 (by rw [← ep]; exact e)) (fun e => sh.2 (by rw [← ep]; exact e)), hP, fun _ h => h, fun _ _ h => h, fun _ => (ok_one o3).1, fun e => (by cases e)⟩
  | bx k =>
    intro ys j c v rest RD R BD st g h hS hr hB hP hJ
    obtain ⟨x, b0, cs, b, e, ev, hblk, rv, ho, _, e1, e2⟩ := hr
    subst e e1 e2
    cases gd with
    | some _ => exact h.elim
    | none =>
      obtain ⟨x', ex, h'⟩ := as_run (k := k) (d := ⟨k, x⟩) (c := fun x => .rdB (bid d) fun bv => .wrB (bid d) ⟨Nat.succ bv.gen, some (opnV k x), false⟩ (c (.pb (bid d) (Nat.succ bv.gen) []) rest j)) h
      cases ex
      replace h' : (c (.pb (bid d) (Nat.succ (st.b (bid d)).gen) []) rest j).run (st.wb (bid d) ⟨Nat.succ (st.b (bid d)).gen, some (opnV k x), false⟩) Q := h'
      have hob := hB b0 (by simp)
      have key := hS.setBox (w' := w) (id := bid d) (bv := ⟨Nat.succ (st.b (bid d)).gen, some (opnV k x), false⟩) (bs := []) (p := (b0, 0))
        (fun _ _ _ => rfl) (fun b hb => by simp at hb) (.inl (Nat.lt_succ_self _))
        (fun hrep => by
          intro v' hv'
          have : v' = opnV k x := (Option.some.inj hv').symm
          subst this
          obtain ⟨o1, o2, o3⟩ := opnV_rep (st := st) rv
          refine ⟨o3, ?_⟩
          rw [if_neg (by simp)]
          have hbx : ((g.own (2 * bid d + 3) []).setB (bid d) (b0, 0)).bx (bid d) = (b0, 0) := by simp [Gh.setB]
          rw [hbx]
          refine ⟨rfl, ?_, cs, hblk, hrep _ _ o1⟩
          rw [own_nil]; exact hob)
        rfl rfl rfl (Nat.le_refl _)
      rw [own_nil] at key
      refine ⟨_, _, _, j, by omega, h', key.1, key.2.2, ?_, ⟨hP.1, fun b c hb => hP.2 b c hb⟩, fun _ h => h, fun _ _ h => h, fun _ => rfl, fun e => (by cases e)⟩
      rw [ev]
      refine ⟨⟨_, rfl⟩, ?_, fun v' hv' _ => ?_⟩
      · rw [St.b_wb, if_pos rfl]; exact Nat.le_refl _
      · refine ⟨(av_nil _).2.2, ?_⟩
        rw [(av_nil _).2.1]
        have hbx : (g.setB (bid d) (b0, 0)).bx (bid d) = (b0, 0) := by simp [Gh.setB]
        rw [hbx]
  | nil =>
    intro ys j c v rest RD R BD st g h hS hr hB hP hJ
    obtain ⟨e, e1, e2, e3⟩ := hr
    subst e e1 e2
    exact ⟨.nil, st, g, j, by omega, h, hS, fun _ _ h => h, ⟨_, rfl, rfl⟩, hP, fun _ h => h, fun _ _ h => h, fun e => (by cases e), fun _ => rfl⟩
  | cons p q ip iq =>
    intro ys j c v rest RD R BD st g h hS hr hB hP hJ
    obtain ⟨x, xs, ys1, RD1, RD2, BD1, BD2, ev, h1, h2, e1, e2⟩ := hr
    subst e1 e2
    have hJ : 1000 + d * 8 + (j + (p.nsl + q.nsl)) ≤ J := hJ
    obtain ⟨hc, h⟩ := iff'_fail h
    obtain ⟨hc1, hc2⟩ := andB_true.1 hc
    have hc2 := notB_true.1 hc2
    have hP' : PoolF st g w J (RD1 ++ (RD2 ++ R)) := by rw [← List.append_assoc]; exact hP
    obtain ⟨u, st1, g1, j1, l1, k1, s1, r1, v1, p1, U1, b1, o1, _⟩ := ip h hS h1 (fun b hb => hB b (List.mem_append_left _ hb)) hP' (by show 1000 + d * 8 + (j + p.nsl) ≤ J; omega)
    obtain ⟨t, st2, g2, j2, l2, k2, s2, r2, v2, p2, U2, b2, _, o2⟩ := iq k1 s1 (h2.up U1 (.inr U1) (fun b x _ h1 h2 => ⟨x, b1 b x h1, h2⟩)) (fun b hb => b1 _ _ (hB b (List.mem_append_right _ hb))) p1 (by show 1000 + d * 8 + (j1 + q.nsl) ≤ J; omega)
    refine ⟨.cons u t, st2, g2, j2, by show j2 ≤ j + (p.nsl + q.nsl); omega, k2, s2, fun v x hv => r2 _ _ (r1 _ _ hv), ?_, p2, fun b hb => U2 b (U1 b hb), fun b x hb => b2 b x (b1 b x hb), fun e => (by cases e), fun _ => o2 hc2⟩
    rw [ev]
    refine ⟨_, rfl, x, xs, rfl, one_cons (r2 _ _ v1) (o1 hc1), ?_⟩
    have hl := o2 hc2
    cases t <;> first | (simp [AV.isList] at hl; done) | (obtain ⟨ys, ey, hr⟩ := v2; cases ey; simpa using hr)
end
end Go.Am
namespace Go.Am
theorem pair_sep {α : Type} {R : α → α → Prop} : ∀ {l : List α}, l.Pairwise R → ∀ x y, x ∈ l → y ∈ l → x = y ∨ R x y ∨ R y x
  | [], _, x, y, h, _ => by simp at h
  | z :: l, h, x, y, hx, hy => by
    rw [List.pairwise_cons] at h
    rcases List.mem_cons.1 hx with e | e
    · rcases List.mem_cons.1 hy with f | f
      · exact .inl (e.trans f.symm)
      · rw [e]; exact .inr (.inl (h.1 y f))
    · rcases List.mem_cons.1 hy with f | f
      · rw [f]; exact .inr (.inr (h.1 x e))
      · exact pair_sep h.2 x y e f
theorem mrg_rows : ∀ (k : K) (x y : k.T) (l : k.L), rows k (mrg k x y) l = rows k y l ∧ (Fit k (mrg k x y) l ↔ Fit k y l)
  | .int _, _, _, _ => ⟨rfl, Iff.rfl⟩
  | .bool, _, _, _ => ⟨rfl, Iff.rfl⟩
  | .pair a b, x, y, l => by
    obtain ⟨h1, h2⟩ := mrg_rows a x.1 y.1 l.1
    obtain ⟨h3, h4⟩ := mrg_rows b x.2 y.2 l.2
    refine ⟨?_, ?_⟩
    · show rows a (mrg a x.1 y.1) l.1 ++ rows b (mrg b x.2 y.2) l.2 = _
      rw [h1, h3]; rfl
    · show (Fit a (mrg a x.1 y.1) l.1 ∧ Fit b (mrg b x.2 y.2) l.2) ↔ _
      rw [h2, h4]; exact Iff.rfl
  | .sl _, _, _, _ => ⟨rfl, Iff.rfl⟩
section
variable {P : Program} {E : Env} {S : Start} {st st0 st1 st2 stc stf st' : St} {g g' g0 g2 : Gh} {w w' : World} {a a' : Act} {Q : St → Prop} {gd : Gd} {o : Oper} {Qx : Exit → Act → World → Prop}
theorem endR_alive : ∀ {k : K} {y : k.T} {j : Nat}, EndR st k y j → ∀ i, j ≤ i → i < j + k.nsl → (st.r i).c ≠ none
  | .int _, _, j, _, i, h1, h2 => by simp [K.nsl] at h2; omega
  | .bool, _, j, _, i, h1, h2 => by simp [K.nsl] at h2; omega
  | .pair a b, y, j, h, i, h1, h2 => by
    have h2 : i < j + (a.nsl + b.nsl) := h2
    by_cases hi : i < j + a.nsl
    · exact endR_alive h.1 i h1 hi
    · exact endR_alive h.2 i (by omega) (by omega)
  | .sl k, ys, j, h, i, h1, h2 => by
    have h2 : i < j + 1 := h2
    have : i = j := by omega
    subst this
    rw [h.2.1]; simp
/-- The new layouts. -/
theorem lay_ex (st : St) (g g2 : Gh) : ∀ (RG : List Rgn), (RG.map Rgn.r).Nodup → (∀ D, D ∈ RG → ∃ rc, (st.r D.r).c = some rc ∧ D.k = (K.sl rc.k).at D.p) →
    ∃ lay : Nat → (k : K) → k.L, (∀ D, D ∈ RG → ∀ rc, (st.r D.r).c = some rc → ∀ e : D.k = (K.sl rc.k).at D.p, lay D.r (.sl rc.k) = (K.sl rc.k).setL D.p (g.lay D.r (.sl rc.k)) (e ▸ asmL g2 D.k D.j)) ∧ ∀ r, r ∉ RG.map Rgn.r → lay r = g.lay r
  | [], _, _ => ⟨g.lay, fun D h => by simp at h, fun _ _ => rfl⟩
  | D :: RG, hn, h => by
    rw [List.map_cons, List.nodup_cons] at hn
    obtain ⟨lay, h1, h2⟩ := lay_ex st g g2 RG hn.2 (fun D' hD => h D' (List.mem_cons_of_mem _ hD))
    obtain ⟨rc, hc, e⟩ := h D (by simp)
    let G : Gh := ⟨fun _ => none, lay, fun _ => (0, 0)⟩
    refine ⟨(G.setL D.r (.sl rc.k) ((K.sl rc.k).setL D.p (g.lay D.r (.sl rc.k)) (e ▸ asmL g2 D.k D.j))).lay, fun D' hD rc' hc' e' => ?_, fun r hr => ?_⟩
    · rcases List.mem_cons.1 hD with f | f
      · subst f
        rw [hc] at hc'
        cases hc'
        exact Gh.lay_same ..
      · have hne : D'.r ≠ D.r := fun hh => hn.1 (by rw [← hh]; exact List.mem_map_of_mem (f := Rgn.r) f)
        rw [Gh.lay_other _ _ _ _ hne]
        exact h1 D' f rc' hc' e'
    · simp only [List.map_cons, List.mem_cons, not_or] at hr
      rw [Gh.lay_other _ _ _ _ hr.1]
      exact h2 r hr.2
theorem like_bxO : ∀ {k : K} {u : AV} (y : k.T), likeK k u = true → u.like (bxO k u y) = true ∧ (u.ok = true → (bxO k u y).ok = true)
  | .int _, u, y, h => by
    cases u <;> first | exact ⟨rfl, fun _ => rfl⟩ | (simp [likeK] at h)
  | .bool, u, y, h => by
    cases u <;> first | exact ⟨rfl, fun _ => rfl⟩ | (simp [likeK] at h)
  | .pair a b, u, y, h => by
    cases u <;> first | (simp [likeK] at h; done) | skip
    rename_i u t
    obtain ⟨h1, h2⟩ := andB_true.1 (show andB (likeK a u) (likeK b t) = true from h)
    obtain ⟨k1, k2⟩ := like_bxO y.1 h1
    obtain ⟨k3, k4⟩ := like_bxO y.2 h2
    exact ⟨andB_true.2 ⟨k1, k3⟩, fun ho => by
      obtain ⟨o1, o2⟩ := andB_true.1 (show andB u.ok t.ok = true from ho)
      exact andB_true.2 ⟨k2 o1, k4 o2⟩⟩
  | .sl k, u, y, h => ⟨like_refl u, fun h => h⟩
open Classical in
theorem after_call {ps : List Pat} {vs : List AV} {ds : List RI} {m : MR} {n bd F : Nat} {keep : List Nat} {RG : List Rgn} {BX : List Bxn} {RD : List (Nat × List Value)} {BD : List Nat}
    (hS : Sim S st1 g w a) (hst : st1.boxes = st.boxes) (hkeep : ∀ r, r ∈ keep → st1.r r = st.r r) (hB : Begun st g g0 w ps vs ds m)
    (hrows : ∀ b c, (b, c) ∈ rowsL ds → (∃ r, r ∈ m.o ∧ g.ow b = some (2 * r)) ∧ Blk w b c) (hdead : ∀ b c, (b, c) ∈ rowsT ps ds → ∃ r, g.ow b = some (2 * r) ∧ (st1.r r).c = none)
    (hS2 : Sim ⟨w, g0.ow, n, st0.r, g0.lay, g0.bx⟩ st2 g2 w' a') (hR : Rgs st g st0 g0 st2 st1 stf keep 0 (0 + nslL ds) RG) (hX : Bxs st g g0 st2 st1 stf m.b 0 (0 + nbL ps) RG BX) (henv : stf.env = st1.env)
    (hcov : ∀ b c, (b, c) ∈ rowsL ds → (∃ D, D ∈ RG ∧ (b, c) ∈ rows D.k D.x D.l) ∨ (b, c) ∈ rowsT ps ds) (hn1 : nslL ds ≤ 1000) (hn2 : nbL ps ≤ 1000)
    (hgive : ∀ B, B ∈ BX → B.own = false → B.k.flat = true ∨ anyL Pat.lax ps = false) (hRD : Pool st2 g2 w' RD) (hBD : ∀ b, b ∈ BD → ∃ x, g2.ow b = some (2 * x + 3) ∧ 1000 ≤ x) :
    ∃ g3, Sim S stf g3 w' a ∧ (∀ v x, RepV st1 g w v x → RepV stf g3 w' v x) ∧ (∀ b, g2.U w' b → (b < w.heap.size → g0.ow b ≠ none) → g3.U w' b) ∧ (anyL Pat.lax ps = false → ∀ b, g2.U w' b → g3.U w' b) ∧
      (∀ b, b ∈ RD.map Prod.fst → g3.ow b = some (2 * F)) ∧ ∀ b, b ∈ BD → g3.ow b = some (2 * bd + 3) := by
  let ow3 : Nat → Option Nat := fun b => match g2.ow b with
    | none => if g0.ow b = none ∧ b < w.heap.size then g.ow b else none
    | some x => if x = 1 then g.ow b else if h : ∃ D, D ∈ RG ∧ ∃ i, D.j ≤ i ∧ i < D.j + D.k.nsl ∧ x = 2 * i then some (2 * (Classical.choose h).r)
      else if h : ∃ B, B ∈ BX ∧ x = 2 * B.nb + 3 then some (2 * (Classical.choose h).b + 3)
      else if b ∈ RD.map Prod.fst then some (2 * F) else if b ∈ BD then some (2 * bd + 3) else none
  obtain ⟨lay3, hl1, hl2⟩ := lay_ex st g g2 RG hR.nodup (fun D hD => by obtain ⟨_, ⟨rc, h1, e, _⟩, _⟩ := hR.ok D hD; exact ⟨rc, h1, e⟩)
  let g3 : Gh := ⟨ow3, lay3, g.bx⟩
  -- owners
  have oD : ∀ D i b, D ∈ RG → D.j ≤ i → i < D.j + D.k.nsl → g2.ow b = some (2 * i) → ow3 b = some (2 * D.r) := by
    intro D i b hD h1 h2 ho
    have hex : ∃ D, D ∈ RG ∧ ∃ i', D.j ≤ i' ∧ i' < D.j + D.k.nsl ∧ 2 * i = 2 * i' := ⟨D, hD, i, h1, h2, rfl⟩
    have : ow3 b = some (2 * (Classical.choose hex).r) := by
      simp only [ow3, ho]
      rw [if_neg (by omega), dif_pos hex]
    rw [this]
    obtain ⟨k1, i', k2, k3, k4⟩ := Classical.choose_spec hex
    rcases pair_sep hR.sep _ D k1 hD with e | e | e
    · rw [e]
    · omega
    · omega
  have oB : ∀ B b, B ∈ BX → g2.ow b = some (2 * B.nb + 3) → ow3 b = some (2 * B.b + 3) := by
    intro B b hb ho
    have hex : ∃ B', B' ∈ BX ∧ 2 * B.nb + 3 = 2 * B'.nb + 3 := ⟨B, hb, rfl⟩
    have : ow3 b = some (2 * (Classical.choose hex).b + 3) := by
      simp only [ow3, ho]
      rw [if_neg (by omega), dif_neg (by rintro ⟨_, _, i, _, _, h⟩; omega), dif_pos hex]
    rw [this]
    obtain ⟨k1, k2⟩ := Classical.choose_spec hex
    rcases pair_sep hX.sep _ B k1 hb with e | e | e
    · rw [e]
    · omega
    · omega
  have oK : ∀ b, b < w.heap.size → (∀ x, g0.ow b = some x → x = 1) → ow3 b = g.ow b ∧ w'.heap[b]? = w.heap[b]? ∧ (g2.ow b = none ∨ g2.ow b = some 1) := by
    intro b hlt hx
    cases e : g0.ow b with
    | none =>
      obtain ⟨h1, h2⟩ := hS2.old b hlt e
      exact ⟨by simp only [ow3, h1]; rw [if_pos ⟨e, hlt⟩], h2, .inl h1⟩
    | some x =>
      have := hx x e
      subst this
      obtain ⟨h1, h2⟩ := hS2.far b e
      exact ⟨by simp only [ow3, h1]; rw [if_pos trivial], h2, .inr h1⟩
  have rowO : ∀ b, b ∈ (rowsL ds).map Prod.fst → ∃ r, r ∈ m.o ∧ g.ow b = some (2 * r) := by
    intro b hb
    obtain ⟨⟨b1, c1⟩, hm, e1⟩ := List.mem_map.1 hb
    have e1 : b1 = b := e1
    subst e1
    exact (hrows _ _ hm).1
  -- a block that a root owns
  have kR : ∀ r b, g.ow b = some (2 * r) → (st1.r r).c ≠ none → (∀ D, D ∈ RG → D.r = r → b ∉ (rows D.k D.x D.l).map Prod.fst) → ow3 b = some (2 * r) ∧ w'.heap[b]? = w.heap[b]? ∧ (g2.ow b = none ∨ g2.ow b = some 1) := by
    intro r b ho hc hD
    obtain ⟨h1, h2, h3⟩ := oK b (hS.own b _ ho) (fun x hx => by
      rcases hB.some b x hx with h | h | ⟨c, _, _, h, _⟩
      · exact h
      · exfalso
        obtain ⟨⟨b1, c1⟩, hm, e1⟩ := List.mem_map.1 h
        have e1 : b1 = b := e1
        subst e1
        rcases hcov _ _ hm with ⟨D, hD1, hD2⟩ | hT
        · obtain ⟨⟨hp, _⟩, _⟩ := hR.ok D hD1
          have hk := hkeep D.r (hR.ok D hD1).2.2.1
          have hp1 : Place st1 g D.r D.p D.k D.x D.l := by
            obtain ⟨rc, k1, k2, k3, k4⟩ := hp
            rw [← hk] at k1 k2
            exact ⟨rc, k1, k2, k3, k4⟩
          have := ((hp1.facts hS).2.2 _ _ hD2).1
          rw [ho] at this
          have e : D.r = r := by have := Option.some.inj this; omega
          exact hD D hD1 e (List.mem_map_of_mem (f := Prod.fst) hD2)
        · obtain ⟨r', k1, k2⟩ := hdead _ _ hT
          rw [ho] at k1
          have e : r = r' := by have := Option.some.inj k1; omega
          subst e; exact hc k2
      · rw [ho] at h; have := Option.some.inj h; omega)
    exact ⟨h1.trans ho, h2, h3⟩
  have kB : ∀ c b, g.ow b = some (2 * c + 3) → c ∉ m.b → ow3 b = some (2 * c + 3) ∧ w'.heap[b]? = w.heap[b]? := by
    intro c b ho hc
    obtain ⟨h1, h2, _⟩ := oK b (hS.own b _ ho) (fun x hx => by
      rcases hB.some b x hx with h | h | ⟨c', _, h0, h, _⟩
      · exact h
      · obtain ⟨r, _, h⟩ := rowO b h
        rw [ho] at h; have := Option.some.inj h; omega
      · rw [ho] at h
        have e : c = c' := by have := Option.some.inj h; omega
        subst e; exact absurd h0 hc)
    exact ⟨h1.trans ho, h2⟩
  have U3 : ∀ b, g2.U w' b → (b < w.heap.size → g0.ow b ≠ none) → g3.U w' b := by
    intro b hb h0
    refine ⟨hb.1, ?_⟩
    show ow3 b = none
    simp only [ow3, hb.2]
    rw [if_neg (fun h => h0 h.2 h.1)]
  have U4 : anyL Pat.lax ps = false → ∀ b, g2.U w' b → g3.U w' b := by
    intro hl b hb
    refine ⟨hb.1, ?_⟩
    show ow3 b = none
    simp only [ow3, hb.2]
    split
    · rename_i h
      cases e : g.ow b with
      | none => rfl
      | some x => exact absurd h.1 (hB.far b hl (by rw [e]; simp))
    · rfl
  have used1 : ∀ b, st1.b b = st.b b := used_b hst
  -- regions
  have reg : ∀ D, D ∈ RG → RStep (st1.r D.r) (stf.r D.r) (g.lay D.r) (g3.lay D.r) ∧ RootM g3 w' D.r (stf.r D.r) := by
    intro D hD
    obtain ⟨⟨hp, hhr, hpl, her⟩, ⟨rc, k1, e, k2⟩, hk, _, hj⟩ := hR.ok D hD
    have hk1 := hkeep D.r hk
    obtain ⟨f1, f2, f3, f4⟩ := end_facts hS2 (st0 := st0) rfl (g0 := g0) rfl her hhr hpl (by omega)
    obtain ⟨rc', q1, q2, q3, q4, e', q5, q6⟩ := id hp
    have hrr : rc' = rc := by rw [k1] at q1; exact (Option.some.inj q1).symm
    subst hrr
    obtain ⟨m1, m2⟩ := mrg_rows D.k D.x D.y (asmL g2 D.k D.j)
    rw [k2, ← hk1]
    have hplace : Place st1 g D.r D.p D.k D.x D.l := by
      obtain ⟨rc, z1, z2, z3⟩ := hp
      rw [← hk1] at z1 z2
      exact ⟨rc, z1, z2, z3⟩
    -- with the kinds unfolded
    have gen : ∀ {k0 : K} (e : D.k = k0) (e' : k0 = D.k) (x0 : k0.T) (l0 : k0.L), e' ▸ x0 = D.x → e' ▸ l0 = D.l →
        Fit k0 (e ▸ mrg D.k D.x D.y) (e ▸ asmL g2 D.k D.j) ∧ ((rows k0 (e ▸ mrg D.k D.x D.y) (e ▸ asmL g2 D.k D.j)).map Prod.fst).Nodup ∧
        (∀ b c, (b, c) ∈ rows k0 (e ▸ mrg D.k D.x D.y) (e ▸ asmL g2 D.k D.j) → (∃ i, D.j ≤ i ∧ i < D.j + D.k.nsl ∧ g2.ow b = some (2 * i)) ∧ Blk w' b c) ∧
        hdr k0 (e ▸ mrg D.k D.x D.y) (e ▸ asmL g2 D.k D.j) = hdr k0 x0 l0 ∧ rows k0 x0 l0 = rows D.k D.x D.l := by
      intro k0 e e' x0 l0 hx hl
      subst e
      have hx : x0 = D.x := hx
      have hl : l0 = D.l := hl
      subst hx hl
      exact ⟨m2.2 f1, by rw [m1]; exact f2, fun b c hb => f3 b c (by rw [m1] at hb; exact hb), f4, rfl⟩
    obtain ⟨g1, g2', g3', g4, g5⟩ := gen e e' _ _ q5 q6
    refine root_behind (hS.root D.r) (by rw [hk1]; exact k1) (by rw [hk1]; exact q2) q3 q4 g1 g2' (fun b c hb => ?_) g4 (fun b ho hnb => ?_) ?_ rfl
    · obtain ⟨⟨i, z1, z2, z3⟩, z4⟩ := g3' b c hb
      exact ⟨oD D i b hD z1 z2 z3, z4⟩
    · rw [g5] at hnb
      obtain ⟨z1, z2, z3⟩ := kR D.r b ho (by rw [hk1, k1]; simp) (fun D' hD' hr hm => by
        have : D' = D := by
          have hnd := hR.nodup
          rcases pair_sep (R := fun A B : Rgn => A.r ≠ B.r) (by rw [List.nodup_iff_pairwise_ne, List.pairwise_map] at hnd; exact hnd) D' D hD' hD with z | z | z
          · exact z
          · exact absurd hr z
          · exact absurd hr.symm z
        subst this
        exact hnb hm)
      refine ⟨z1, z2, fun hm => ?_⟩
      obtain ⟨⟨b1, c1⟩, hm', e1⟩ := List.mem_map.1 hm
      have e1 : b1 = b := e1
      subst e1
      obtain ⟨⟨i, _, _, y3⟩, _⟩ := g3' _ _ hm'
      rcases z3 with z | z
      · rw [z] at y3; cases y3
      · rw [z] at y3; have := Option.some.inj y3; omega
    · exact hl1 D hD rc' k1 e
  -- values in boxes
  have bxrep : ∀ {k : K} {u : AV} {y : k.T} {j : Nat}, likeK k u = true → RgIn st RG k u y j → Rep stf g3 w' (bxO k u y) (hdr k y (asmL g2 k j)) := by
    intro k
    induction k with
    | int ik => intro u y j _ _; exact rfl
    | bool => intro u y j _ _; exact rfl
    | pair p q ip iq =>
      intro u y j hl hr
      obtain ⟨u1, u2, e, r1, r2⟩ := hr
      subst e
      obtain ⟨l1, l2⟩ := andB_true.1 (show andB (likeK p u1) (likeK q u2) = true from hl)
      exact ⟨_, _, rfl, ip l1 r1, iq l2 r2⟩
    | sl k _ =>
      intro u ys j _ hr
      obtain ⟨r, gen, hc, p, xs, l, e, h1, h2, hD⟩ := hr
      subst e
      obtain ⟨⟨hp, _⟩, ⟨rc, k1, e, k2⟩, _⟩ := hR.ok _ hD
      have k1 : (st.r r).c = some rc := k1
      have k2 : stf.r r = newRV (st.r r) rc p (e ▸ ys) := k2
      refine ⟨⟨_, _, _, rfl⟩, ?_, fun rc' hv => ?_⟩
      · rw [k2]
        exact ⟨Nat.le_of_eq h1, fun _ => Nat.le_succ_of_le h2⟩
      · rw [k2] at hv
        obtain ⟨v1, v2, v3⟩ := hv
        have hrc : rc' = { rc with xs := (K.sl rc.k).set p rc.xs (e ▸ ys) } := (Option.some.inj v1).symm
        have hi : ix p < 1 := by
          rcases v3 with z | ⟨_, z⟩
          · exact z
          · have z : hc = Nat.succ (st.r r).hc := z
            omega
        obtain ⟨rc0, q1, _, _, q4, _⟩ := hp
        have q1 : (st.r r).c = some rc0 := q1
        have e0 : rc0 = rc := by rw [k1] at q1; exact (Option.some.inj q1).symm
        subst e0
        have q4 : Okp (.sl rc0.k) p rc0.xs := q4
        have hp0 := ok_nil q4 hi
        subst hp0
        subst hrc
        refine ⟨trivial, ⟨_, rfl⟩, ?_⟩
        have hlay := hl1 _ hD rc0 k1 e
        have e2 : K.sl k = K.sl rc0.k := e
        have hlay : lay3 r (.sl rc0.k) = e2 ▸ asmL g2 (.sl k) j := hlay
        show _ = hdr (.sl rc0.k) (e2 ▸ ys) (lay3 r (.sl rc0.k))
        rw [hlay]
        have key : ∀ {k0 : K} (e : K.sl k = k0) (x : (K.sl k).T) (l : (K.sl k).L), hdr (.sl k) x l = hdr k0 (e ▸ x) (e ▸ l) := by
          intro k0 e x l; subst e; rfl
        exact key e2 ys _
  have key := hS.next (st' := stf) (g' := g3) (w' := w') (fun t => by show look _ stf.env t = look _ st1.env t; rw [henv])
    (fun b hb => by
      have h0 := hB.none b hb.2
      obtain ⟨h1, h2, _⟩ := oK b hb.1 (fun x hx => by rw [h0] at hx; cases hx)
      exact ⟨⟨Nat.lt_of_lt_of_le hb.1 hS2.grow, h1.trans hb.2⟩, h2⟩)
    (fun r => by
      by_cases hr : r ∈ RG.map Rgn.r
      · obtain ⟨D, hD, e⟩ := List.mem_map.1 hr
        subst e
        exact .inr (reg D hD)
      · refine .inl ⟨hR.out r hr, hl2 r hr, fun b hc ho => ?_⟩
        obtain ⟨h1, h2, _⟩ := kR r b ho hc (fun D hD e => absurd (by rw [← e]; exact List.mem_map_of_mem (f := Rgn.r) hD) hr)
        exact ⟨h1, h2⟩)
    (fun b => by
      by_cases hb : b ∈ m.b
      · rw [← hX.all] at hb
        obtain ⟨B, hBX, e⟩ := List.mem_map.1 hb
        subst e
        obtain ⟨⟨q1, q2, q3, q4, u2, q5, q6, q7, q8⟩, q9, _, q10⟩ := hX.ok B hBX
        have q1' : (st1.b B.b).c = some B.u := by rw [used1]; exact q1
        obtain ⟨o1, o2⟩ := hS.box B.b B.u q1'
        obtain ⟨p1, p2⟩ := hS2.box B.nb u2 q5
        rw [if_neg (by rw [q7]; simp)] at p2
        obtain ⟨p3, p4, cs, p5, p6⟩ := p2
        have hbx : g2.bx B.nb = g.bx B.b := (hS2.topb B.nb u2 (by omega) q6 q5).trans q4
        rw [hbx] at p3 p4 p5
        rw [q9]
        have hlike : B.u.like (if B.own = true then bxO B.k B.u B.y else opnV B.k B.y) = true ∧ (if B.own = true then bxO B.k B.u B.y else opnV B.k B.y).ok = true ∧ Rep stf g3 w' (if B.own = true then bxO B.k B.u B.y else opnV B.k B.y) cs := by
          by_cases hown : B.own = true
          · rw [if_pos hown] at q8 ⊢
            obtain ⟨z1, z2⟩ := like_bxO B.y q3
            refine ⟨z1, z2 o1, ?_⟩
            rw [q8.2 g2 w' cs p6]
            exact bxrep q3 q8.1
          · rw [if_neg hown] at q8 ⊢
            have rv := q8 g2 w' cs p6
            have rv3 : RV (g3.U w') w' B.k B.y cs := by
              rcases hgive B hBX (by simpa using hown) with hf | hl
              · exact rv.any hf
              · exact rv.mono fun b hb => ⟨U4 hl b hb, rfl⟩
            obtain ⟨z1, z2, z3⟩ := opnV_rep (st := stf) (g := g3) rv3
            exact ⟨likeK_like q3 z2, z3, z1⟩
        refine .inr ⟨?_, fun _ => ?_⟩
        · rw [used1]
          exact .inr ⟨rfl, fun v' hv' => ⟨B.u, q1, by rw [← Option.some.inj hv']; exact hlike.1, rfl⟩⟩
        · intro v' hv'
          have e : v' = (if B.own = true then bxO B.k B.u B.y else opnV B.k B.y) := (Option.some.inj hv').symm
          subst e
          refine ⟨hlike.2.1, ?_⟩
          have hro : (B.new st).ro = false := q2
          rw [if_neg (by rw [hro]; simp)]
          exact ⟨p3, oB B _ hBX p4, cs, p5, hlike.2.2⟩
      · refine .inl ⟨hX.out b hb, rfl, fun d hd => kB b d hd hb⟩)
    (fun b x hx => by
      have hx : ow3 b = some x := hx
      cases e : g2.ow b with
      | none =>
        simp only [ow3, e] at hx
        split at hx
        · exact Nat.lt_of_lt_of_le (hS.own b x hx) hS2.grow
        · cases hx
      | some y => exact hS2.own b y e)
    hS2.os hS2.tape hS2.output hS2.grow
    (fun b hb => by
      obtain ⟨h1, h2, _⟩ := oK b (hS.own b _ hb) (fun x hx => by
        rcases hB.some b x hx with h | h | ⟨c', _, h0, h, _⟩
        · exact h
        · obtain ⟨r, _, h⟩ := rowO b h
          rw [hb] at h; have := Option.some.inj h; omega
        · rw [hb] at h; have := Option.some.inj h; omega)
      exact ⟨h1.trans hb, h2⟩)
  refine ⟨g3, key.1, key.2.2, U3, U4, fun b hb => ?_, fun b hb => ?_⟩
  · obtain ⟨⟨b1, c1⟩, hm, e1⟩ := List.mem_map.1 hb
    have e1 : b1 = b := e1
    subst e1
    obtain ⟨_, r, h1, h2⟩ := hRD.row _ _ hm
    show ow3 b1 = _
    simp only [ow3, h1]
    rw [if_neg (by omega), dif_neg, dif_neg, if_pos hb]
    · rintro ⟨B, _, h⟩; omega
    · rintro ⟨D, hD, i, z1, z2, z3⟩
      have : i = r := by omega
      subst this
      exact endR_alive (hR.ok D hD).1.2.2.2 i z1 z2 h2
  · obtain ⟨x, h1, h2⟩ := hBD b hb
    show ow3 b = _
    simp only [ow3, h1]
    rw [if_neg (by omega), dif_neg, dif_neg, if_neg, if_pos hb]
    · intro hm
      obtain ⟨⟨b1, c1⟩, hm', e1⟩ := List.mem_map.1 hm
      have e1 : b1 = b := e1
      subst e1
      obtain ⟨_, r, k1, _⟩ := hRD.row _ _ hm'
      rw [h1] at k1; have := Option.some.inj k1; omega
    · rintro ⟨B, hB', h⟩
      have := (hX.ok B hB').2.2.2
      omega
    · rintro ⟨D, hD, i, z1, z2, z3⟩; omega
end
end Go.Am
namespace Go.Am
def Pat.nsl : Pat → Nat
  | .q _ => 0
  | .own k => k.nsl
  | .take k => k.nsl
  | .ro k => k.nsl
  | .box true k => k.nsl
  | .bp k => k.nsl
  | .box false _ => 0
def nslP : List Pat → Nat
  | [] => 0
  | p :: ps => p.nsl + nslP ps
def small (S : FSpec) : Bool := Nat.ble (nslP S.ps) 1000 && Nat.ble (nbL S.ps) 1000
/-- What is known of a function's contract. -/
def Known (P : Program) (f : FuncId) (S : FSpec) : Prop := Ctr P f S ∧ small S = true
section
variable {P : Program} {E : Env} {S : Start} {st st0 st1 st2 stc stf st' : St} {g g' g0 g2 : Gh} {w w' : World} {a a' : Act} {Q : St → Prop} {gd : Gd} {o : Oper} {Qx : Exit → Act → World → Prop}
theorem back_nsl : ∀ {ps : List Pat} {vs : List AV} {ds : List RI}, BackOks st g ps vs ds → nslL ds = nslP ps ∧ vs.length = ps.length
  | [], [], [], _ => ⟨rfl, rfl⟩
  | p :: ps, v :: vs, d :: ds, h => by
    obtain ⟨h1, h2⟩ := back_nsl h.2
    have : d.k.nsl = p.nsl := by
      have h := h.1
      cases p with
      | q q => have h : d = .none := h; rw [h]; rfl
      | own k => obtain ⟨x, l, e, _⟩ := h; rw [e]; rfl
      | take k => have h : d.k = k := h; rw [h]; rfl
      | ro k =>
        rcases h with ⟨_, _, _, _, x, l, _, e, _⟩ | ⟨_, _, _, x, l, _, _, e, _⟩
        · rw [e]; rfl
        · rw [e]; rfl
      | box own k =>
        obtain ⟨_, _, _, _, _, _, _, _, h1, h2⟩ := h
        cases own with
        | true => obtain ⟨x, l, e, _⟩ := h1 rfl; rw [e]; rfl
        | false => rw [h2 rfl]; rfl
      | bp k => obtain ⟨_, _, _, _, _, x, l, _, _, _, _, _, e, _⟩ := h; rw [e]; rfl
    exact ⟨by show d.k.nsl + nslL ds = p.nsl + nslP ps; rw [this, h1], by simp [h2]⟩
  | [], [], _ :: _, h => h.elim
  | [], _ :: _, _, h => h.elim
  | _ :: _, [], _, h => h.elim
  | _ :: _, _ :: _, [], h => h.elim
theorem keep_take : ∀ (ps : List Pat) (vs : List AV), (ownRootsL st ps vs).Nodup → ∀ r, r ∈ keepRootsL st ps vs → r ∉ takeRootsL ps vs
  | [], [], _, r, h => by simp [keepRootsL] at h
  | [], _ :: _, _, r, h => by simp [keepRootsL] at h
  | _ :: _, [], _, r, h => by simp [keepRootsL] at h
  | p :: ps, v :: vs, hn, r, h => by
    have hn : (ownRoots st p v ++ ownRootsL st ps vs).Nodup := hn
    rw [List.nodup_append] at hn
    have tk : ∀ r, r ∈ takeRoots p v → r ∈ ownRoots st p v := by
      intro r h
      cases p <;> first | exact h | (simp [takeRoots] at h)
    have tkl : ∀ (ps : List Pat) (vs : List AV) r, r ∈ takeRootsL ps vs → r ∈ ownRootsL st ps vs := by
      intro ps
      induction ps with
      | nil => intro vs r h; cases vs <;> simp [takeRootsL] at h
      | cons p ps ih =>
        intro vs r h
        cases vs with
        | nil => simp [takeRootsL] at h
        | cons v vs =>
          rcases List.mem_append.1 (show r ∈ takeRoots p v ++ takeRootsL ps vs from h) with h | h
          · refine List.mem_append_left _ ?_
            cases p <;> first | exact h | (simp [takeRoots] at h)
          · exact List.mem_append_right _ (ih vs r h)
    intro ht
    rcases List.mem_append.1 (show r ∈ keepRoots st p v ++ keepRootsL st ps vs from h) with h | h
    · rcases List.mem_append.1 (show r ∈ takeRoots p v ++ takeRootsL ps vs from ht) with ht | ht
      · cases p <;> first | (simp [keepRoots] at h; done) | (simp [takeRoots] at ht)
      · exact hn.2.2 r (keep_own _ _ _ _ h) r (tkl ps vs r ht) rfl
    · rcases List.mem_append.1 (show r ∈ takeRoots p v ++ takeRootsL ps vs from ht) with ht | ht
      · exact hn.2.2 r (tk r ht) r (keepL_own _ _ _ _ h) rfl
      · exact keep_take ps vs hn.2.1 r h ht
theorem callP_go {args : List AV} {dst : Option Nat} (hg : GOk gd) : ∀ {l : List FSpec}, (callP.go gd dst args l).run st Q → ∃ F gd', F ∈ l ∧ GOk gd' ∧ (mts args F.ps args fun m => iff' m.ok (vcg gd' (F.pre m.xs) <| altP gd' dst F args (F.alt m.xs)) .fail).run st Q
  | [], h => h.elim
  | F :: l, h => by
    rcases iff'_run (show (iff' (fitsAll F.ps args) _ (callP.go gd dst args l)).run st Q from h) with ⟨_, h⟩ | ⟨_, h⟩
    · cases gd with
      | none => exact ⟨F, none, by simp, hg, h⟩
      | some b =>
        rcases iff'_run (show (iff' (quiet F.ps) (callS (some b) dst args F) (Prog.alt (b = true) (callS none dst args F) (.alt (b = false) (wrg (some b) dst (.int .i64 0) .ret) .tt))).run st Q from h) with ⟨_, h⟩ | ⟨_, h⟩
        · exact ⟨F, some b, by simp, hg, h⟩
        · exact ⟨F, none, by simp, trivial, h.1 hg⟩
    · obtain ⟨F', gd', h1, h2⟩ := callP_go hg h
      exact ⟨F', gd', List.mem_cons_of_mem _ h1, h2⟩
theorem resOk_BD {fr : Bool} {U V : Nat → Prop} : ∀ {rp : RP} {v : Value} {ys rest : Cont} {RD : List (Nat × List Value)} {BD : List Nat}, ResOk fr U V g w rp v ys rest RD BD → ∀ b, b ∈ BD → ∃ x, g.ow b = some (2 * x + 3) ∧ 1000 ≤ x
  | .vw _, _, _, _, _, _, ⟨_, _, _, _, _, e⟩, b, hb => by rw [e] at hb; simp at hb
  | .fz _, _, _, _, _, _, ⟨_, _, _, _, _, e⟩, b, hb => by rw [e] at hb; simp at hb
  | .own _, _, _, _, _, _, ⟨_, _, _, e, _⟩, b, hb => by rw [e] at hb; simp at hb
  | .bx _, _, _, _, _, _, ⟨_, b0, _, x, _, _, _, _, h1, h2, _, e⟩, b, hb => by
    rw [e] at hb
    simp at hb
    subst hb
    exact ⟨x, h1, h2⟩
  | .nil, _, _, _, _, _, ⟨_, _, _, e⟩, b, hb => by rw [e] at hb; simp at hb
  | .cons _ _, _, _, _, _, _, ⟨_, _, _, _, _, _, _, _, h1, h2, _, e⟩, b, hb => by
    rw [e] at hb
    rcases List.mem_append.1 hb with hb | hb
    · exact resOk_BD h1 b hb
    · exact resOk_BD h2 b hb
theorem call_ok (hE : ∀ f F, F ∈ E.sig f → Known P f F) : CallOk P E := by
  intro S st g w a gd dst f args vs Q h hS hg hb hv
  obtain ⟨F, gd, hF, hg, h⟩ := callP_go hg (show (callP.go gd dst args (E.sig f)).run st Q from h)
  obtain ⟨⟨⟨fn, hfn⟩, n, hn, hctr⟩, hsm⟩ := hE f F hF
  refine ⟨⟨fn, hfn⟩, ?_⟩
  obtain ⟨m, st1, ds, h1, s1, r1, ⟨u1, u2, u3⟩, mo, mb, mrb, bk, tk, h2⟩ := begin_sim h hS hv
  obtain ⟨hok, h1⟩ := iff'_fail h1
  obtain ⟨hpre, h1⟩ := vcg_run h1 hg
  obtain ⟨f1, f2, f3, h3⟩ := h2 hok
  obtain ⟨o1, o2, _, o4⟩ := MR.ok_facts hok
  obtain ⟨i, hi, hcall⟩ := hctr m.xs hpre
  obtain ⟨bn, bl⟩ := back_nsl bk
  have hvl : vs.length = F.ps.length := (all2_len hv).symm.trans bl
  obtain ⟨g0, hB, hS0, hR0⟩ := h3 i n hi (by omega)
  unfold small at hsm
  obtain ⟨sm1, sm2⟩ := Bool.and_eq_true_iff.1 hsm
  have sm1 := Nat.le_of_ble_eq_true sm1
  have sm2 := Nat.le_of_ble_eq_true sm2
  refine (hcall ⟨w, g0.ow, n, (St.init i).r, g0.lay, g0.bx⟩ g0 w vs hvl rfl hS0).mono fun e w' he => ?_
  obtain ⟨v, st', g', a', rv, rfl, hS', hrv, hres⟩ := he
  show Good S Q (a.put dst v) w'
  obtain ⟨rest, st2, g2, RD, BD, q1, s2, cg, p2, ro⟩ := res_run gd.isSome hres hS' hrv Pool.nil
  rw [List.nil_append] at p2
  cases rest with
  | cons _ _ => exact q1.elim
  | nil =>
    have q1 : (fins F.ps (F.alt m.xs).upd 0 0 .ret).run st2 (fun _ => True) := q1
    unfold altP at h1
    rcases iff'_run h1 with ⟨_, h1⟩ | ⟨hgl, h1⟩
    · exact h1.elim
    have hgl : anyL Pat.lax F.ps = false ∨ (anyL Pat.gives F.ps = false ∧ (F.alt m.xs).rp.gives = false) := by
      revert hgl
      cases anyL Pat.lax F.ps <;> cases anyL Pat.gives F.ps <;> cases (F.alt m.xs).rp.gives <;> simp [andB, orB]
    have hkeep : ∀ r, r ∈ keepRootsL st F.ps args → st1.r r = st.r r := fun r hr => by
      rcases u3 r with e | ⟨e, _⟩
      · exact e
      · exact absurd e (keep_take F.ps args (by rw [← mo]; exact o1) r hr)
    obtain ⟨stf, RG, BX, k0, henv, hR, hX, hgv, hcov⟩ := fw_run (Qt := fun _ => True) (st0 := St.init i) bk (by rw [← mo]; exact o1) (by rw [← mb]; exact o2) (fun b hb hc => o4 b (by rw [mb]; exact hc) (mrb b hb)) q1 h1 hkeep (fun b _ => used_b u2 b) (fun b _ => used_b u2 b) hB.plcs hR0 hB.links
    obtain ⟨F0, hF0⟩ := look_far RootV.none stf.roots
    obtain ⟨g3, t1, t2, t3, t4, t5, t6⟩ := after_call (n := n) (bd := bid (dst.getD 0)) (F := max F0 (rid (dst.getD 0) (0 + (F.alt m.xs).rp.nsl))) (st0 := St.init i) (RD := RD) (BD := BD) s1 u2 hkeep hB f3 tk s2 hR (by rw [mb]; exact hX) henv hcov (by rw [bn]; exact sm1) sm2
      (fun B hBX ho => by
        rcases hgl with h | ⟨h, _⟩
        · exact .inr h
        · left
          cases hk : B.k.flat with
          | true => rfl
          | false =>
            have := hgv B hBX ho (by show notB B.k.flat = true; rw [hk]; rfl)
            rw [h] at this; cases this)
      p2 (resOk_BD ro)
    have hpool : ∀ J, J ≤ max F0 (rid (dst.getD 0) (0 + (F.alt m.xs).rp.nsl)) → PoolF stf g3 w' J (RD ++ []) := by
      intro J hJ
      rw [List.append_nil]
      refine ⟨p2.nodup, fun b c hbc => ⟨(p2.row b c hbc).1, _, t5 b (List.mem_map_of_mem (f := Prod.fst) hbc), ?_, hJ⟩⟩
      have : stf.r (max F0 (rid (dst.getD 0) (0 + (F.alt m.xs).rp.nsl))) = RootV.none := hF0 _ (Nat.le_max_left ..)
      rw [this]; rfl
    cases dst with
    | none =>
      have k0 : Q stf := k0
      exact ⟨stf, g3, k0, t1⟩
    | some d =>
      have k0 : (mkR gd d (F.alt m.xs).rp (F.alt m.xs).res 0 fun v _ _ => wrg gd (some d) v .ret).run stf Q := k0
      have ro3 : ResOk gd.isSome (g3.U w') (g3.U w') g3 w' (F.alt m.xs).rp v (F.alt m.xs).res [] RD BD :=
        ro.up (fun b hb => t3 b hb.1 hb.2) (hgl.symm.imp (fun h => h.2) fun h b hb => t4 h b hb) (fun b x hb _ _ => ⟨bid d, t6 b hb, by show 1000 ≤ 1000 + d; omega⟩)
      obtain ⟨av, st4, g4, j', _, z1, z2, z3, z4, _⟩ := mkR_run k0 t1 ro3 (fun b hb => t6 b hb) (hpool (rid d (0 + (F.alt m.xs).rp.nsl)) (Nat.le_max_right ..)) (Nat.le_refl _)
      exact good_value z2 z1 hg hb z4
end
end Go.Am
namespace Go.Am
def un0 {α : Type} (f : α) (d : α) (xs : Cont) : α :=
  match xs with
  | [] => f
  | _ => d
def unP0 (f : Prop) (xs : Cont) : Prop :=
  match xs with
  | [] => f
  | _ => False
theorem unP0_some {f : Prop} {xs : Cont} (h : unP0  f xs) :  xs = [] ∧ f  := by
  unfold unP0 at h
  split at h
  · exact ⟨rfl, h⟩
  · exact h.elim
def sp0 (ps : List Pat) (pre : Prop) (alt : Alt) : FSpec := ⟨ps, unP0  pre, un0  alt ⟨[], .nil, []⟩⟩
def FGoal0 (E : Env) (fn : Func) (S : FSpec) : Prop :=
  match inis S.ps [] ⟨[], 0, 0, [], []⟩ with
  | some i => match fn.body with
    | some c => run E c (St.init i) (finQ E fn S [])
    | none => False
  | none => False
theorem FOk.of0 {E : Env} {fn : Func} {ps : List Pat} {pre : Prop} {alt : Alt} (h : pre  → FGoal0 E fn (sp0 ps  pre alt)  ) :
    FOk E fn (sp0 ps  pre alt) := by
  intro xs hp
  obtain ⟨rfl, hq⟩ := unP0_some (f := pre) (xs := xs) hp
  have g := h  hq
  unfold FGoal0 at g
  split at g
  · rename_i i e
    rw [e]
    split at g
    · rename_i c ec
      rw [ec]
      exact g
    · exact g.elim
  · exact g.elim
def un1 (k0 : K) {α : Type} (f : k0.T → α) (d : α) (xs : Cont) : α :=
  match xs with
  | [d0] => match K.same d0.k k0 with
    | some ⟨h0⟩ => f (h0 ▸ d0.x)
    | _ => d
  | _ => d
def unP1 (k0 : K) (f : k0.T → Prop) (xs : Cont) : Prop :=
  match xs with
  | [d0] => match K.same d0.k k0 with
    | some ⟨h0⟩ => f (h0 ▸ d0.x)
    | _ => False
  | _ => False
theorem unP1_some {k0 : K} {f : k0.T → Prop} {xs : Cont} (h : unP1 k0 f xs) : ∃ x0, xs = [⟨k0, x0⟩] ∧ f x0 := by
  unfold unP1 at h
  split at h
  · rename_i d0
    obtain ⟨q0, y0⟩ := d0
    split at h
    · rename_i h0 _
      cases h0
      exact ⟨y0, rfl, h⟩
    · exact h.elim
  · exact h.elim
def sp1 (ps : List Pat) (k0 : K) (pre : k0.T → Prop) (alt : k0.T → Alt) : FSpec := ⟨ps, unP1 k0 pre, un1 k0 alt ⟨[], .nil, []⟩⟩
def FGoal1 (E : Env) (fn : Func) (S : FSpec) (k0 : K) (x0 : k0.T) : Prop :=
  match inis S.ps [⟨k0, x0⟩] ⟨[], 0, 0, [], []⟩ with
  | some i => match fn.body with
    | some c => run E c (St.init i) (finQ E fn S [⟨k0, x0⟩])
    | none => False
  | none => False
theorem FOk.of1 {E : Env} {fn : Func} {ps : List Pat} {k0 : K} {pre : k0.T → Prop} {alt : k0.T → Alt} (h : ∀ x0, pre x0 → FGoal1 E fn (sp1 ps k0 pre alt) k0 x0) :
    FOk E fn (sp1 ps k0 pre alt) := by
  intro xs hp
  obtain ⟨x0, rfl, hq⟩ := unP1_some (f := pre) (xs := xs) hp
  have g := h x0 hq
  unfold FGoal1 at g
  split at g
  · rename_i i e
    rw [e]
    split at g
    · rename_i c ec
      rw [ec]
      exact g
    · exact g.elim
  · exact g.elim
def un2 (k0 k1 : K) {α : Type} (f : k0.T → k1.T → α) (d : α) (xs : Cont) : α :=
  match xs with
  | [d0, d1] => match K.same d0.k k0, K.same d1.k k1 with
    | some ⟨h0⟩, some ⟨h1⟩ => f (h0 ▸ d0.x) (h1 ▸ d1.x)
    | _, _ => d
  | _ => d
def unP2 (k0 k1 : K) (f : k0.T → k1.T → Prop) (xs : Cont) : Prop :=
  match xs with
  | [d0, d1] => match K.same d0.k k0, K.same d1.k k1 with
    | some ⟨h0⟩, some ⟨h1⟩ => f (h0 ▸ d0.x) (h1 ▸ d1.x)
    | _, _ => False
  | _ => False
theorem unP2_some {k0 k1 : K} {f : k0.T → k1.T → Prop} {xs : Cont} (h : unP2 k0 k1 f xs) : ∃ x0 x1, xs = [⟨k0, x0⟩, ⟨k1, x1⟩] ∧ f x0 x1 := by
  unfold unP2 at h
  split at h
  · rename_i d0 d1
    obtain ⟨q0, y0⟩ := d0
    obtain ⟨q1, y1⟩ := d1
    split at h
    · rename_i h0 h1 _ _
      cases h0; cases h1
      exact ⟨y0, y1, rfl, h⟩
    · exact h.elim
  · exact h.elim
def sp2 (ps : List Pat) (k0 k1 : K) (pre : k0.T → k1.T → Prop) (alt : k0.T → k1.T → Alt) : FSpec := ⟨ps, unP2 k0 k1 pre, un2 k0 k1 alt ⟨[], .nil, []⟩⟩
def FGoal2 (E : Env) (fn : Func) (S : FSpec) (k0 k1 : K) (x0 : k0.T)  (x1 : k1.T) : Prop :=
  match inis S.ps [⟨k0, x0⟩, ⟨k1, x1⟩] ⟨[], 0, 0, [], []⟩ with
  | some i => match fn.body with
    | some c => run E c (St.init i) (finQ E fn S [⟨k0, x0⟩, ⟨k1, x1⟩])
    | none => False
  | none => False
theorem FOk.of2 {E : Env} {fn : Func} {ps : List Pat} {k0 k1 : K} {pre : k0.T → k1.T → Prop} {alt : k0.T → k1.T → Alt} (h : ∀ x0 x1, pre x0 x1 → FGoal2 E fn (sp2 ps k0 k1 pre alt) k0 k1 x0 x1) :
    FOk E fn (sp2 ps k0 k1 pre alt) := by
  intro xs hp
  obtain ⟨x0, x1, rfl, hq⟩ := unP2_some (f := pre) (xs := xs) hp
  have g := h x0 x1 hq
  unfold FGoal2 at g
  split at g
  · rename_i i e
    rw [e]
    split at g
    · rename_i c ec
      rw [ec]
      exact g
    · exact g.elim
  · exact g.elim
def un3 (k0 k1 k2 : K) {α : Type} (f : k0.T → k1.T → k2.T → α) (d : α) (xs : Cont) : α :=
  match xs with
  | [d0, d1, d2] => match K.same d0.k k0, K.same d1.k k1, K.same d2.k k2 with
    | some ⟨h0⟩, some ⟨h1⟩, some ⟨h2⟩ => f (h0 ▸ d0.x) (h1 ▸ d1.x) (h2 ▸ d2.x)
    | _, _, _ => d
  | _ => d
def unP3 (k0 k1 k2 : K) (f : k0.T → k1.T → k2.T → Prop) (xs : Cont) : Prop :=
  match xs with
  | [d0, d1, d2] => match K.same d0.k k0, K.same d1.k k1, K.same d2.k k2 with
    | some ⟨h0⟩, some ⟨h1⟩, some ⟨h2⟩ => f (h0 ▸ d0.x) (h1 ▸ d1.x) (h2 ▸ d2.x)
    | _, _, _ => False
  | _ => False
theorem unP3_some {k0 k1 k2 : K} {f : k0.T → k1.T → k2.T → Prop} {xs : Cont} (h : unP3 k0 k1 k2 f xs) : ∃ x0 x1 x2, xs = [⟨k0, x0⟩, ⟨k1, x1⟩, ⟨k2, x2⟩] ∧ f x0 x1 x2 := by
  unfold unP3 at h
  split at h
  · rename_i d0 d1 d2
    obtain ⟨q0, y0⟩ := d0
    obtain ⟨q1, y1⟩ := d1
    obtain ⟨q2, y2⟩ := d2
    split at h
    · rename_i h0 h1 h2 _ _ _
      cases h0; cases h1; cases h2
      exact ⟨y0, y1, y2, rfl, h⟩
    · exact h.elim
  · exact h.elim
def sp3 (ps : List Pat) (k0 k1 k2 : K) (pre : k0.T → k1.T → k2.T → Prop) (alt : k0.T → k1.T → k2.T → Alt) : FSpec := ⟨ps, unP3 k0 k1 k2 pre, un3 k0 k1 k2 alt ⟨[], .nil, []⟩⟩
def FGoal3 (E : Env) (fn : Func) (S : FSpec) (k0 k1 k2 : K) (x0 : k0.T)  (x1 : k1.T)  (x2 : k2.T) : Prop :=
  match inis S.ps [⟨k0, x0⟩, ⟨k1, x1⟩, ⟨k2, x2⟩] ⟨[], 0, 0, [], []⟩ with
  | some i => match fn.body with
    | some c => run E c (St.init i) (finQ E fn S [⟨k0, x0⟩, ⟨k1, x1⟩, ⟨k2, x2⟩])
    | none => False
  | none => False
theorem FOk.of3 {E : Env} {fn : Func} {ps : List Pat} {k0 k1 k2 : K} {pre : k0.T → k1.T → k2.T → Prop} {alt : k0.T → k1.T → k2.T → Alt} (h : ∀ x0 x1 x2, pre x0 x1 x2 → FGoal3 E fn (sp3 ps k0 k1 k2 pre alt) k0 k1 k2 x0 x1 x2) :
    FOk E fn (sp3 ps k0 k1 k2 pre alt) := by
  intro xs hp
  obtain ⟨x0, x1, x2, rfl, hq⟩ := unP3_some (f := pre) (xs := xs) hp
  have g := h x0 x1 x2 hq
  unfold FGoal3 at g
  split at g
  · rename_i i e
    rw [e]
    split at g
    · rename_i c ec
      rw [ec]
      exact g
    · exact g.elim
  · exact g.elim
def un4 (k0 k1 k2 k3 : K) {α : Type} (f : k0.T → k1.T → k2.T → k3.T → α) (d : α) (xs : Cont) : α :=
  match xs with
  | [d0, d1, d2, d3] => match K.same d0.k k0, K.same d1.k k1, K.same d2.k k2, K.same d3.k k3 with
    | some ⟨h0⟩, some ⟨h1⟩, some ⟨h2⟩, some ⟨h3⟩ => f (h0 ▸ d0.x) (h1 ▸ d1.x) (h2 ▸ d2.x) (h3 ▸ d3.x)
    | _, _, _, _ => d
  | _ => d
def unP4 (k0 k1 k2 k3 : K) (f : k0.T → k1.T → k2.T → k3.T → Prop) (xs : Cont) : Prop :=
  match xs with
  | [d0, d1, d2, d3] => match K.same d0.k k0, K.same d1.k k1, K.same d2.k k2, K.same d3.k k3 with
    | some ⟨h0⟩, some ⟨h1⟩, some ⟨h2⟩, some ⟨h3⟩ => f (h0 ▸ d0.x) (h1 ▸ d1.x) (h2 ▸ d2.x) (h3 ▸ d3.x)
    | _, _, _, _ => False
  | _ => False
theorem unP4_some {k0 k1 k2 k3 : K} {f : k0.T → k1.T → k2.T → k3.T → Prop} {xs : Cont} (h : unP4 k0 k1 k2 k3 f xs) : ∃ x0 x1 x2 x3, xs = [⟨k0, x0⟩, ⟨k1, x1⟩, ⟨k2, x2⟩, ⟨k3, x3⟩] ∧ f x0 x1 x2 x3 := by
  unfold unP4 at h
  split at h
  · rename_i d0 d1 d2 d3
    obtain ⟨q0, y0⟩ := d0
    obtain ⟨q1, y1⟩ := d1
    obtain ⟨q2, y2⟩ := d2
    obtain ⟨q3, y3⟩ := d3
    split at h
    · rename_i h0 h1 h2 h3 _ _ _ _
      cases h0; cases h1; cases h2; cases h3
      exact ⟨y0, y1, y2, y3, rfl, h⟩
    · exact h.elim
  · exact h.elim
def sp4 (ps : List Pat) (k0 k1 k2 k3 : K) (pre : k0.T → k1.T → k2.T → k3.T → Prop) (alt : k0.T → k1.T → k2.T → k3.T → Alt) : FSpec := ⟨ps, unP4 k0 k1 k2 k3 pre, un4 k0 k1 k2 k3 alt ⟨[], .nil, []⟩⟩
def FGoal4 (E : Env) (fn : Func) (S : FSpec) (k0 k1 k2 k3 : K) (x0 : k0.T)  (x1 : k1.T)  (x2 : k2.T)  (x3 : k3.T) : Prop :=
  match inis S.ps [⟨k0, x0⟩, ⟨k1, x1⟩, ⟨k2, x2⟩, ⟨k3, x3⟩] ⟨[], 0, 0, [], []⟩ with
  | some i => match fn.body with
    | some c => run E c (St.init i) (finQ E fn S [⟨k0, x0⟩, ⟨k1, x1⟩, ⟨k2, x2⟩, ⟨k3, x3⟩])
    | none => False
  | none => False
theorem FOk.of4 {E : Env} {fn : Func} {ps : List Pat} {k0 k1 k2 k3 : K} {pre : k0.T → k1.T → k2.T → k3.T → Prop} {alt : k0.T → k1.T → k2.T → k3.T → Alt} (h : ∀ x0 x1 x2 x3, pre x0 x1 x2 x3 → FGoal4 E fn (sp4 ps k0 k1 k2 k3 pre alt) k0 k1 k2 k3 x0 x1 x2 x3) :
    FOk E fn (sp4 ps k0 k1 k2 k3 pre alt) := by
  intro xs hp
  obtain ⟨x0, x1, x2, x3, rfl, hq⟩ := unP4_some (f := pre) (xs := xs) hp
  have g := h x0 x1 x2 x3 hq
  unfold FGoal4 at g
  split at g
  · rename_i i e
    rw [e]
    split at g
    · rename_i c ec
      rw [ec]
      exact g
    · exact g.elim
  · exact g.elim
def un5 (k0 k1 k2 k3 k4 : K) {α : Type} (f : k0.T → k1.T → k2.T → k3.T → k4.T → α) (d : α) (xs : Cont) : α :=
  match xs with
  | [d0, d1, d2, d3, d4] => match K.same d0.k k0, K.same d1.k k1, K.same d2.k k2, K.same d3.k k3, K.same d4.k k4 with
    | some ⟨h0⟩, some ⟨h1⟩, some ⟨h2⟩, some ⟨h3⟩, some ⟨h4⟩ => f (h0 ▸ d0.x) (h1 ▸ d1.x) (h2 ▸ d2.x) (h3 ▸ d3.x) (h4 ▸ d4.x)
    | _, _, _, _, _ => d
  | _ => d
def unP5 (k0 k1 k2 k3 k4 : K) (f : k0.T → k1.T → k2.T → k3.T → k4.T → Prop) (xs : Cont) : Prop :=
  match xs with
  | [d0, d1, d2, d3, d4] => match K.same d0.k k0, K.same d1.k k1, K.same d2.k k2, K.same d3.k k3, K.same d4.k k4 with
    | some ⟨h0⟩, some ⟨h1⟩, some ⟨h2⟩, some ⟨h3⟩, some ⟨h4⟩ => f (h0 ▸ d0.x) (h1 ▸ d1.x) (h2 ▸ d2.x) (h3 ▸ d3.x) (h4 ▸ d4.x)
    | _, _, _, _, _ => False
  | _ => False
theorem unP5_some {k0 k1 k2 k3 k4 : K} {f : k0.T → k1.T → k2.T → k3.T → k4.T → Prop} {xs : Cont} (h : unP5 k0 k1 k2 k3 k4 f xs) : ∃ x0 x1 x2 x3 x4, xs = [⟨k0, x0⟩, ⟨k1, x1⟩, ⟨k2, x2⟩, ⟨k3, x3⟩, ⟨k4, x4⟩] ∧ f x0 x1 x2 x3 x4 := by
  unfold unP5 at h
  split at h
  · rename_i d0 d1 d2 d3 d4
    obtain ⟨q0, y0⟩ := d0
    obtain ⟨q1, y1⟩ := d1
    obtain ⟨q2, y2⟩ := d2
    obtain ⟨q3, y3⟩ := d3
    obtain ⟨q4, y4⟩ := d4
    split at h
    · rename_i h0 h1 h2 h3 h4 _ _ _ _ _
      cases h0; cases h1; cases h2; cases h3; cases h4
      exact ⟨y0, y1, y2, y3, y4, rfl, h⟩
    · exact h.elim
  · exact h.elim
def sp5 (ps : List Pat) (k0 k1 k2 k3 k4 : K) (pre : k0.T → k1.T → k2.T → k3.T → k4.T → Prop) (alt : k0.T → k1.T → k2.T → k3.T → k4.T → Alt) : FSpec := ⟨ps, unP5 k0 k1 k2 k3 k4 pre, un5 k0 k1 k2 k3 k4 alt ⟨[], .nil, []⟩⟩
def FGoal5 (E : Env) (fn : Func) (S : FSpec) (k0 k1 k2 k3 k4 : K) (x0 : k0.T)  (x1 : k1.T)  (x2 : k2.T)  (x3 : k3.T)  (x4 : k4.T) : Prop :=
  match inis S.ps [⟨k0, x0⟩, ⟨k1, x1⟩, ⟨k2, x2⟩, ⟨k3, x3⟩, ⟨k4, x4⟩] ⟨[], 0, 0, [], []⟩ with
  | some i => match fn.body with
    | some c => run E c (St.init i) (finQ E fn S [⟨k0, x0⟩, ⟨k1, x1⟩, ⟨k2, x2⟩, ⟨k3, x3⟩, ⟨k4, x4⟩])
    | none => False
  | none => False
theorem FOk.of5 {E : Env} {fn : Func} {ps : List Pat} {k0 k1 k2 k3 k4 : K} {pre : k0.T → k1.T → k2.T → k3.T → k4.T → Prop} {alt : k0.T → k1.T → k2.T → k3.T → k4.T → Alt} (h : ∀ x0 x1 x2 x3 x4, pre x0 x1 x2 x3 x4 → FGoal5 E fn (sp5 ps k0 k1 k2 k3 k4 pre alt) k0 k1 k2 k3 k4 x0 x1 x2 x3 x4) :
    FOk E fn (sp5 ps k0 k1 k2 k3 k4 pre alt) := by
  intro xs hp
  obtain ⟨x0, x1, x2, x3, x4, rfl, hq⟩ := unP5_some (f := pre) (xs := xs) hp
  have g := h x0 x1 x2 x3 x4 hq
  unfold FGoal5 at g
  split at g
  · rename_i i e
    rw [e]
    split at g
    · rename_i c ec
      rw [ec]
      exact g
    · exact g.elim
  · exact g.elim
end Go.Am
namespace Go.Am
def scB : Value → Value → Bool
  | .int a m, .int b n => andB (eqIK a b) (decide (m = n))
  | .bool a, .bool b => iff' a b (notB b)
  | .slice none 0 0, .slice none 0 0 => true
  | _, _ => false
def scsB : List Value → List Value → Bool
  | [], [] => true
  | a :: l, b :: m => andB (scB a b) (scsB l m)
  | _, _ => false
def zB (z : Option Value) (v : Value) : Bool :=
  match z with
  | some (.agg a) => match v with | .agg b => scsB a.toList b.toList | _ => false
  | some x => scB x v
  | none => false
theorem scB_eq : ∀ {a b : Value}, scB a b = true → a = b := by
  intro a b h
  unfold scB at h
  split at h
  · obtain ⟨h1, h2⟩ := andB_true.1 h
    rw [eqIK_eq h1, of_decide_eq_true h2]
  · rename_i a b; cases a <;> cases b <;> first | rfl | (simp [iff', notB] at h)
  · rfl
  · cases h
theorem scsB_eq : ∀ {a b : List Value}, scsB a b = true → a = b
  | [], [], _ => rfl
  | a :: l, b :: m, h => by
    obtain ⟨h1, h2⟩ := andB_true.1 h
    rw [scB_eq h1, scsB_eq h2]
  | [], _ :: _, h => by cases h
  | _ :: _, [], h => by cases h
theorem zB_eq {z : Option Value} {v : Value} (h : zB z v = true) : z = some v := by
  unfold zB at h
  split at h
  · split at h
    · rename_i a _ b
      rw [Array.toList_inj.1 (scsB_eq h)]
    · cases h
  · rw [scB_eq h]
  · cases h
def infoB (P : Program) (t : TypeId) (f : TypeInfo → Bool) : Bool := match P.info? t with | some i => f i | none => false
theorem infoB_some {P : Program} {t : TypeId} {f : TypeInfo → Bool} (h : infoB P t f = true) : ∃ i, P.info? t = some i ∧ f i = true := by
  unfold infoB at h
  split at h
  · rename_i i e; exact ⟨i, e, h⟩
  · cases h
def undB (P : Program) (t : TypeId) (f : TypeDesc → Bool) : Bool := match P.underlying t with | some i => f i | none => false
theorem undB_some {P : Program} {t : TypeId} {f : TypeDesc → Bool} (h : undB P t f = true) : ∃ i, P.underlying t = some i ∧ f i = true := by
  unfold undB at h
  split at h
  · rename_i i e; exact ⟨i, e, h⟩
  · cases h
def kB (a b : K) : Bool := match K.same a b with | some _ => true | none => false
theorem kB_eq {a b : K} (h : kB a b = true) : a = b := by
  unfold kB at h
  split at h
  · rename_i e _; exact e.down
  · cases h
def isI (ik : IntKind) : TypeDesc → Bool | .int jk => eqIK ik jk | _ => false
def isBo : TypeDesc → Bool | .bool => true | _ => false
def isSl (e : TypeId) : TypeDesc → Bool | .slice e' => Nat.beq e e' | _ => false
def isNA : TypeDesc → Bool | .struct _ => false | .array _ _ => false | _ => true
def K.okpB : K → Pth → Bool
  | _, [] => true
  | .pair a _, .f :: p => a.okpB p
  | .pair _ b, .sn :: p => b.okpB p
  | _, _ => false
theorem okpB_ok : ∀ {k : K} {p : Pth}, k.okpB p = true → k.okp p
  | _, [], _ => by simp [K.okp]
  | .pair a _, .f :: p, h => okpB_ok (k := a) (p := p) h
  | .pair _ b, .sn :: p, h => okpB_ok (k := b) (p := p) h
  | .pair _ _, .i _ :: _, h => by simp [K.okpB] at h
  | .int _, _ :: _, h => by simp [K.okpB] at h
  | .bool, _ :: _, h => by simp [K.okpB] at h
  | .sl _, _ :: _, h => by simp [K.okpB] at h
def szB (E : Env) (t : TypeId) (n : Nat) (z : Value) (i : TypeInfo) : Bool := andB (Nat.beq i.size n) (andB (Nat.beq i.bytes (E.bytes t)) (zB i.zero z))
def fldB (P : Program) (E : Env) (k : K) (fs : List TypeId) (j : Nat) (f : Field) : Bool :=
  andB (match nth fs j with | some t => Nat.beq t f.type | none => false) <| andB (Nat.beq f.offset (k.off (fld (lenL fs) j))) <| andB (k.okpB (fld (lenL fs) j)) <|
  andB (kB (k.at (fld (lenL fs) j)) (kind E.tab f.type)) <| andB (decide (f.name ≠ "_")) <| andB (infoB P f.type fun i => Nat.beq i.size (kind E.tab f.type).sz) (undB P f.type fun _ => true)
def fldsB (P : Program) (E : Env) (k : K) (fs : List TypeId) : Nat → List Field → Bool
  | _, [] => true
  | j, f :: l => andB (fldB P E k fs j f) (fldsB P E k fs (j + 1) l)
def strB (P : Program) (E : Env) (t : TypeId) (fs : List TypeId) : TypeDesc → Bool
  | .struct flds => andB (Nat.beq flds.size (lenL fs)) (fldsB P E (kind E.tab t) fs 0 flds.toList)
  | _ => false
def tyB (P : Program) (E : Env) (t : TypeId) : Bool :=
  match E.tab t with
  | .other => true
  | .int ik => andB (undB P t (isI ik)) (andB (kB (kind E.tab t) (.int ik)) (infoB P t (szB E t 1 (zval (.int ik)))))
  | .bool => andB (undB P t isBo) (andB (kB (kind E.tab t) .bool) (infoB P t (szB E t 1 (zval .bool))))
  | .slice e => andB (undB P t (isSl e)) (andB (kB (kind E.tab t) (.sl (kind E.tab e))) (andB (infoB P t (szB E t 1 (.slice none 0 0)))
      (andB (infoB P e fun i => andB (szB E e (kind E.tab e).sz (zval (kind E.tab e)) i) (Nat.blt 0 i.bytes)) (undB P e fun _ => true))))
  | .ptr => andB (undB P t isNA) (andB (notB (kind E.tab t).isPair) (infoB P t fun i => Nat.beq i.size 1))
  | .struct fs => andB (andB (notB (P.stoodInHeld t)) (notB (P.eqGuardType P.depth t))) (andB (kind E.tab t).isPair (andB (infoB P t (szB E t (kind E.tab t).sz (zval (kind E.tab t)))) (undB P t (strB P E t fs))))
theorem szB_ok {E : Env} {t : TypeId} {n : Nat} {z : Value} {i : TypeInfo} (h : szB E t n z i = true) : i.size = n ∧ i.bytes = E.bytes t ∧ i.zero = some z := by
  obtain ⟨h1, h⟩ := andB_true.1 h
  obtain ⟨h2, h3⟩ := andB_true.1 h
  exact ⟨Nat.eq_of_beq_eq_true h1, Nat.eq_of_beq_eq_true h2, zB_eq h3⟩
theorem isI_eq {ik : IntKind} {d : TypeDesc} (h : isI ik d = true) : d = .int ik := by
  unfold isI at h; split at h
  · rw [eqIK_eq h]
  · cases h
theorem isBo_eq {d : TypeDesc} (h : isBo d = true) : d = .bool := by
  unfold isBo at h; split at h
  · rfl
  · cases h
theorem isSl_eq {e : TypeId} {d : TypeDesc} (h : isSl e d = true) : d = .slice e := by
  unfold isSl at h; split at h
  · rw [Nat.eq_of_beq_eq_true h]
  · cases h
theorem isNA_ok {d : TypeDesc} (h : isNA d = true) : notAgg d := by
  cases d <;> first | trivial | cases h
theorem fldB_ok {P : Program} {E : Env} {k : K} {fs : List TypeId} {j : Nat} {f : Field} (h : fldB P E k fs j f = true) :
    nth fs j = some f.type ∧ f.offset = k.off (fld (lenL fs) j) ∧ k.okp (fld (lenL fs) j) ∧ k.at (fld (lenL fs) j) = kind E.tab f.type ∧
        f.name ≠ "_" ∧ (∃ i, P.info? f.type = some i ∧ i.size = (kind E.tab f.type).sz) ∧ ∃ d, P.underlying f.type = some d := by
  obtain ⟨h1, h⟩ := andB_true.1 h
  obtain ⟨h2, h⟩ := andB_true.1 h
  obtain ⟨h3, h⟩ := andB_true.1 h
  obtain ⟨h4, h⟩ := andB_true.1 h
  obtain ⟨h5, h⟩ := andB_true.1 h
  obtain ⟨h6, h7⟩ := andB_true.1 h
  refine ⟨?_, Nat.eq_of_beq_eq_true h2, okpB_ok h3, kB_eq h4, of_decide_eq_true h5, ?_, ?_⟩
  · split at h1
    · rename_i t e; rw [e, Nat.eq_of_beq_eq_true h1]
    · cases h1
  · obtain ⟨i, e, h⟩ := infoB_some h6; exact ⟨i, e, Nat.eq_of_beq_eq_true h⟩
  · obtain ⟨i, e, h⟩ := undB_some h7; exact ⟨i, e⟩
theorem fldsB_ok {P : Program} {E : Env} {k : K} {fs : List TypeId} : ∀ {l : List Field} {n : Nat}, fldsB P E k fs n l = true → ∀ j f, l[j]? = some f → fldB P E k fs (n + j) f = true
  | [], _, _, j, f, h => by simp at h
  | a :: l, n, h, 0, f, e => by
    obtain ⟨h1, h2⟩ := andB_true.1 h
    simp at e; subst e; exact h1
  | a :: l, n, h, j + 1, f, e => by
    obtain ⟨h1, h2⟩ := andB_true.1 h
    have := fldsB_ok (l := l) (n := n + 1) h2 j f (by simpa using e)
    rw [show n + (j + 1) = n + 1 + j from by omega]; exact this
theorem tyB_ok {P : Program} {E : Env} {t : TypeId} (h : tyB P E t = true) : TyOk P E t := by
  unfold tyB at h
  unfold TyOk
  split at h
  · rename_i e; rw [e]; trivial
  · rename_i ik e; rw [e]
    obtain ⟨h1, h⟩ := andB_true.1 h
    obtain ⟨h2, h3⟩ := andB_true.1 h
    obtain ⟨d, e1, h1⟩ := undB_some h1
    obtain ⟨i, e3, h3⟩ := infoB_some h3
    exact ⟨by rw [e1, isI_eq h1], kB_eq h2, i, e3, szB_ok h3⟩
  · rename_i e; rw [e]
    obtain ⟨h1, h⟩ := andB_true.1 h
    obtain ⟨h2, h3⟩ := andB_true.1 h
    obtain ⟨d, e1, h1⟩ := undB_some h1
    obtain ⟨i, e3, h3⟩ := infoB_some h3
    exact ⟨by rw [e1, isBo_eq h1], kB_eq h2, i, e3, szB_ok h3⟩
  · rename_i el e; rw [e]
    obtain ⟨h1, h⟩ := andB_true.1 h
    obtain ⟨h2, h⟩ := andB_true.1 h
    obtain ⟨h3, h⟩ := andB_true.1 h
    obtain ⟨h4, h5⟩ := andB_true.1 h
    obtain ⟨d, e1, h1⟩ := undB_some h1
    obtain ⟨i, e3, h3⟩ := infoB_some h3
    obtain ⟨i', e4, h4⟩ := infoB_some h4
    obtain ⟨d', e5, h5⟩ := undB_some h5
    obtain ⟨h4, h6⟩ := andB_true.1 h4
    have h4 := szB_ok h4
    exact ⟨by rw [e1, isSl_eq h1], kB_eq h2, ⟨i, e3, szB_ok h3⟩, i', e4, h4.1, h4.2.1, (by rw [← Nat.blt_eq]; exact h6), h4.2.2, d', e5⟩
  · rename_i e; rw [e]
    obtain ⟨h1, h⟩ := andB_true.1 h
    obtain ⟨h2, h3⟩ := andB_true.1 h
    obtain ⟨d, e1, h1⟩ := undB_some h1
    obtain ⟨i, e3, h3⟩ := infoB_some h3
    exact ⟨⟨d, e1, isNA_ok h1⟩, notB_true.1 h2, i, e3, Nat.eq_of_beq_eq_true h3⟩
  · rename_i fs e; rw [e]
    obtain ⟨h1, h⟩ := andB_true.1 h
    obtain ⟨h2, h⟩ := andB_true.1 h
    obtain ⟨h3, h4⟩ := andB_true.1 h
    obtain ⟨h1, h1'⟩ := andB_true.1 h1
    obtain ⟨i, e3, h3⟩ := infoB_some h3
    obtain ⟨d, e4, h4⟩ := undB_some h4
    refine ⟨⟨notB_true.1 h1, notB_true.1 h1'⟩, ?_⟩
    unfold strB at h4
    split at h4
    · rename_i flds
      obtain ⟨h4, h5⟩ := andB_true.1 h4
      refine ⟨flds, e4, h2, Nat.eq_of_beq_eq_true h4, ⟨i, e3, szB_ok h3⟩, fun j f ej => ?_⟩
      have := fldsB_ok h5 j f (by simpa using ej)
      rw [Nat.zero_add] at this
      exact fldB_ok this
    · cases h4
def tabB (P : Program) (tabL : List (Nat × Ty)) (bytesL : List (Nat × Nat)) : Bool := allL (fun p => tyB P ⟨look .other tabL, look 0 bytesL, fun _ => []⟩ p.1) tabL
theorem tabB_ok {P : Program} {tabL : List (Nat × Ty)} {bytesL : List (Nat × Nat)} (sig : FuncId → List FSpec) (h : tabB P tabL bytesL = true) : TabOk P ⟨look .other tabL, look 0 bytesL, sig⟩ := by
  intro t
  have h2 : TyOk P ⟨look .other tabL, look 0 bytesL, fun _ => []⟩ t := by
    rcases look_mem Ty.other (l := tabL) (i := t) with e | e
    · unfold TyOk
      simp only [e]
    · exact tyB_ok (allL_mem h _ e)
  exact h2
end Go.Am
namespace Go.Am
inductive Ann : Type 1
  | none
  | mk (α : Type) (f : α → St) (m : α → Nat) (I : α → Prop) (inner : α → Nat → Ann)
  | peel (B : Nat) (first : Nat → Ann) (α : Type) (f : α → St) (m : α → Nat) (I : α → Prop) (inner : α → Nat → Ann)
def loopsIn : Code → Nat
  | .seq a b => Nat.add (loopsIn a) (loopsIn b)
  | .cond _ a b => Nat.add (loopsIn a) (loopsIn b)
  | .block _ c => loopsIn c
  | .loop _ => 1
  | _ => 0
def loopA (run : (Nat → Ann) → St → (Ex → St → Prop) → Prop) (an : Ann) (st : St) (Q : Ex → St → Prop) : Prop :=
  match an with
  | .none => False
  | .mk _ f m I inner => (∃ a, I a ∧ Weak st (f a)) ∧
    ∀ a, I a → run (inner a) (f a) fun e st' => match e with
      | .normal => ∃ a', (I a' ∧ m a' < m a) ∧ Weak st' (f a')
      | .exit i => Q (.exit i) st'
      | .ret => Q .ret st'
  | .peel B first _ f m I inner => (run first st fun e st' => match e with
      | .normal => ∃ a', (I a' ∧ m a' < B) ∧ Weak st' (f a')
      | .exit i => Q (.exit i) st'
      | .ret => Q .ret st') ∧
    ∀ a, I a → run (inner a) (f a) fun e st' => match e with
      | .normal => ∃ a', (I a' ∧ m a' < m a) ∧ Weak st' (f a')
      | .exit i => Q (.exit i) st'
      | .ret => Q .ret st'
/-- Two ways; a truth value that is known takes its own. -/
def ifb (x : Bool) (A B : Prop) : Prop := match x with | true => A | false => B
theorem ifb_iff {x : Bool} {A B : Prop} : ifb x A B ↔ (x = true → A) ∧ (x = false → B) := by cases x <;> simp [ifb]
def runN (E : Env) : Code → (Nat → Ann) → Nat → St → (Ex → St → Prop) → Prop
  | .skip, _, _, st, Q => Q .normal st
  | .label _, _, _, st, Q => Q .normal st
  | .region _ ops draw, _, _, st, Q => iff' draw (iff' (drawOk E ops.toList st) (opsRun E ops.toList ops.toList st (Q .normal)) False) (opsRun E ops.toList ops.toList st (Q .normal))
  | .seq a b, an, n, st, Q => runN E a an n st (thenR Q fun st => runN E b an (Nat.add n (loopsIn a)) st Q)
  | .cond c a b, an, n, st, Q => match c with
    | .tmp t => match st.s t with
      | .bool x => ifb x (runN E a an n (st.ws t (.bool true)) Q) (runN E b an (Nat.add n (loopsIn a)) (st.ws t (.bool false)) Q)
      | .gd q (.bool x) => q = true ∧ ifb x (runN E a an n (st.ws t (.bool true)) Q) (runN E b an (Nat.add n (loopsIn a)) (st.ws t (.bool false)) Q)
      | _ => False
    | .const (.bool x) => match x with
      | true => runN E a an n st Q
      | false => runN E b an (Nat.add n (loopsIn a)) st Q
    | _ => False
  | .block id c, an, n, st, Q => runN E c an n st (blockR id Q)
  | .loop c, an, n, st, Q => loopA (fun an' => runN E c an' 0) (an n) st Q
  | .exit id, _, _, st, Q => Q (.exit id) st
  | .ret, _, _, st, Q => Q .ret st
  | _, _, _, _, _ => False
theorem prog_mono : ∀ {p : Prog} {st : St} {Q Q' : St → Prop}, (∀ st, Q st → Q' st) → p.run st Q → p.run st Q'
  | .fail, _, _, _, _, h => h.elim
  | .ret, _, _, _, hq, h => hq _ h
  | .rdS _ k, _, _, _, hq, h => prog_mono (p := k _) hq h
  | .rdR _ k, _, _, _, hq, h => prog_mono (p := k _) hq h
  | .rdB _ k, _, _, _, hq, h => prog_mono (p := k _) hq h
  | .wrS _ _ k, _, _, _, hq, h => prog_mono (p := k) hq h
  | .wrR _ _ k, _, _, _, hq, h => prog_mono (p := k) hq h
  | .wrB _ _ k, _, _, _, hq, h => prog_mono (p := k) hq h
  | .vc _ k, _, _, _, hq, h => ⟨h.1, prog_mono (p := k) hq h.2⟩
  | .alt _ a b, _, _, _, hq, h => ⟨fun c => prog_mono (p := a) hq (h.1 c), prog_mono (p := b) hq h.2⟩
  | .tt, _, _, _, _, h => h
theorem run_mono {E : Env} : ∀ (c : Code) (an : Nat → Ann) (n : Nat) (st : St) {Q Q' : Ex → St → Prop}, (∀ e st, Q e st → Q' e st) → runN E c an n st Q → run E c st Q'
  | .skip, _, _, st, _, _, hq, h => hq _ _ h
  | .label _, _, _, st, _, _, hq, h => hq _ _ h
  | .region _ ops draw, _, _, st, Q, Q', hq, h => by
    have key : ∀ (os : List Oper) (l : List Oper) (st : St), opsRun E os l st (Q .normal) → opsRun E os l st (Q' .normal) := by
      intro os l
      induction l with
      | nil => exact fun st h => hq _ _ h
      | cons o l ih => exact fun st h => prog_mono (fun st h => ih st h) h
    cases draw with
    | false => exact key _ _ _ h
    | true =>
      have h : iff' (drawOk E ops.toList st) (opsRun E ops.toList ops.toList st (Q .normal)) False := h
      show iff' (drawOk E ops.toList st) (opsRun E ops.toList ops.toList st (Q' .normal)) False
      cases hd : drawOk E ops.toList st with
      | true => rw [hd] at h; exact key _ _ _ h
      | false => rw [hd] at h; exact h.elim
  | .seq a b, an, n, st, Q, Q', hq, h => by
    refine run_mono a an n st ?_ h
    intro e st h
    cases e with
    | normal => exact run_mono b an _ st hq h
    | exit i => exact hq _ _ h
    | ret => exact hq _ _ h
  | .cond c a b, an, n, st, Q, Q', hq, h => by
    unfold runN at h
    unfold run
    split at h
    · split at h <;> rename_i e0 <;> simp only [e0]
      · have h := ifb_iff.1 h
        exact ⟨fun e => run_mono a an n _ hq (h.1 e), fun e => run_mono b an _ _ hq (h.2 e)⟩
      · have h' := ifb_iff.1 h.2
        exact ⟨h.1, fun e => run_mono a an n _ hq (h'.1 e), fun e => run_mono b an _ _ hq (h'.2 e)⟩
      · exact h.elim
    · split at h
      · exact run_mono a an n st hq h
      · exact run_mono b an _ st hq h
    · exact h.elim
  | .block id c, an, n, st, Q, Q', hq, h => by
    refine run_mono c an n st ?_ h
    intro e st h
    cases e with
    | normal => exact hq _ _ h
    | ret => exact hq _ _ h
    | exit i =>
      show iff' (Nat.beq i id) (Q' .normal st) (Q' (.exit i) st)
      have h : iff' (Nat.beq i id) (Q .normal st) (Q (.exit i) st) := h
      cases hb : Nat.beq i id with
      | true => rw [hb] at h; exact hq _ _ h
      | false => rw [hb] at h; exact hq _ _ h
  | .loop c, an, n, st, Q, Q', hq, h => by
    have h : loopA (fun an' => runN E c an' 0) (an n) st Q := h
    unfold loopA at h
    split at h
    · exact h.elim
    · rename_i α f m I inner e
      refine ⟨α, f, m, I, .inl h.1, fun a ha => run_mono c (inner a) 0 (f a) ?_ (h.2 a ha)⟩
      intro e st h
      cases e with
      | normal => exact h
      | exit i => exact hq _ _ h
      | ret => exact hq _ _ h
    · rename_i B first α f m I inner e
      refine ⟨α, f, m, I, .inr ⟨B, run_mono c first 0 st ?_ h.1⟩, fun a ha => run_mono c (inner a) 0 (f a) ?_ (h.2 a ha)⟩
      · intro e st h
        cases e with
        | normal => exact h
        | exit i => exact hq _ _ h
        | ret => exact hq _ _ h
      · intro e st h
        cases e with
        | normal => exact h
        | exit i => exact hq _ _ h
        | ret => exact hq _ _ h
  | .exit id, _, _, st, _, _, hq, h => hq _ _ h
  | .ret, _, _, st, _, _, hq, h => hq _ _ h
  | .scope _, _, _, _, _, _, _, h => h.elim
  | .goto _, _, _, _, _, _, _, h => h.elim
def FG (E : Env) (fn : Func) (S : FSpec) (xs : Cont) : Prop :=
  match inis S.ps xs ⟨[], 0, 0, [], []⟩ with
  | some i => match fn.body with
    | some c => run E c (St.init i) (finQ E fn S xs)
    | none => False
  | none => False
def FGA (E : Env) (fn : Func) (S : FSpec) (xs : Cont) (an : Nat → Ann) : Prop :=
  match inis S.ps xs ⟨[], 0, 0, [], []⟩ with
  | some i => match fn.body with
    | some c => runN E c an 0 (St.init i) (finQ E fn S xs)
    | none => False
  | none => False
theorem FGA.fg {E : Env} {fn : Func} {S : FSpec} {xs : Cont} {an : Nat → Ann} (h : FGA E fn S xs an) : FG E fn S xs := by
  unfold FGA at h
  unfold FG
  split at h
  · rename_i i e
    split at h
    · rename_i c ec
      exact run_mono c an 0 _ (fun _ _ h => h) h
    · exact h.elim
  · exact h.elim
end Go.Am
namespace Go.Am
def Wf : (k : K) → k.T → Prop
  | .int ik, n => (Lit.int ik n).wf = true
  | .bool, _ => True
  | .pair a b, x => Wf a x.1 ∧ Wf b x.2
  | .sl k, xs => List.length xs ≤ maxLen ∧ ∀ i, i < List.length xs → Wf k (List.getD xs i k.d)
def depB (tab : TypeId → Ty) : Nat → TypeId → Bool
  | 0, _ => false
  | n + 1, t => match tab t with
    | .int _ => true
    | .bool => true
    | .slice e => depB tab n e
    | .struct fs => andB (Nat.blt 0 (lenL fs)) (allL (depB tab n) fs)
    | _ => false
theorem mapM_get {α β : Type} {f : α → Option β} : ∀ {l : List α} {cs : List β}, l.mapM f = some cs → cs.length = l.length ∧ ∀ (j : Nat) (a : α), l[j]? = some a → ∃ c, f a = some c ∧ cs[j]? = some c
  | [], cs, h => by
    simp at h; subst h; simp
  | a :: l, cs, h => by
    simp only [List.mapM_cons, Option.bind_eq_bind, Option.bind_eq_some_iff, Option.pure_def] at h
    obtain ⟨c, h1, ds, h2, h3⟩ := h
    cases h3
    obtain ⟨e, h4⟩ := mapM_get h2
    refine ⟨by simp [e], fun j x hj => ?_⟩
    cases j with
    | zero => simp at hj; subst hj; exact ⟨c, h1, rfl⟩
    | succ j => exact h4 j x (by simpa using hj)
theorem cells_of {w : World} {base n : Nat} {a : Addr} {cs : List Value} (h : w.cells? base a n = some cs) : cs.length = n ∧ (0 < n → a.spot = none ∧ a.block < w.heap.size) ∧ (a.spot = none → Cells w a.block a.off cs) := by
  unfold World.cells? at h
  split at h
  · obtain ⟨e, h⟩ := mapM_get h
    refine ⟨by simpa using e, fun hn => ?_, fun hs j c hj => ?_⟩
    · obtain ⟨c, h1, _⟩ := h 0 0 (by simp [hn])
      have hs : a.spot = none := by simpa [Addr.add] using World.cell?_spot h1
      refine ⟨hs, ?_⟩
      have h1 : w.cell? a = some c := by simpa [Addr.add] using h1
      unfold World.cell? at h1
      rcases Nat.lt_or_ge a.block w.heap.size with g | g
      · exact g
      · rw [Array.getElem?_eq_none g] at h1; simp at h1
    · have hlt : j < n := by
        have := (List.getElem?_eq_some_iff.1 hj).1
        rw [e, List.length_range] at this
        exact this
      obtain ⟨d, h1, h2⟩ := h j j (by simp [hlt])
      rw [hj] at h2; cases h2
      rw [add_spot hs] at h1
      exact h1
  · cases h
theorem fields_rv {U : Nat → Prop} {w : World} : ∀ (n : Nat) (k : K) (cs : List Value), 0 < n → cs.length = k.sz →
    (∀ j, j < n → k.okp (fld n j) ∧ ∃ y, RV U w (k.at (fld n j)) y ((cs.drop (k.off (fld n j))).take (k.at (fld n j)).sz) ∧ Wf (k.at (fld n j)) y) → ∃ y, RV U w k y cs ∧ Wf k y
  | 0, _, _, h, _, _ => absurd h (by omega)
  | 1, k, cs, _, hl, h => by
    obtain ⟨_, y, h1, h2⟩ := h 0 (by omega)
    refine ⟨y, ?_, h2⟩
    have h1 : RV U w k y ((cs.drop (k.off [])).take k.sz) := h1
    have e : k.off [] = 0 := by cases k <;> rfl
    rw [e, List.drop_zero, List.take_of_length_le (by omega)] at h1
    exact h1
  | n + 2, k, cs, _, hl, h => by
    obtain ⟨h0, y0, h1, w1⟩ := h 0 (by omega)
    cases k with
    | int ik => exact h0.elim
    | bool => exact h0.elim
    | sl k => exact h0.elim
    | pair a b =>
      have e : (K.pair a b).off [.f] = 0 := by cases a <;> rfl
      have h1 : RV U w a y0 ((cs.drop ((K.pair a b).off [.f])).take a.sz) := h1
      rw [e, List.drop_zero] at h1
      have hl : cs.length = a.sz + b.sz := hl
      obtain ⟨y1, h2, w2⟩ := fields_rv (n + 1) b (cs.drop a.sz) (by omega) (by rw [List.length_drop]; omega) fun j hj => by
        obtain ⟨g0, y, g1, g2⟩ := h (j + 1) (by omega)
        refine ⟨g0, y, ?_, g2⟩
        have g1 : RV U w (b.at (fld (n + 1) j)) y ((cs.drop (a.sz + b.off (fld (n + 1) j))).take (b.at (fld (n + 1) j)).sz) := g1
        rw [List.drop_drop]; exact g1
      exact ⟨(y0, y1), ⟨cs.take a.sz, cs.drop a.sz, (List.take_append_drop _ _).symm, h1, h2⟩, w1, w2⟩
theorem allL_all {α : Type} {f : α → Bool} {l : List α} (h : allL f l = true) {j : Nat} {x : α} (hj : nth l j = some x) : f x = true := by
  induction l generalizing j with
  | nil => cases hj
  | cons a l ih =>
    obtain ⟨h1, h2⟩ := andB_true.1 h
    cases j with
    | zero => cases hj; exact h1
    | succ j => exact ih h2 hj
section
variable {H : Type} {enc : TypeId × Value → H} {P : Program} {E : Env} {w : World} {base : Nat} {spare : Nat → Bool} {held : Bool}
theorem cellsOf_of {t : TypeId} {i : TypeInfo} (h : P.info? t = some i) : P.cellsOf t = i.size := by
  unfold Program.cellsOf; rw [h]; rfl
theorem trod_rv (T : TabOk P E) : ∀ (n : Nat) (t : TypeId), depB E.tab n t = true → ∀ (fuel : Nat) (cs : List Value) (x : DataW H × List MemPlace), DataW.trod enc P w base spare held fuel t cs = some x →
    ∃ y, RV (fun b => b < w.heap.size) w (kind E.tab t) y cs ∧ Wf (kind E.tab t) y
  | 0, _, h, _, _, _, _ => by cases h
  | n + 1, t, h, fuel, cs, x, hx => by
    have ht := T t
    unfold TyOk at ht
    unfold depB at h
    cases e : E.tab t with
    | other => rw [e] at h; cases h
    | ptr => rw [e] at h; cases h
    | int ik =>
      rw [e] at ht
      obtain ⟨h1, h2, _⟩ := ht
      obtain ⟨m, rfl, _, hw⟩ := DataW.trod_int h1 hx
      rw [h2]
      exact ⟨m, rfl, hw⟩
    | bool =>
      rw [e] at ht
      obtain ⟨h1, h2, _⟩ := ht
      obtain ⟨m, rfl, _⟩ := DataW.trod_bool h1 hx
      rw [h2]
      exact ⟨m, rfl, trivial⟩
    | slice el =>
      rw [e] at ht h
      obtain ⟨h1, h2, _, i, h3, h4, _⟩ := ht
      have hc : P.cellsOf el = (kind E.tab el).sz := by rw [cellsOf_of h3, h4]
      rw [h2]
      rcases Deep.open_slice h1 hx with ⟨rfl, _⟩ | ⟨a, len, cap, m, fl, D, Pl, rfl, _, hl, hm, hmm, _, hel⟩
      · exact ⟨([] : List _), ⟨none, 0, rfl, Nat.le_refl _, fun _ e => (by cases e), fun i hi => absurd hi (Nat.not_lt_zero _)⟩, Nat.zero_le _, fun i hi => absurd hi (Nat.not_lt_zero _)⟩
      · have hlm : len ≤ m := by rw [hmm]; split <;> omega
        have hall : ∀ i, i < len → ∃ y, (∃ ci, w.cells? base (a.add (i * P.cellsOf el)) (P.cellsOf el) = some ci ∧ RV (fun b => b < w.heap.size) w (kind E.tab el) y ci) ∧ Wf (kind E.tab el) y := fun i hi => by
          obtain ⟨ci, c1, c2⟩ := hel i (by omega)
          obtain ⟨y, c3, c4⟩ := trod_rv T n el h _ _ _ c2
          exact ⟨y, ⟨ci, c1, c3⟩, c4⟩
        haveI : Inhabited (kind E.tab el).T := ⟨(kind E.tab el).d⟩
        obtain ⟨f, hf⟩ := Deep.choose_lt hall
        have hlen : ((List.range len).map f).length = len := by simp
        have hget : ∀ i, i < len → List.getD ((List.range len).map f) i (kind E.tab el).d = f i := fun i hi => by simp [List.getD, hi]
        have hspot : 0 < len → a.spot = none ∧ a.block < w.heap.size := fun h0 => by
          obtain ⟨⟨ci, c1, _⟩, _⟩ := hf 0 h0
          have := (cells_of c1).2.1 (by rw [hc]; exact sz_pos _)
          simpa [Addr.add] using this
        refine ⟨((List.range len).map f : List _), ⟨some a, cap, by rw [hlen], by rw [hlen]; exact hl, fun ad e h0 => ?_, fun i hi => ?_⟩, by rw [hlen]; omega, fun i hi => ?_⟩
        · cases e; rw [hlen] at h0; exact (hspot h0).1
        · have hi : i < len := by simpa using hi
          obtain ⟨⟨ci, c1, c2⟩, _⟩ := hf i hi
          have hs := hspot (by omega)
          have h5 := (cells_of c1).2.2 (by rw [add_spot hs.1])
          rw [add_spot hs.1, hc] at h5
          exact ⟨a, ci, rfl, hs.2, h5, by rw [hget i hi]; exact c2⟩
        · have hi : i < len := by simpa using hi
          rw [hget i hi]; exact (hf i hi).2
    | struct fs =>
      rw [e] at ht h
      obtain ⟨_, flds, h1, h2, h3, ⟨i, h4, h5, _⟩, h6⟩ := ht
      obtain ⟨hn, hd⟩ := andB_true.1 h
      obtain ⟨xs, m, _, _, hl, hxl, hf⟩ := DataW.trod_struct h1 hx
      rw [cellsOf_of h4, h5] at hl
      refine fields_rv (lenL fs) _ cs (by rw [Nat.blt_eq] at hn; exact hn) hl fun j hj => ?_
      have hjs : j < flds.size := by omega
      obtain ⟨g1, g2, g3, g4, _, ⟨fi, g5, g6⟩, _⟩ := h6 j flds[j] (by simp [hjs])
      have hxj := hf j flds[j] (by simp [hjs])
      obtain ⟨y, hy⟩ : ∃ y, xs[j]? = some y := ⟨xs[j], by simp [hxl, hjs]⟩
      rw [hy, cellsOf_of g5, g6, g2] at hxj
      obtain ⟨z, z1, z2⟩ := trod_rv T n flds[j].type (allL_all hd g1) _ _ _ hxj
      refine ⟨g3, ?_⟩
      rw [g4]
      exact ⟨z, z1, z2⟩
end
end Go.Am
namespace Go.Am
theorem sameIK_refl : ∀ a : IntKind, sameIK a a = some ⟨rfl⟩
  | .i8 | .i16 | .i32 | .i64 | .u8 | .u16 | .u32 | .u64 => rfl
theorem same_refl : ∀ k : K, K.same k k = some ⟨rfl⟩
  | .int i => by simp [K.same, sameIK_refl]
  | .bool => rfl
  | .pair a b => by simp [K.same, same_refl a, same_refl b]
  | .sl k => by simp [K.same, same_refl k]
def viewPs (xs : Cont) : List Pat := xs.map fun d => .q (.vs d.k)
theorem inis_views : ∀ (xs : Cont) (s : Ini), inis (viewPs xs) xs s = some { s with avs := cat s.avs (xs.map fun d => opnV d.k d.x) }
  | [], s => by
    have : ∀ l : List AV, cat l [] = l := fun l => by induction l with | nil => rfl | cons a l ih => simp [cat, ih]
    simp [viewPs, inis, this]
  | d :: xs, s => by
    have hc : ∀ (l m : List AV) (a : AV), cat (cat l [a]) m = cat l (a :: m) := fun l m a => by induction l with | nil => rfl | cons b l ih => simp [cat, ih]
    have : inis (viewPs (d :: xs)) (d :: xs) s = inis (viewPs xs) xs { s with avs := cat s.avs [opnV d.k d.x] } := by
      simp [viewPs, inis, ini, iniq, same_refl]
    rw [this, inis_views xs]
    simp [hc]
/-- What a value in a world reads as. -/
def RVal (w : World) (d : Dyn) (v : Value) : Prop := ∃ cs, RV (fun b => b < w.heap.size) w d.k d.x cs ∧ v = if d.k.isPair = true then .agg cs.toArray else cs.getD 0 undef
theorem opnV_isPr : ∀ (k : K) (x : k.T), (opnV k x).isPr = k.isPair
  | .int _, _ => rfl
  | .bool, _ => rfl
  | .pair _ _, _ => rfl
  | .sl _, _ => rfl
theorem RVal.rep {st : St} {g : Gh} {w : World} {d : Dyn} {v : Value} (h : RVal w d v) (hg : ∀ b, b < w.heap.size → g.U w b) : RepV st g w (opnV d.k d.x) v := by
  obtain ⟨cs, h1, h2⟩ := h
  obtain ⟨h3, _, h4⟩ := opnV_rep (st := st) (g := g) (h1.mono fun b hb => ⟨hg b hb, rfl⟩)
  have := repV_cells h3 h4
  rw [opnV_isPr, ← h2] at this
  exact this
theorem All2.len {α β : Type} {f : α → β → Prop} : ∀ {l : List α} {m : List β}, All2 f l m → l.length = m.length
  | [], [], _ => rfl
  | _ :: _, _ :: _, h => by simp [All2.len h.2]
  | [], _ :: _, h => h.elim
  | _ :: _, [], h => h.elim
theorem All2.get {α β : Type} {f : α → β → Prop} : ∀ {l : List α} {m : List β}, All2 f l m → ∀ (t : Nat) (a : α), l[t]? = some a → ∃ b, m[t]? = some b ∧ f a b
  | a :: l, b :: m, h, 0, x, e => by simp at e; subst e; exact ⟨b, rfl, h.1⟩
  | a :: l, b :: m, h, t + 1, x, e => by
    obtain ⟨c, h1, h2⟩ := All2.get h.2 t x (by simpa using e)
    exact ⟨c, by simpa using h1, h2⟩
  | [], _, _, _, _, e => by simp at e
  | _ :: _, [], h, _, _, _ => h.elim
theorem Ctr.views {P : Program} {f : FuncId} {S : FSpec} (h : Ctr P f S) (xs : Cont) (hps : S.ps = viewPs xs) (hp : S.pre xs) {w : World} {vs : List Value} (hv : All2 (RVal w) xs vs) :
    Calls P f vs.toArray w fun e w' => ∃ v st' g' rv, e = .returned v ∧ RowKit.Below w.heap.size w w' ∧ RepV st' g' w' rv v ∧
      (res (S.alt xs).rp rv (S.alt xs).res fun ys => match ys with | [] => fins S.ps (S.alt xs).upd 0 0 .ret | _ => .fail).run st' fun _ => True := by
  obtain ⟨_, n, hn, h⟩ := h
  obtain ⟨i, hi, h⟩ := h xs hp
  rw [hps, inis_views] at hi
  cases hi
  have hlen : vs.length = xs.length := hv.len.symm
  have hpl : S.ps.length = xs.length := by rw [hps]; simp [viewPs]
  let S0 : Start := ⟨w, fun _ => none, n, fun _ => .none, fun _ k => k.dl, fun _ => (0, 0)⟩
  let g0 : Gh := ⟨fun _ => none, fun _ k => k.dl, fun _ => (0, 0)⟩
  refine (h S0 g0 w vs (by rw [hlen, hpl]) rfl ?_).mono fun e w' he => ?_
  · refine ⟨by show (vs.toArray ++ Array.replicate (n - vs.length) undef).size = n; simp; omega, rfl, fun t => ?_, fun r rc hrc => ?_, fun b v hb => ?_, fun b x hb => ?_, rfl, rfl, rfl, Nat.le_refl _, fun b _ _ => ⟨rfl, rfl⟩, fun b x hb => ?_, fun b hb => ?_, fun r rc _ _ hrc => ?_, fun b v _ _ hb => ?_⟩
    · have hs : (St.init { ({ avs := [], nr := 0, nb := 0, roots := [], boxes := [] } : Ini) with avs := cat [] (xs.map fun d => opnV d.k d.x) }).s t = nthA (xs.map fun d => opnV d.k d.x) t := by
        show look .dead (zipN 0 _) t = _
        simpa [cat] using zipN_look (xs.map fun d => opnV d.k d.x) 0 t
      rw [hs, nthA_get, List.getElem?_map]
      cases e : xs[t]? with
      | none => exact trivial
      | some d =>
        obtain ⟨v, h1, h2⟩ := hv.get t d e
        have hlt : t < vs.length := (List.getElem?_eq_some_iff.1 h1).1
        have : (vs.toArray ++ Array.replicate (n - vs.length) undef).getD t undef = v := by
          rw [Array.getD_eq_getD_getElem?, Array.getElem?_append_left (by simpa using hlt)]
          simp [h1]
        rw [this]
        exact h2.rep fun b hb => ⟨hb, rfl⟩
    · cases hrc
    · cases hb
    · cases hb
    · cases hb
    · cases hb
    · cases hrc
    · cases hb
  · obtain ⟨v, st', g', a', rv, e1, hS, hr, hf⟩ := he
    exact ⟨v, st', g', rv, e1, ⟨hS.os, hS.tape, hS.output, hS.grow, fun b hb => (hS.old b hb rfl).2⟩, hr, hf⟩
theorem Ctr.law {P : Program} {f : FuncId} {S : FSpec} (h : Ctr P f S) (xs : Cont) (hps : S.ps = viewPs xs) (hp : S.pre xs) (ha : S.alt xs = ⟨[], .vw .bool, [⟨.bool, true⟩]⟩) {w : World} {vs : List Value} (hv : All2 (RVal w) xs vs) :
    Calls P f vs.toArray w fun e w' => e = .returned (.bool true) ∧ RowKit.Below w.heap.size w w' := by
  refine (h.views xs hps hp hv).mono fun e w' ⟨v, st', g', rv, e1, hB, hr, hf⟩ => ⟨?_, hB⟩
  rw [ha] at hf
  have hf : (Dyn.as .bool ⟨.bool, true⟩ fun x => vwS .bool rv fun z => .vc (z = x) (fins S.ps [] 0 0 .ret)).run st' fun _ => True := hf
  have hf : (vwS .bool rv fun z => .vc (z = true) (fins S.ps [] 0 0 .ret)).run st' fun _ => True := hf
  unfold vwS at hf
  split at hf
  all_goals first | exact hf.elim | skip
  all_goals simp_all
  · obtain ⟨hz, _⟩ := hf
    rw [hz] at hr
    have : Rep st' g' w' (.bool true) [v] := hr
    exact (List.cons.inj (show [v] = [Value.bool true] from this)).1
theorem arg_rv {H : Type} {enc : TypeId × Value → H} {P : Program} {E : Env} {w : World} {base : Nat} {spare : Nat → Bool} {held : Bool} {r : Reach} {b' n : Nat} {t : TypeId} {v : Value} {d : DataW H} {ps : List MemPlace} {k : K}
    (T : TabOk P E) (hd : depB E.tab n t = true) (hk : kind E.tab t = k) (hok : Value.okWide P w r b' t v) (h : DataW.Trod enc P w base spare held t v d ps) :
    ∃ y : k.T, RVal w ⟨k, y⟩ v ∧ Wf k y := by
  subst hk
  obtain ⟨fuel, hx⟩ := h
  obtain ⟨y, h1, h2⟩ := trod_rv T n t hd _ _ _ hx
  refine ⟨y, ⟨_, h1, ?_⟩, h2⟩
  have ht : (match E.tab t with | .other => false | _ => true) = true := by
    cases n with
    | zero => cases hd
    | succ n =>
      unfold depB at hd
      cases e : E.tab t with
      | other => rw [e] at hd; cases hd
      | _ => rfl
  obtain ⟨⟨dsc, hu, hp⟩, _⟩ := type_run T ht
  rcases hp with ⟨hp, fs, rfl⟩ | ⟨hp, hna⟩
  · unfold Value.okWide at hok
    rw [hu] at hok
    obtain ⟨cs, rfl, _⟩ := hok
    rw [if_pos hp]; simp [Value.cells]
  · rw [if_neg (by rw [hp]; simp)]
    unfold Value.okWide at hok
    rw [hu] at hok
    cases v with
    | agg cs =>
      exfalso
      cases dsc <;> first | exact hna.elim | (simp [Cell.okWide, Cell.ok, hu] at hok)
    | _ => rfl
end Go.Am
namespace Go.Am
def AllK (P : Program) : List (Nat × List FSpec) → Prop
  | [] => True
  | p :: l => (∀ F, F ∈ p.2 → Known P p.1 F) ∧ AllK P l
theorem AllK.get {P : Program} : ∀ {l : List (Nat × List FSpec)}, AllK P l → ∀ f F, F ∈ look [] l f → Known P f F
  | [], _, f, F, h => by cases h
  | (i, x) :: l, h, f, F, hF => by
    rw [look_cons] at hF
    split at hF
    · rename_i e; subst e; exact h.1 F hF
    · exact h.2.get f F hF
theorem AllK.cons {P : Program} {l : List (Nat × List FSpec)} {f : Nat} {F : FSpec} (h : AllK P l) (k : Known P f F) : AllK P ((f, [F]) :: l) :=
  ⟨fun G hG => by rw [List.mem_singleton] at hG; rw [hG]; exact k, h⟩
theorem known_of {P : Program} {tabL : List (Nat × Ty)} {bytesL : List (Nat × Nat)} (ht : tabB P tabL bytesL = true) {L : List (Nat × List FSpec)} (hL : AllK P L) (hm : P.follows .mixedOrders = true)
    {f : FuncId} {fn : Func} {S : FSpec} (hf : P.funcs[f]? = some fn) (hc : andB (notB (fn.name == "runtime.NumGoroutine")) (andB (match fn.body with | some c => codeIn ⟨look .other tabL, look 0 bytesL, look [] L⟩ fn.ntmps c | none => false) (andB (Nat.ble S.ps.length fn.ntmps) (small S))) = true)
    (h : FOk ⟨look .other tabL, look 0 bytesL, look [] L⟩ fn S) : Known P f S := by
  obtain ⟨h1, h2⟩ := andB_true.1 hc
  obtain ⟨h2, h3⟩ := andB_true.1 h2
  obtain ⟨h3, h4⟩ := andB_true.1 h3
  exact ⟨ctr_of (tabB_ok _ ht) (call_ok fun f F hF => hL.get f F hF) hm hf (notB_true.1 h1) h2 h3 h, h4⟩
end Go.Am
namespace Go.Am
section
variable {P : Program}
theorem ctr_by {f : FuncId} {fn : Func} {S : FSpec} (hm : P.follows .mixedOrders = true) (hf : P.funcs[f]? = some fn) (hn : (fn.name == "runtime.NumGoroutine") = false) (hl : Nat.ble S.ps.length fn.ntmps = true) (hbd : fn.body.isNone = false)
    (h : ∀ xs, S.pre xs → ∃ E, TabOk P E ∧ CallOk P E ∧ (match fn.body with | some c => codeIn E fn.ntmps c | none => false) = true ∧ ∃ S', S'.ps = S.ps ∧ S'.alt = S.alt ∧ S'.pre xs ∧ FOk E fn S') : Ctr P f S := by
  have H := h
  clear h
  cases hb : fn.body with
  | none => rw [hb] at hbd; cases hbd
  | some c =>
    refine ⟨⟨fn, hf, hn, by rw [hb]; rfl⟩, fn.ntmps, Nat.le_of_ble_eq_true hl, fun xs hp => ?_⟩
    obtain ⟨E, T, C, hin, S', e1, e2, hp', h0⟩ := H xs hp
    clear H
    rw [hb] at hin
    obtain ⟨ps, pre, alt⟩ := S
    obtain ⟨ps', pre', alt'⟩ := S'
    have e1 : ps' = ps := e1
    have e2 : alt' = alt := e2
    subst e1 e2
    have h := h0 xs hp'
    rw [hb] at h
    clear h0
    cases hi : inis ps' xs ⟨[], 0, 0, [], []⟩ with
    | none =>
      replace h : (match inis ps' xs ⟨[], 0, 0, [], []⟩, some c with
        | some i, some c => run E c (St.init i) (finQ E fn ⟨ps', pre', alt'⟩ xs)
        | _, _ => False) := h
      rw [hi] at h; exact h.elim
    | some i =>
    replace h : (match inis ps' xs ⟨[], 0, 0, [], []⟩, some c with
        | some i, some c => run E c (St.init i) (finQ E fn ⟨ps', pre', alt'⟩ xs)
        | _, _ => False) := h
    rw [hi] at h
    refine ⟨i, rfl, fun S0 g0 w vs hv hS0 hS => ?_⟩
    refine calls_of_wp hf hb (wp_mono (run_sound T C hm c _ _ g0 w _ (by rw [hS0]; exact hin) h (by simpa using hS)) fun e a' w' he => ?_)
    have key : ∀ e, (e = Ex.normal ∨ e = Ex.ret) → Good S0 (finQ E fn ⟨ps', pre', alt'⟩ xs e) a' w' → a'.defers = [] ∧ ∃ v, (results fn a'.tmps).run P w' = .ok v w' ∧ Ended S0 ⟨ps', pre, alt'⟩ xs (.returned v) w' := by
      intro e hex hg
      obtain ⟨st', g', h1, h2⟩ := hg
      have h1 : altE E fn ⟨ps', pre', alt'⟩ st' (alt' xs) := by
        rcases hex with rfl | rfl <;> exact h1
      obtain ⟨rv, v, h3, h4, h5⟩ := rvAll_run (P := P) T h1 h2
      exact ⟨h2.defers, v, h3, v, st', g', a', rv, rfl, h2, h4, h5⟩
    cases e with
    | normal => exact key _ (.inl rfl) he
    | ret => exact key _ (.inr rfl) he
    | exit i => obtain ⟨st', g', h1, h2⟩ := he; exact h1.elim
    | goto l => exact he.elim
    | panic c => exact he.elim
    | outgrown => exact he.elim
theorem known_or {tabL : List (Nat × Ty)} {bytesL : List (Nat × Nat)} (ht : tabB P tabL bytesL = true) {L1 L2 : List (Nat × List FSpec)} (hL1 : AllK P L1) (hL2 : AllK P L2) (hm : P.follows .mixedOrders = true)
    {f : FuncId} {fn : Func} {S S1 S2 : FSpec} (hf : P.funcs[f]? = some fn) (hc : andB (notB (fn.name == "runtime.NumGoroutine")) (andB (match fn.body with | some c => andB (codeIn ⟨look .other tabL, look 0 bytesL, look [] L1⟩ fn.ntmps c) (codeIn ⟨look .other tabL, look 0 bytesL, look [] L2⟩ fn.ntmps c) | none => false) (andB (Nat.ble S.ps.length fn.ntmps) (small S))) = true)
    (p1 : S1.ps = S.ps) (p2 : S2.ps = S.ps) (a1 : S1.alt = S.alt) (a2 : S2.alt = S.alt) (hpre : ∀ xs, S.pre xs → S1.pre xs ∨ S2.pre xs)
    (h1 : FOk ⟨look .other tabL, look 0 bytesL, look [] L1⟩ fn S1) (h2 : FOk ⟨look .other tabL, look 0 bytesL, look [] L2⟩ fn S2) : Known P f S := by
  obtain ⟨k1, k2⟩ := andB_true.1 hc
  obtain ⟨k2, k3⟩ := andB_true.1 k2
  obtain ⟨k3, k4⟩ := andB_true.1 k3
  cases hb : fn.body with
  | none => rw [hb] at k2; cases k2
  | some c =>
    rw [hb] at k2
    obtain ⟨c1, c2⟩ := andB_true.1 k2
    refine ⟨ctr_by hm hf (notB_true.1 k1) k3 (by rw [hb]; rfl) fun xs hp => ?_, k4⟩
    rcases hpre xs hp with q | q
    · exact ⟨_, tabB_ok _ ht, call_ok fun f F hF => hL1.get f F hF, by rw [hb]; exact c1, S1, p1, a1, q, h1⟩
    · exact ⟨_, tabB_ok _ ht, call_ok fun f F hF => hL2.get f F hF, by rw [hb]; exact c2, S2, p2, a2, q, h2⟩
end
end Go.Am
