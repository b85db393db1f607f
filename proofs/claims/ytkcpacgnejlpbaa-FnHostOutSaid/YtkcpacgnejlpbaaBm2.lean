/-
  An abstract machine over the code of the model: its steps are sound for every program whose types fit the table; no condition beside.
-/
import Derived.Test.YtkcpacgnejlpbaaBm1
import Derived.Laws.MakeOwn
import Derived.Laws.Append
import Derived.Orders
import Derived.LoopN
set_option linter.all false
set_option maxHeartbeats 0
namespace Go.Am
section
variable {P : Program} {E : Env} {S : Start} {st st' : St} {g g' : Gh} {w w' : World} {a : Act} {Q : St → Prop} {gd : Gd} {o : Oper} {Qx : Exit → Act → World → Prop}
theorem Sim.ext (h : Sim S st g w a) (h1 : ∀ t, st'.s t = st.s t) (h2 : ∀ r, st'.r r = st.r r) (h3 : ∀ b, st'.b b = st.b b) : Sim S st' g w a :=
  (h.next h1 (fun _ hb => ⟨hb, rfl⟩) (fun r => .inl ⟨h2 r, rfl, fun _ _ h => ⟨h, rfl⟩⟩) (fun b => .inl ⟨h3 b, rfl, fun _ h => ⟨h, rfl⟩⟩) h.own rfl rfl rfl (Nat.le_refl _) (fun _ h => ⟨h, rfl⟩)).1
theorem look_far {α : Type} (d : α) : ∀ l : List (Nat × α), ∃ F, ∀ n, F ≤ n → look d l n = d
  | [] => ⟨0, fun _ _ => rfl⟩
  | (i, x) :: l => by
    obtain ⟨F, hF⟩ := look_far d l
    refine ⟨max F (i + 1), fun n hn => ?_⟩
    rw [look_cons, if_neg (by omega)]
    exact hF n (by omega)
/-- A place's rows let go. -/
theorem Sim.hole (hS : Sim S st g w a) {r : Nat} {rc : RC} (hrc : (st.r r).c = some rc) (hinn : rc.inn = true) (hh : (st.r r).hole = none) {p : Pth} (hp : Okp (.sl rc.k) p rc.xs) (h0 : 0 < ix p) {rv : RootV} (hrv : rv = { (st.r r) with hole := some p }) :
    ∃ g', Sim S (st.wr r rv) g' w a ∧ (∀ v cs, Rep st g w v cs → Rep (st.wr r rv) g' w v cs) ∧ (∀ v x, RepV st g w v x → RepV (st.wr r rv) g' w v x) ∧ g'.lay = g.lay ∧
      Pool (st.wr r rv) g' w (rows _ ((K.sl rc.k).get p rc.xs) ((K.sl rc.k).getL p (g.lay r (.sl rc.k)))) := by
  have hR := hS.root r rc hrc
  rw [if_pos hinn] at hR
  obtain ⟨f1, f2, f3, f4⟩ := hR
  obtain ⟨A, b, c1, c2, R, B, d1, d2, d3⟩ := rows_deep f1 hp h0 none
  obtain ⟨F0, hF0⟩ := look_far RootV.none st.roots
  have hsub : (rows _ ((K.sl rc.k).get p rc.xs) ((K.sl rc.k).getL p (g.lay r (.sl rc.k)))).Sublist (rows (.sl rc.k) rc.xs (g.lay r (.sl rc.k))) := by
    rw [d1]
    exact List.Sublist.trans (List.Sublist.trans (List.sublist_append_right ..) (List.sublist_append_left ..)) (List.Sublist.trans (List.sublist_cons_self ..) (List.sublist_append_right ..))
  have how : ∀ b c, (b, c) ∈ rows (.sl rc.k) rc.xs (g.lay r (.sl rc.k)) → g.ow b = some (2 * r) ∧ Blk w b c := fun b c hb => f3 b c hb (by rw [hh]; exact fun h => h)
  have hin : ∀ b, b ∈ (rows _ ((K.sl rc.k).get p rc.xs) ((K.sl rc.k).getL p (g.lay r (.sl rc.k)))).map Prod.fst → g.ow b = some (2 * r) ∧ b < w.heap.size := by
    intro b hb
    obtain ⟨⟨d, c⟩, hm, e⟩ := List.mem_map.1 hb
    have e : d = b := e
    subst e
    obtain ⟨h1, h2⟩ := how _ _ (hsub.subset hm)
    exact ⟨h1, h2.lt⟩
  subst hrv
  have key := hS.next (st' := st.wr r { (st.r r) with hole := some p }) (g' := g.own (2 * (max F0 (r + 1))) ((rows _ ((K.sl rc.k).get p rc.xs) ((K.sl rc.k).getL p (g.lay r (.sl rc.k)))).map Prod.fst)) (w' := w) (fun t => rfl)
    (fun b hb => ⟨⟨hb.1, (Gh.own_out g (fun hm => by have := (hin b hm).1; rw [hb.2] at this; cases this)).trans hb.2⟩, rfl⟩)
    (fun r' => by
      rw [St.r_wr]
      split
      · rename_i e
        subst e
        refine .inr ⟨.inr ⟨rfl, Nat.le_refl _, fun rc' hrc' => ?_⟩, fun rc' hrc' => ?_⟩
        · have hrc' : (st.r r).c = some rc' := hrc'
          exact ⟨rc'.xs, rc'.inn, hrc', id, rfl, rfl, rfl, rfl, fun _ _ => ⟨Shp.refl _, rfl⟩⟩
        · have hrc' : (st.r r).c = some rc' := hrc'
          have e : rc' = rc := by rw [hrc] at hrc'; exact (Option.some.inj hrc').symm
          subst e
          rw [if_pos hinn]
          refine ⟨f1, f2, fun b c hb hn => ?_, fun h eh => ?_⟩
          · obtain ⟨h1, h2⟩ := how b c hb
            exact ⟨(Gh.own_out g hn).trans h1, h2⟩
          · have : h = p := (Option.some.inj eh).symm
            subst this
            exact ⟨hp, h0⟩
      · rename_i e
        refine .inl ⟨rfl, rfl, fun b _ hb => ⟨(Gh.own_out g (fun hm => ?_)).trans hb, rfl⟩⟩
        have := (hin b hm).1
        rw [hb] at this
        have := Option.some.inj this
        omega)
    (fun b => .inl ⟨rfl, rfl, fun d hd => ⟨(Gh.own_out g (fun hm => by have := (hin d hm).1; rw [hd] at this; have := Option.some.inj this; omega)).trans hd, rfl⟩⟩)
    (fun b x hx => by
      by_cases hb : b ∈ (rows _ ((K.sl rc.k).get p rc.xs) ((K.sl rc.k).getL p (g.lay r (.sl rc.k)))).map Prod.fst
      · exact (hin b hb).2
      · rw [Gh.own_out g hb] at hx; exact hS.own b x hx)
    rfl rfl rfl (Nat.le_refl _)
    (fun d hd => ⟨(Gh.own_out g (fun hm => by have := (hin d hm).1; rw [hd] at this; have := Option.some.inj this; omega)).trans hd, rfl⟩)
  refine ⟨_, key.1, key.2.1, key.2.2, rfl, f2.sublist (hsub.map _), fun b c hb => ⟨(how b c (hsub.subset hb)).2, max F0 (r + 1), Gh.own_in g (List.mem_map_of_mem (f := Prod.fst) hb), ?_⟩⟩
  rw [St.r_wr, if_neg (by omega)]
  have : st.r (max F0 (r + 1)) = RootV.none := hF0 _ (by omega)
  rw [this]; rfl
theorem cls_flat : ∀ {k : K} {v : AV} {c : k.T → Prog} {cs : List Value} (_ : k.flat = true) (_ : (cls k v c).run st Q) (_ : Rep st g w v cs), ∃ x, (∀ l, cs = hdr k x l) ∧ (c x).run st Q := by
  intro k
  induction k with
  | int ik =>
    intro v c cs _ h hr
    cases v <;> first | exact h.elim | skip
    obtain ⟨h1, h2⟩ := iff'_fail h
    have e := eqIK_eq h1
    subst e
    exact ⟨_, fun _ => hr, h2⟩
  | bool =>
    intro v c cs _ h hr
    cases v <;> first | exact h.elim | skip
    exact ⟨_, fun _ => hr, h⟩
  | pair p q ip iq =>
    intro v c cs hf h hr
    obtain ⟨f1, f2⟩ := andB_true.1 (show andB p.flat q.flat = true from hf)
    cases v <;> first | exact h.elim | skip
    obtain ⟨c1, c2, e, r1, r2⟩ := hr
    have h : (cls p _ fun x => cls q _ fun y => c (x, y)).run st Q := h
    obtain ⟨x, e1, h1⟩ := ip f1 h r1
    obtain ⟨y, e2, h2⟩ := iq f2 h1 r2
    exact ⟨(x, y), fun l => by rw [e, e1 l.1, e2 l.2]; rfl, h2⟩
  | sl k ih => intro v c cs hf; simp [K.flat] at hf
theorem cls_ok : ∀ {k : K} {v : AV} {c : k.T → Prog} {st : St}, (cls k v c).run st Q → v.ok = true ∧ ∃ x st', (c x).run st' Q := by
  intro k
  induction k with
  | int ik =>
    intro v c st h
    cases v <;> first | exact h.elim | skip
    exact ⟨rfl, _, _, (iff'_fail h).2⟩
  | bool =>
    intro v c st h
    cases v <;> first | exact h.elim | skip
    exact ⟨rfl, _, _, h⟩
  | pair p q ip iq =>
    intro v c st h
    cases v <;> first | exact h.elim | skip
    have h : (cls p _ fun x => cls q _ fun y => c (x, y)).run st Q := h
    obtain ⟨h1, x, st1, h2⟩ := ip h
    obtain ⟨h3, y, st2, h4⟩ := iq h2
    exact ⟨andB_true.2 ⟨h1, h3⟩, _, _, h4⟩
  | sl k ih =>
    intro v c st h
    cases v <;> first | exact h.elim | skip
    · exact ⟨rfl, _, _, h⟩
    · rename_i r gen hc p
      cases p with
      | cons s p => exact h.elim
      | nil =>
        have h : (live gen (st.r r) fun rc => iff' rc.inn (match K.same rc.k k with | some ⟨h⟩ => .wrR r { (st.r r) with gen := Nat.succ (st.r r).gen, c := none } (c (h ▸ rc.xs)) | none => .fail) .fail).run st Q := h
        obtain ⟨rc, _, _, _, h4⟩ := live_run h
        obtain ⟨_, h5⟩ := iff'_fail h4
        split at h5
        · exact ⟨rfl, _, _, h5⟩
        · exact h5.elim
theorem cast_fit {k k' : K} (h : k = k') (x : k.T) (l : k.L) (hf : Fit k x l) : Fit k' (h ▸ x) (h ▸ l) ∧ hdr k' (h ▸ x) (h ▸ l) = hdr k x l ∧ rows k' (h ▸ x) (h ▸ l) = rows k x l := by
  subst h; exact ⟨hf, rfl, rfl⟩
/-- The end of a store into a root. -/
theorem root_end {x y : Operand} {t : TypeId} (T : TabOk P E) (ho : o.op = .store t x y) (hd : o.dst = none) {st1 : St} {g1 : Gh} (hS : Sim S st1 g1 w a) {r : Nat} {rc : RC} (hrc : (st1.r r).c = some rc) (hinn : rc.inn = true) {p : Pth}
    (hp : Okp (.sl rc.k) p rc.xs) (h0 : 0 < ix p) (hh : (st1.r r).hole = none ∨ (st1.r r).hole = some p) {z : ((K.sl rc.k).at p).T} {m : ((K.sl rc.k).at p).L} (hf : Fit _ z m) (hP : Pool st1 g1 w (rows _ z m)) {hc : Nat} (hhc : (st1.r r).hc ≤ hc)
    (hflat : hc = (st1.r r).hc → Shp ((K.sl rc.k).at p) ((K.sl rc.k).get p rc.xs) z ∧ m = (K.sl rc.k).getL p (g1.lay r (.sl rc.k))) {rv : RootV} (hrv : rv = { (st1.r r) with hc := hc, hole := none, c := some { rc with xs := (K.sl rc.k).set p rc.xs z } })
    (ht : (match E.tab t with | .other => false | _ => true) = true) (hk : K.likeK (kind E.tab t) ((K.sl rc.k).at p) = true) {b of : Nat} (hb : ad (.sl rc.k) p (g1.lay r (.sl rc.k)) none = some (b, of)) (hx : a.eval x = .pointer (some ⟨b, of, none⟩))
    (hy : (a.eval y).cells.toList = hdr _ z m) (hpl : ∀ v ∈ (a.eval y).cells.toList, plain v) {st2 : St} (hq : Q st2) (e1 : ∀ t, st2.s t = (st1.wr r rv).s t) (e2 : ∀ i, st2.r i = (st1.wr r rv).r i) (e3 : ∀ i, st2.b i = (st1.wr r rv).b i) :
    o.wp P a w (Good S Q) Qx := by
  obtain ⟨b', A, c, B, q1, q2, q3, g', q4, _⟩ := hS.putRoot hrc hinn hp h0 hh hf hP hhc hflat hrv
  rw [hb] at q1
  obtain ⟨rfl, rfl⟩ := Prod.mk.inj (Option.some.inj q1)
  obtain ⟨ks, _⟩ := KlikeK_sz hk
  have hrun := store_run (P := P) T ht q3 (by rw [q2, ks]) (x := a.eval y) (by rw [hy, hdr_length, ks]) hpl
  rw [← hx, hy] at hrun
  exact wp_skp (exec_store ho hrun) (good_none (q4.ext e1 e2 e3) hq hd)
/-- A place in a row, its content seen. -/
theorem RV.place {U : Nat → Prop} {w : World} : ∀ {k : K} {p : Pth} {x : k.T} {cs : List Value} (l : k.L) (b o : Nat), RV U w k x cs → Okp k p x → ix p = 0 →
    ∃ c1 m c2, cs = c1 ++ m ++ c2 ∧ ad k p l (some (b, o)) = some (b, o + c1.length) ∧ m.length = (k.at p).sz ∧
      ∀ {U' : Nat → Prop} {w' : World}, (∀ b, U b → U' b ∧ w'.heap[b]? = w.heap[b]?) → ∀ y m', RV U' w' (k.at p) y m' → RV U' w' k (k.set p x y) (c1 ++ m' ++ c2) := by
  intro k p
  induction p generalizing k with
  | nil => intro x cs l b o h _ _; exact ⟨[], cs, [], by simp, rfl, h.length, fun _ y m' hm => by rw [List.nil_append, List.append_nil]; exact hm⟩
  | cons q p ih =>
    intro x cs l b o h hp hi
    cases k with
    | pair a c =>
      obtain ⟨d1, d2, e, r1, r2⟩ := h
      cases q with
      | f =>
        obtain ⟨c1, m, c2, e1, e2, e3, e4⟩ := ih (k := a) (x := x.1) l.1 b o r1 hp.2 hi
        refine ⟨c1, m, c2 ++ d2, by rw [e, e1]; simp, e2, e3, fun hU y m' hm => ⟨c1 ++ m' ++ c2, d2, by simp, e4 hU y m' hm, r2.mono hU⟩⟩
      | sn =>
        obtain ⟨c1, m, c2, e1, e2, e3, e4⟩ := ih (k := c) (x := x.2) l.2 b (o + a.sz) r2 hp.2 hi
        refine ⟨d1 ++ c1, m, c2, by rw [e, e1]; simp, ?_, e3, fun hU y m' hm => ⟨d1, c1 ++ m' ++ c2, by simp, r1.mono hU, e4 hU y m' hm⟩⟩
        rw [List.length_append, r1.length, ← Nat.add_assoc]
        exact e2
      | i n => exact hp.1.elim
    | sl k => cases q with
      | i n => simp [ix] at hi
      | f => exact hp.1.elim
      | sn => exact hp.1.elim
    | int ik => cases q <;> exact hp.1.elim
    | bool => cases q <;> exact hp.1.elim
theorem flat_split {α : Type} {sz : Nat} : ∀ {cs : List (List α)} {n : Nat}, n < cs.length → (∀ i, i < cs.length → (cs.getD i []).length = sz) → ∃ A B, A.length = n * sz ∧ cs.flatten = A ++ cs.getD n [] ++ B ∧ ∀ v, (cs.set n v).flatten = A ++ v ++ B
  | [], n, h, _ => by simp at h
  | c :: cs, 0, _, _ => ⟨[], cs.flatten, by simp, by simp, fun v => by simp⟩
  | c :: cs, n + 1, h, hl => by
    obtain ⟨A, B, e1, e2, e3⟩ := flat_split (cs := cs) (n := n) (by simpa using h) fun i hi => hl (i + 1) (by simpa using hi)
    have l0 : c.length = sz := hl 0 (by simp)
    refine ⟨c ++ A, B, ?_, ?_, fun v => ?_⟩
    · rw [List.length_append, l0, e1, Nat.succ_mul]; omega
    · show c ++ cs.flatten = c ++ A ++ cs.getD n [] ++ B
      rw [e2]; simp
    · show c ++ (cs.set n v).flatten = c ++ A ++ v ++ B
      rw [e3]; simp
/-- A store into a row whose inner slices are not owned. -/
theorem Sim.putView (hS : Sim S st g w a) {r : Nat} {rc : RC} (hrc : (st.r r).c = some rc) (hinn : rc.inn = false) {p : Pth} (hp : Okp (.sl rc.k) p rc.xs) (h0 : 0 < ix p) (h2 : ix p < 2)
    {y : ((K.sl rc.k).at p).T} {m : ((K.sl rc.k).at p).L} (hf : Fit _ y m) (hP : Pool st g w (rows _ y m)) {rv : RootV}
    (hrv : rv = { (st.r r) with c := some { rc with xs := (K.sl rc.k).set p rc.xs y } }) :
    ∃ b A c B, ad (.sl rc.k) p (g.lay r (.sl rc.k)) none = some (b, A.length) ∧ c.length = ((K.sl rc.k).at p).sz ∧ Blk w b (A ++ c ++ B) ∧
      ∃ g', Sim S (st.wr r rv) g' (w.setRow b (A ++ hdr _ y m ++ B).toArray) a := by
  have hR := hS.root r rc hrc
  rw [if_neg (by rw [hinn]; simp)] at hR
  obtain ⟨hh, hcap, ha0, hb⟩ := hR
  cases p with
  | nil => simp [ix] at h0
  | cons q p =>
  cases q with
  | f => exact hp.1.elim
  | sn => exact hp.1.elim
  | i n =>
    have hn : n < List.length rc.xs := hp.1
    have hi : ix p = 0 := by simp only [ix] at h2; omega
    cases hla : (g.lay r (.sl rc.k)).a with
    | none => have := ha0 hla; omega
    | some b =>
    obtain ⟨ob, cs, hlen, hblk, hpost, hel⟩ := hb b hla
    have live : ∀ d, d ∈ (rows _ y m).map Prod.fst → ∃ r', g.ow d = some (2 * r') ∧ (st.r r').c = none ∧ d < w.heap.size := by
      intro d hd
      obtain ⟨⟨d', c'⟩, hm, e⟩ := List.mem_map.1 hd
      have e : d' = d := e
      subst e
      obtain ⟨h1, r', h3, h4⟩ := hP.row _ _ hm
      exact ⟨r', h3, h4, h1.lt⟩
    have nb : b ∉ (rows _ y m).map Prod.fst := fun hd => by
      obtain ⟨r', h3, h4, _⟩ := live b hd
      rw [ob] at h3
      have e : r = r' := by have := Option.some.inj h3; omega
      subst e; rw [hrc] at h4; cases h4
    have hsz : ∀ i, i < cs.length → (cs.getD i []).length = rc.k.sz := fun i hi => (hel i (by omega)).length
    obtain ⟨A, B, f1, f2, f3⟩ := flat_split (cs := cs) (n := n) (by omega) hsz
    obtain ⟨c1, mm, c2, e1, e2, e3, e4⟩ := RV.place ((K.sl rc.k).getL1 (.i n) (g.lay r (.sl rc.k))) b ((g.lay r (.sl rc.k)).pre.length + n * rc.k.sz) (hel n hn) hp.2 hi
    have hA : ((g.lay r (.sl rc.k)).pre ++ A ++ c1).length = (g.lay r (.sl rc.k)).pre.length + n * rc.k.sz + c1.length := by rw [List.length_append, List.length_append, f1]
    have hB : Blk w b ((g.lay r (.sl rc.k)).pre ++ A ++ c1 ++ mm ++ (c2 ++ B ++ (g.lay r (.sl rc.k)).post)) := by
      rw [f2, e1] at hblk
      simpa [List.append_assoc] using hblk
    have had : ad (.sl rc.k) (.i n :: p) (g.lay r (.sl rc.k)) none = some (b, ((g.lay r (.sl rc.k)).pre ++ A ++ c1).length) := by
      rw [hA]
      show ad rc.k p ((K.sl rc.k).getL1 (.i n) (g.lay r (.sl rc.k))) ((g.lay r (.sl rc.k)).a.map fun b => (b, (g.lay r (.sl rc.k)).pre.length + n * rc.k.sz)) = _
      rw [hla]; exact e2
    refine ⟨b, _, mm, _, had, e3, hB, { g with ow := fun d => if d ∈ (rows _ y m).map Prod.fst then none else g.ow d }, ?_⟩
    generalize hw' : w.setRow b ((g.lay r (.sl rc.k)).pre ++ A ++ c1 ++ hdr _ y m ++ (c2 ++ B ++ (g.lay r (.sl rc.k)).post)).toArray = w'
    have wo : ∀ {d : Nat}, d ≠ b → w'.heap[d]? = w.heap[d]? := fun h => by rw [← hw']; exact setRow_other w _ _ h
    have ws : w'.heap.size = w.heap.size := by rw [← hw']; exact setRow_size _ _ _
    generalize hg' : ({ g with ow := fun d => if d ∈ (rows _ y m).map Prod.fst then none else g.ow d } : Gh) = g'
    have gl : g'.lay = g.lay := by rw [← hg']
    have gb : g'.bx = g.bx := by rw [← hg']
    have out : ∀ d, d ∉ (rows _ y m).map Prod.fst → g'.ow d = g.ow d := fun d hd => by rw [← hg']; exact if_neg hd
    have inn' : ∀ d, d ∈ (rows _ y m).map Prod.fst → g'.ow d = none := fun d hd => by rw [← hg']; exact if_pos hd
    have hUb : ∀ d, g.U w d → g'.U w' d ∧ w'.heap[d]? = w.heap[d]? := fun d hd => by
      have ne : d ≠ b := fun e => by rw [e] at hd; have := hd.2; rw [ob] at this; cases this
      refine ⟨⟨by rw [ws]; exact hd.1, ?_⟩, wo ne⟩
      by_cases hm : d ∈ (rows _ y m).map Prod.fst
      · exact inn' d hm
      · rw [out d hm]; exact hd.2
    have hy : RV (g'.U w') w' _ y (hdr _ y m) := RV.own hf fun b' c' hm => by
      have hm' := List.mem_map_of_mem (f := Prod.fst) hm
      obtain ⟨h1, _⟩ := hP.row b' c' hm
      have ne : b' ≠ b := fun e => nb (by rw [← e]; exact hm')
      exact ⟨h1.same (wo ne), by rw [ws]; exact h1.lt, inn' b' hm'⟩
    have keep : ∀ {d r' : Nat}, (st.r r').c ≠ none → g.ow d = some (2 * r') → g'.ow d = some (2 * r') := fun {d r'} hc hd => by
      rw [out d (fun hm => ?_)]
      · exact hd
      · obtain ⟨r'', h3, h4, _⟩ := live d hm
        rw [hd] at h3
        have e : r' = r'' := by have := Option.some.inj h3; omega
        subst e; exact hc h4
    subst hrv
    refine (hS.next (st' := st.wr r { (st.r r) with c := some { rc with xs := (K.sl rc.k).set (.i n :: p) rc.xs y } }) (g' := g') (w' := w') (fun t => rfl) hUb (fun r' => ?_)
      (fun b' => .inl ⟨rfl, by rw [gb], fun d hd => ?_⟩) (fun d x hx => ?_) (by rw [← hw']; rfl) (by rw [← hw']; rfl) (by rw [← hw']; rfl) (by rw [ws]; exact Nat.le_refl _) (fun d hd => ?_)).1
    · rw [St.r_wr]
      split
      · rename_i e
        subst e
        refine .inr ⟨.inr ⟨rfl, Nat.le_refl _, fun rc' hrc' => ?_⟩, fun rc' hrc' => ?_⟩
        · have e : rc' = { rc with xs := (K.sl rc.k).set (.i n :: p) rc.xs y } := (Option.some.inj hrc').symm
          subst e
          rw [gl]
          exact ⟨rc.xs, rc.inn, hrc, id, top_set y h0 hp, rfl, rfl, rfl, fun _ h => by have h : rc.inn = true := h; rw [hinn] at h; cases h⟩
        · have e : rc' = { rc with xs := (K.sl rc.k).set (.i n :: p) rc.xs y } := (Option.some.inj hrc').symm
          subst e
          show if rc.inn = true then _ else _
          rw [if_neg (by rw [hinn]; simp), gl]
          have hlen' : List.length ((K.sl rc.k).set (.i n :: p) rc.xs y : List rc.k.T) = List.length rc.xs := (top_set y h0 hp).symm
          refine ⟨hh, by rw [hlen']; exact hcap, ha0, fun b0 hb0 => ?_⟩
          have e0 : b0 = b := by rw [hla] at hb0; exact (Option.some.inj hb0).symm
          subst e0
          refine ⟨keep (by rw [hrc]; simp) ob, cs.set n (c1 ++ hdr _ y m ++ c2), by rw [List.length_set, hlen', hlen], ?_, by rw [hlen']; exact hpost, fun i hi' => ?_⟩
          · rw [f3, ← hw']
            have := setRow_blk hB ((g.lay r (.sl rc.k)).pre ++ A ++ c1 ++ hdr _ y m ++ (c2 ++ B ++ (g.lay r (.sl rc.k)).post))
            simpa [List.append_assoc] using this
          · have hi2 : i < List.length rc.xs := by rw [← hlen']; exact hi'
            show RV (g'.U w') w' rc.k (List.getD (List.set rc.xs n ((rc.k.set p (List.getD rc.xs n rc.k.d)) y)) i rc.k.d) ((cs.set n (c1 ++ hdr _ y m ++ c2)).getD i [])
            by_cases ei : i = n
            · subst ei
              rw [List.getD_eq_getElem?_getD, List.getD_eq_getElem?_getD (l := cs.set _ _), List.getElem?_set_self (by omega), List.getElem?_set_self (by omega)]
              exact e4 hUb y _ hy
            · rw [List.getD_eq_getElem?_getD, List.getD_eq_getElem?_getD (l := cs.set _ _), List.getElem?_set_ne (fun e => ei e.symm), List.getElem?_set_ne (fun e => ei e.symm), ← List.getD_eq_getElem?_getD, ← List.getD_eq_getElem?_getD]
              exact (hel i hi2).mono hUb
      · rename_i e
        refine .inl ⟨rfl, by rw [gl], fun d hc hd => ⟨keep hc hd, wo fun e' => ?_⟩⟩
        rw [e', ob] at hd
        have := Option.some.inj hd; omega
    · refine ⟨?_, wo fun e' => ?_⟩
      · rw [out d (fun hm => ?_)]
        · exact hd
        · obtain ⟨r'', h3, _, _⟩ := live d hm
          rw [hd] at h3; have := Option.some.inj h3; omega
      · rw [e', ob] at hd
        have := Option.some.inj hd; omega
    · rw [ws]
      by_cases hm : d ∈ (rows _ y m).map Prod.fst
      · rw [inn' d hm] at hx; cases hx
      · rw [out d hm] at hx; exact hS.own d x hx
    · refine ⟨?_, wo fun e' => ?_⟩
      · rw [out d (fun hm => ?_)]
        · exact hd
        · obtain ⟨r'', h3, _, _⟩ := live d hm
          rw [hd] at h3; have := Option.some.inj h3; omega
      · rw [e', ob] at hd
        have := Option.some.inj hd; omega
theorem rv_eta (rv : RootV) (hc : Nat) (c : Option RC) (h : rv.hole = none) : ({ rv with hc := hc, c := c } : RootV) = { rv with hc := hc, hole := none, c := c } := by
  cases rv; simp at h; subst h; rfl
theorem wr_ext (st : St) (i : Nat) (A B : RootV) : (∀ t, (st.wr i B).s t = ((st.wr i A).wr i B).s t) ∧ (∀ r, (st.wr i B).r r = ((st.wr i A).wr i B).r r) ∧ ∀ b, (st.wr i B).b b = ((st.wr i A).wr i B).b b := by
  refine ⟨fun _ => rfl, fun r => ?_, fun _ => rfl⟩
  simp only [St.r_wr]
  split <;> rfl
theorem op_storeR {x y : Operand} {t : TypeId} (T : TabOk P E) (ho : o.op = .store t x y) (hd : o.dst = none) (hS : Sim S st g w a) {r gen hc : Nat} {p : Pth} {v : AV}
    (hx : RepV st g w (.rp r gen hc p) (a.eval x)) (hy : RepV st g w v (a.eval y)) (h : (storeR E t r gen hc p v).run st Q) : o.wp P a w (Good S Q) Qx := by
  unfold storeR at h
  simp only [Prog.run] at h
  split at h
  · exact h.elim
  · rename_i rc hrc
    obtain ⟨h1, h2⟩ := iff'_fail h
    obtain ⟨h5, h4⟩ := andB_true.1 h1
    obtain ⟨h7, h8⟩ := andB_true.1 h4
    have hgen := Nat.eq_of_beq_eq_true h5
    obtain ⟨h9, h10⟩ := fresh_run h2
    obtain ⟨ht, kv⟩ := shape_kind h7
    obtain ⟨_, kp⟩ := shapeK_kind h8
    obtain ⟨_, hle, hv⟩ := (show Rep st g w (.rp r gen hc p) [_] from hx)
    obtain ⟨r1, r0, b, of, r3, r4⟩ := hv rc ⟨hrc, hgen, h9⟩
    have ea := (List.cons.inj r4).1
    rcases iff'_run h10 with ⟨hinn, h10⟩ | ⟨hinn, h10⟩
    rotate_left
    · unfold storeN at h10
      rcases iff'_run h10 with ⟨_, h12⟩ | ⟨hnr, h12⟩
      · exact h12.elim
      · have vok := (cls_ok h12).1
        have hvr := repV_toCells hy vok
        obtain ⟨z, l, st1, s1, ⟨s2, s3, _⟩, s4, s5, s6, s7, s8⟩ := cls_run h12 hS Pool.nil hvr
        have hrs := s3 r hnr
        have s7 : Pool st1 g w (rows _ z l) := by simpa using s7
        split at s8
        · have h2' : ix p < 2 := by
            rcases h9 with h | ⟨h, _⟩
            · exact h
            · rw [hinn] at h; cases h
          obtain ⟨b', A, c, B, q1, q2, q3, g', q4⟩ := s1.putView (r := r) (rc := rc) (by rw [hrs]; exact hrc) hinn r1 r0 h2' s5 s7 rfl
          rw [r3] at q1
          obtain ⟨rfl, rfl⟩ := Prod.mk.inj (Option.some.inj q1)
          obtain ⟨ks, _⟩ := KlikeK_sz kp
          have hrun := store_run (P := P) T ht q3 (by rw [q2, ks]) (x := a.eval y) (by rw [s6, hdr_length, ks]) (Rep.plain vok hvr).2
          rw [← ea, s6] at hrun
          have s8 : Q (st1.wr r { (st1.r r) with c := some { rc with xs := (K.sl rc.k).set p rc.xs z } }) := by rw [hrs]; exact s8
          exact wp_skp (exec_store ho hrun) (good_none q4 s8 hd)
        · exact s8.elim
    rcases iff'_run h10 with ⟨hfl, h11⟩ | ⟨hfl, h11⟩
    · split at h11
      · exact h11.elim
      · rename_i hh
        have vok := (cls_ok h11).1
        have hvr := repV_toCells hy vok
        have hvok := And.intro hvr (Rep.plain vok hvr).2
        obtain ⟨z, e1, h12⟩ := cls_flat hfl h11 hvok.1
        have h12 : Q (st.wr r { (st.r r) with c := some { rc with xs := (K.sl rc.k).set p rc.xs z } }) := h12
        exact root_end T ho hd hS hrc hinn r1 r0 (.inl hh) (z := z) (m := (K.sl rc.k).getL p (g.lay r (.sl rc.k))) (Fit_flat hfl _ _) (by rw [rows_flat hfl]; exact Pool.nil) (hc := (st.r r).hc) (Nat.le_refl _)
          (fun _ => ⟨Shp.flat hfl _ _, rfl⟩) (rv_eta _ (st.r r).hc _ hh) ht kp r3 ea (e1 _) hvok.2 h12 (fun _ => rfl) (fun _ => rfl) (fun _ => rfl)
    · split at h11
      · rename_i r2 gen2 hc2 q p2 _
        unfold storeMv at h11
        rcases iff'_run h11 with ⟨_, h12⟩ | ⟨hne, h12⟩
        · exact h12.elim
        · split at h12
          · exact h12.elim
          · rename_i hh
            simp only [Prog.run] at h12
            obtain ⟨rc2, g1, g2, g3, g4⟩ := live_run h12
            obtain ⟨g5, g6⟩ := fresh_run g4
            obtain ⟨g7, g8⟩ := iff'_fail g6
            split at g8
            · rename_i hk k' e1 e2
              have g8 : Q ((st.wr r2 { (st.r r2) with hole := some (q :: p2) }).wr r { (st.r r) with hc := Nat.succ (st.r r).hc, c := some { rc with xs := (K.sl rc.k).set p rc.xs (hk ▸ (K.sl rc2.k).get (q :: p2) rc2.xs) } }) := g8
              have hrr : r ≠ r2 := by
                intro e
                subst e
                rw [Nat.beq_refl] at hne
                cases hne
              obtain ⟨_, hle2, hv2⟩ := (show Rep st g w (.rf r2 gen2 hc2 (q :: p2)) [_] from hy)
              obtain ⟨t1, _, t3⟩ := hv2 rc2 ⟨g1, g2, g5⟩
              have t0 : 0 < ix (q :: p2) := by
                cases q with
                | i n => simp [ix]
                | f => exact t1.1.elim
                | sn => exact t1.1.elim
              obtain ⟨g', s1, s2, s3, s4, s5⟩ := hS.hole g1 g7 g3 t1 t0 rfl
              have hR2 := hS.root r2 rc2 g1
              rw [if_pos g7] at hR2
              have hrs : (st.wr r2 { (st.r r2) with hole := some (q :: p2) }).r r = st.r r := by rw [St.r_wr, if_neg (fun e => hrr e.symm)]
              obtain ⟨c1, c2, c3⟩ := cast_fit hk ((K.sl rc2.k).get (q :: p2) rc2.xs) ((K.sl rc2.k).getL (q :: p2) (g.lay r2 (.sl rc2.k))) (Fit_get hR2.1 t1)
              have hcell : (a.eval y).cells.toList = [a.eval y] := by
                have h1 : Rep st g w (.rf r2 gen2 hc2 (q :: p2)) [a.eval y] := hy
                obtain ⟨⟨A', n', c', e⟩, _⟩ := h1
                rw [(List.cons.inj e).1]; rfl
              exact root_end T ho hd s1 (r := r) (rc := rc) (by rw [hrs]; exact hrc) hinn r1 r0 (.inl (by rw [hrs]; exact hh)) c1 (by rw [c3]; exact s5) (hc := Nat.succ (st.r r).hc) (by rw [hrs]; exact Nat.le_succ _)
                (fun e => by rw [hrs] at e; exact absurd e (Nat.succ_ne_self _)) (by rw [hrs]; exact rv_eta _ _ _ hh) ht kp (by rw [s4]; exact r3) ea (by rw [hcell, c2]; exact t3)
                (by rw [hcell, t3]; obtain ⟨⟨A', n', c', e⟩, _⟩ := (show Rep st g w (.rf r2 gen2 hc2 (q :: p2)) [_] from hy); rw [← t3, e]; intro u hu; simp at hu; subst hu; trivial) g8 (fun _ => rfl) (fun _ => rfl) (fun _ => rfl)
            · exact g8.elim
      · rename_i r2 gen2 hc2 p2 lo hi _
        unfold storeCut at h11
        obtain ⟨h12, h13⟩ := iff'_fail h11
        obtain ⟨h14, h15⟩ := andB_true.1 h12
        obtain ⟨h16, h17⟩ := andB_true.1 h14
        obtain ⟨h18, _⟩ := andB_true.1 h15
        have e1 := Nat.eq_of_beq_eq_true h16
        have e2 := Nat.eq_of_beq_eq_true h17
        have e3 := Nat.eq_of_beq_eq_true h18
        subst e1 e2
        split at h13
        · exact h13.elim
        · rename_i hh
          split at h13
          · rename_i k' ek
            simp only [Prog.run] at h13
            obtain ⟨⟨e4, e5⟩, hq⟩ := h13
            subst e4
            obtain ⟨_, hle2, hv2⟩ := (show Rep st g w (.cut r gen hc2 p2 lo hi) [_] from hy)
            obtain ⟨t1, k'', ek', t2, t3, A', n', cap', t4, t5⟩ := hv2 rc ⟨hrc, hgen, .inr ⟨hinn, e3⟩⟩
            have hR := hS.root r rc hrc
            rw [if_pos hinn] at hR
            have hfit := Fit_get hR.1 r1
            obtain ⟨g', s1, s2, s3, s4, s5⟩ := hS.hole hrc hinn hh r1 r0 rfl
            have hcut : ∀ {k0 : K} (e : k0 = .sl k') (x : k0.T) (l : k0.L), Fit k0 x l → ∀ {A n cap}, hdr k0 x l = [.slice A n cap] → lo ≤ (cast (congrArg K.T e) x : List k'.T).length →
                ∃ m : k0.L, Fit k0 (cast (congrArg K.T e.symm) (List.drop lo (cast (congrArg K.T e) x : List k'.T))) m ∧ hdr k0 (cast (congrArg K.T e.symm) (List.drop lo (cast (congrArg K.T e) x : List k'.T))) m = [cutV A cap k'.sz lo (cast (congrArg K.T e) x : List k'.T).length] ∧
                  (rows k0 (cast (congrArg K.T e.symm) (List.drop lo (cast (congrArg K.T e) x : List k'.T))) m).Sublist (rows k0 x l) := by
              intro k0 e x l hf A n cap eh hlo
              subst e
              obtain ⟨A1, B1, u1, u2⟩ := cutL_rows hf hlo
              refine ⟨cutL x l lo, cutL_fit hf hlo, ?_, ?_⟩
              · have h1 := cutL_hdr hf hlo
                have h2 : hdr (.sl k') x l = [.slice (l.a.map fun b => ⟨b, l.pre.length, none⟩) (List.length x) l.cap] := rfl
                rw [h2] at eh
                have e3 := (List.cons.inj eh).1
                injection e3 with e4 e5 e6
                rw [← e4, ← e6]; exact h1
              · show (rows (.sl k') (List.drop lo x) (cutL x l lo)).Sublist _
                rw [u1, u2]; exact List.Sublist.append (List.Sublist.refl _) (List.drop_sublist ..)
            have ekk : k'' = k' := by rw [ek] at ek'; exact (K.sl.inj ek').symm
            subst ekk
            obtain ⟨m, m1, m2, m3⟩ := hcut ek _ _ hfit t4 (by omega)
            have hcell : (a.eval y).cells.toList = [a.eval y] := by rw [(List.cons.inj t5).1]; rfl
            have hrs : (st.wr r { (st.r r) with hole := some p2 }).r r = { (st.r r) with hole := some p2 } := by rw [St.r_wr, if_pos rfl]
            have hP' : Pool (st.wr r { (st.r r) with hole := some p2 }) g' w (rows _ (cast (congrArg K.T ek.symm) (List.drop lo (cast (congrArg K.T ek) ((K.sl rc.k).get p2 rc.xs) : List k''.T))) m) :=
              ⟨s5.nodup.sublist (m3.map _), fun b c hb => s5.row b c (m3.subset hb)⟩
            obtain ⟨x1, x2, x3⟩ := wr_ext st r { (st.r r) with hole := some p2 } { (st.r r) with hc := Nat.succ (st.r r).hc, hole := none, c := some { rc with xs := (K.sl rc.k).set p2 rc.xs (cast (congrArg K.T ek.symm) (List.drop lo (cast (congrArg K.T ek) ((K.sl rc.k).get p2 rc.xs) : List k''.T))) } }
            rw [rv_eta _ _ _ hh] at hq
            exact root_end T ho hd s1 (r := r) (rc := rc) (by rw [hrs]; exact hrc) hinn r1 r0 (.inr (by rw [hrs])) m1 hP' (hc := Nat.succ (st.r r).hc) (by rw [hrs]; exact Nat.le_succ _)
              (fun e => by rw [hrs] at e; exact absurd e (Nat.succ_ne_self _)) (by rw [hrs]) ht kp (by rw [s4]; exact r3) ea (by rw [hcell, m2, t5, e5]) (by rw [hcell, t5]; intro u hu; simp at hu; subst hu; trivial) hq x1 x2 x3
          · exact h13.elim
      · unfold storeO at h11
        rcases iff'_run h11 with ⟨_, h12⟩ | ⟨hnr, h12⟩
        · exact h12.elim
        · have vok := (cls_ok h12).1
          have hvr := repV_toCells hy vok
          obtain ⟨z, l, st1, s1, ⟨s2, s3, _⟩, s4, s5, s6, s7, s8⟩ := cls_run h12 hS Pool.nil hvr
          have hrs := s3 r hnr
          have s7 : Pool st1 g w (rows _ z l) := by simpa using s7
          have fin : ∀ {rv : RootV}, rv = { (st.r r) with hc := Nat.succ (st.r r).hc, hole := none, c := some { rc with xs := (K.sl rc.k).set p rc.xs z } } → ((st.r r).hole = none ∨ (st.r r).hole = some p) → Q (st1.wr r rv) → o.wp P a w (Good S Q) Qx := by
            intro rv hrv hh hq
            exact root_end T ho hd s1 (r := r) (rc := rc) (by rw [hrs]; exact hrc) hinn r1 r0 (by rw [hrs]; exact hh) s5 s7 (hc := Nat.succ (st.r r).hc) (by rw [hrs]; exact Nat.le_succ _)
              (fun e => by rw [hrs] at e; exact absurd e (Nat.succ_ne_self _)) (by rw [hrs]; exact hrv) ht kp r3 ea s6 (Rep.plain vok hvr).2 hq (fun _ => rfl) (fun _ => rfl) (fun _ => rfl)
          split at s8
          · rename_i hh
            exact fin (rv_eta _ _ _ hh) (.inl hh) s8
          · rename_i h hh
            simp only [Prog.run] at s8
            obtain ⟨e, s9⟩ := s8
            subst e
            exact fin rfl (.inr hh) s9
theorem op_store {x y : Operand} {t : TypeId} (T : TabOk P E) (ho : o.op = .store t x y) (hd : o.dst = none) (h : (opP E gd o).run st Q) (hg : GOk gd) (hS : Sim S st g w a) : o.wp P a w (Good S Q) Qx := by
  unfold opP at h; rw [ho] at h
  simp only [] at h
  split at h
  · obtain ⟨u, h1, h2⟩ := ev_run h hg hS
    obtain ⟨v, h3, h4⟩ := ev_run h2 hg hS
    unfold storeP at h4
    split at h4
    · exact op_storeB T ho hd hS h1 h3 h4
    · exact op_storeR T ho hd hS h1 h3 h4
    · exact h4.elim
  · exact h.elim
end
end Go.Am
namespace Go.Am
theorem zero_hdr : ∀ k : K, hdr k k.d k.dl = zcells k ∧ rows k k.d k.dl = [] ∧ Fit k k.d k.dl
  | .int _ => ⟨rfl, rfl, trivial⟩
  | .bool => ⟨rfl, rfl, trivial⟩
  | .pair a b => by
    obtain ⟨h1, h2, h3⟩ := zero_hdr a
    obtain ⟨g1, g2, g3⟩ := zero_hdr b
    exact ⟨by show hdr a a.d a.dl ++ hdr b b.d b.dl = _; rw [h1, g1]; rfl, by show rows a a.d a.dl ++ rows b b.d b.dl = _; rw [h2, g2]; rfl, h3, g3⟩
  | .sl _ => ⟨rfl, rfl, trivial, Nat.le_refl _, by simp [K.d, K.dl], fun _ => ⟨rfl, rfl⟩⟩
theorem zero_zip (k : K) : ∀ n, zipC (hdr k) (List.replicate n k.d) (List.replicate n k.dl) = (List.replicate n (zcells k)).flatten ∧ zipR (rows k) (List.replicate n k.d) (List.replicate n k.dl) = [] ∧ allZ (Fit k) (List.replicate n k.d) (List.replicate n k.dl)
  | 0 => ⟨rfl, rfl, trivial⟩
  | n + 1 => by
    obtain ⟨h1, h2, h3⟩ := zero_zip k n
    obtain ⟨g1, g2, g3⟩ := zero_hdr k
    simp only [List.replicate_succ, zipC, zipR, allZ, List.flatten_cons, h1, h2, h3, g1, g2, g3, List.append_nil, and_self]
theorem zcells_length (k : K) : (zcells k).length = k.sz := by rw [← (zero_hdr k).1, hdr_length]
theorem flat_get (l : List Value) (h : 0 < l.length) : ∀ (n j : Nat), j < n * l.length → (List.replicate n l).flatten[j]? = l[j % l.length]?
  | 0, j, hj => by simp at hj
  | n + 1, j, hj => by
    rw [List.replicate_succ, List.flatten_cons]
    by_cases hl : j < l.length
    · rw [List.getElem?_append_left hl, Nat.mod_eq_of_lt hl]
    · rw [List.getElem?_append_right (by omega), flat_get l h n (j - l.length) (by rw [Nat.add_mul] at hj; omega)]
      rw [Nat.mod_eq_sub_mod (by omega : j ≥ l.length)]
theorem made_eq (k : K) (n : Nat) : (madeCells (zcells k).toArray (n * k.sz)).toList = (List.replicate n (zcells k)).flatten := by
  have hp := sz_pos k
  have hl := zcells_length k
  have hfl : ∀ n, (List.replicate n (zcells k)).flatten.length = n * k.sz := by
    intro n
    induction n with
    | zero => simp
    | succ n ih => rw [List.replicate_succ, List.flatten_cons, List.length_append, hl, ih, Nat.add_mul]; omega
  apply List.ext_getElem?
  intro j
  by_cases hj : j < n * k.sz
  · rw [flat_get _ (by omega) n j (by rw [hl]; exact hj)]
    have hm : j % k.sz < (zcells k).length := by rw [hl]; exact Nat.mod_lt _ hp
    simp [madeCells, hj, hl, List.getElem?_eq_getElem hm]
  · rw [List.getElem?_eq_none (by simp [size_madeCells]; omega), List.getElem?_eq_none (by rw [hfl]; omega)]
section
variable {P : Program} {E : Env} {S : Start} {st st' : St} {g g' : Gh} {w w' : World} {a : Act} {Q : St → Prop} {gd : Gd} {o : Oper} {Qx : Exit → Act → World → Prop}
theorem Sim.newRoot (hS : Sim S st g w a) {R : List (Nat × List Value)} (hP : Pool st g w R) (id : Nat) {k : K} {xs : List k.T} {l : (K.sl k).L} (hf : Fit (.sl k) xs l) (hn : ((rows (.sl k) xs l).map Prod.fst).Nodup)
    (hb : ∀ b c, (b, c) ∈ rows (.sl k) xs l → Blk w' b c ∧ (b ∈ R.map Prod.fst ∨ w.heap.size ≤ b)) (hw : ∀ b, b < w.heap.size → b ∉ R.map Prod.fst → w'.heap[b]? = w.heap[b]?)
    (hos : w'.os = w.os) (ht : w'.tape = w.tape) (hout : w'.output = w.output) (hg : w.heap.size ≤ w'.heap.size) :
    ∃ g', Sim S (st.wr id ⟨Nat.succ (st.r id).gen, 0, some ⟨k, xs, true⟩, none⟩) g' w' a ∧ (∀ v cs, Rep st g w v cs → Rep (st.wr id ⟨Nat.succ (st.r id).gen, 0, some ⟨k, xs, true⟩, none⟩) g' w' v cs) ∧
      (∀ v x, RepV st g w v x → RepV (st.wr id ⟨Nat.succ (st.r id).gen, 0, some ⟨k, xs, true⟩, none⟩) g' w' v x) ∧
      Rep (st.wr id ⟨Nat.succ (st.r id).gen, 0, some ⟨k, xs, true⟩, none⟩) g' w' (.rf id (Nat.succ (st.r id).gen) 0 []) (hdr (.sl k) xs l) := by
  have key := hS.setRoot (w' := w') hP (id := id) (rv := ⟨Nat.succ (st.r id).gen, 0, some ⟨k, xs, true⟩, none⟩) (k := .sl k) (l := l) (bs := (rows (.sl k) xs l).map Prod.fst)
    (fun b h1 h2 _ => hw b h1 h2)
    (fun b h => by
      obtain ⟨⟨d, c⟩, hm, e⟩ := List.mem_map.1 h
      have e : d = b := e
      subst e
      obtain ⟨h1, h2⟩ := hb _ _ hm
      exact ⟨h2.imp (fun h => h) .inr, h1.lt⟩)
    (.inl (Nat.lt_succ_self _))
    (fun rc hrc => by
      have e : rc = ⟨k, xs, true⟩ := (Option.some.inj hrc).symm
      subst e
      rw [if_pos rfl]
      rw [show ((g.own (2 * id) ((rows (.sl k) xs l).map Prod.fst)).setL id (.sl k) l).lay id (.sl k) = l from Gh.lay_same ..]
      exact ⟨hf, hn, fun b c h _ => ⟨Gh.own_in g (List.mem_map_of_mem (f := Prod.fst) h), (hb b c h).1⟩, fun h eh => by cases eh⟩)
    hos ht hout hg
  refine ⟨_, key.1, key.2.1, key.2.2, ⟨_, _, _, rfl⟩, ?_, fun rc hv => ?_⟩
  · rw [St.r_wr, if_pos rfl]; exact ⟨Nat.le_refl _, fun _ => Nat.le_refl _⟩
  · have e : rc = ⟨k, xs, true⟩ := by
      have := hv.1
      rw [St.r_wr, if_pos rfl] at this
      exact (Option.some.inj this).symm
    subst e
    refine ⟨trivial, ⟨_, rfl⟩, ?_⟩
    show _ = hdr (.sl k) xs (((g.own (2 * id) ((rows (.sl k) xs l).map Prod.fst)).setL id (.sl k) l).lay id (.sl k))
    rw [Gh.lay_same]
theorem op_makeSlice {x y : Operand} {t : TypeId} (T : TabOk P E) (ho : o.op = .makeSlice t x y) (h : (opP E gd o).run st Q) (hg : GOk gd) (hS : Sim S st g w a) (hb : inB S.n o.dst) : o.wp P a w (Good S Q) Qx := by
  unfold opP at h; rw [ho] at h
  simp only [] at h
  split at h
  · rename_i d e hd he
    obtain ⟨u, h1, h2⟩ := ev_run h hg hS
    obtain ⟨v, h3, h4⟩ := ev_run h2 hg hS
    split at h4
    · rename_i m n
      obtain ⟨⟨h5, h6, h7⟩, h8⟩ := h4
      have h5 := h5.symm
      subst h5
      obtain ⟨hu, i, hi, hs, hby, hb0, hz, _⟩ := elem_of T he
      have hn : ((n.toNat : Nat) : Int) = n := Int.toNat_of_nonneg h6
      have hbn : (i.bytes : Int) * n ≤ 140737488355328 := by rw [hby, Int.mul_comm]; exact h7
      have hn63 : n ≤ 9223372036854775807 := by
        have : n ≤ (i.bytes : Int) * n := by
          have h1 : (1 : Int) ≤ (i.bytes : Int) := by omega
          have := Int.mul_le_mul_of_nonneg_right h1 h6
          omega
        omega
      have hrun := run_make (P := P) w t e i _ hu hi hz .i64 .i64 n n h6 (Int.le_refl _) (by omega) hn63
      have hcells : madeCells (zval (kind E.tab e)).cells (n.toNat * i.size) = ((List.replicate n.toNat (zcells (kind E.tab e))).flatten).toArray := by
        apply Array.ext'
        rw [hs]
        have : (zval (kind E.tab e)).cells = (zcells (kind E.tab e)).toArray := by apply Array.ext'; simp [zval_cells]
        rw [this, made_eq]
      rw [hcells] at hrun
      obtain ⟨z1, z2, z3⟩ := zero_zip (kind E.tab e) n.toNat
      have hrows : rows (.sl (kind E.tab e)) (List.replicate n.toNat (kind E.tab e).d) (⟨some w.heap.size, [], [], n.toNat, List.replicate n.toNat (kind E.tab e).dl⟩ : SL (kind E.tab e).L) = [(w.heap.size, (List.replicate n.toNat (zcells (kind E.tab e))).flatten)] := by
        simp only [rows, row0, z1, z2, List.nil_append, List.append_nil]
      obtain ⟨g', s1, s2, s3, s4⟩ := hS.newRoot (w' := w.alloc (.cells ((List.replicate n.toNat (zcells (kind E.tab e))).flatten).toArray e)) Pool.nil (rid d 0) (k := kind E.tab e) (xs := List.replicate n.toNat (kind E.tab e).d)
        (l := ⟨some w.heap.size, [], [], n.toNat, List.replicate n.toNat (kind E.tab e).dl⟩)
        ⟨z3, by show (List.replicate n.toNat (kind E.tab e).d).length ≤ n.toNat; simp, by show (n.toNat - (List.replicate n.toNat (kind E.tab e).d).length) * _ ≤ 0; simp, fun ha => by cases ha⟩
        (by rw [hrows]; simp) (fun b c hbc => by rw [hrows] at hbc; simp at hbc; obtain ⟨rfl, rfl⟩ := hbc; exact ⟨by simpa using alloc_new w _ e, .inr (Nat.le_refl _)⟩)
        (fun b h1 _ => alloc_old w _ h1) rfl rfl rfl (by simp)
      refine wp_val (x := .slice (some ⟨w.heap.size, 0, none⟩) n.toNat n.toNat) (w' := w.alloc (.cells ((List.replicate n.toNat (zcells (kind E.tab e))).flatten).toArray e)) ?_ ?_
      · simp only [execOp, ho, rep_int h1, rep_int h3, Sem.run_bind, hrun, Result.andThen_ok, Sem.run_pure]
      · rw [hd]
        have e5 : hdr (.sl (kind E.tab e)) (List.replicate n.toNat (kind E.tab e).d) (⟨some w.heap.size, [], [], n.toNat, List.replicate n.toNat (kind E.tab e).dl⟩ : SL (kind E.tab e).L) = [.slice (some ⟨w.heap.size, 0, none⟩) n.toNat n.toNat] := by
          simp [hdr]
        rw [e5] at s4
        exact ⟨_, g', h8, s1.put (hb d hd) (v := .rf (rid d 0) (Nat.succ (st.r (rid d 0)).gen) 0 []) (x := .slice (some ⟨w.heap.size, 0, none⟩) n.toNat n.toNat) s4⟩
    · exact h4.elim
  · exact h.elim
end
end Go.Am
namespace Go.Am
section
variable {P : Program} {E : Env} {w : World}
/-- What is appended: cells somewhere, or nothing. -/
def News (w : World) (xb : Option Addr) (n sz : Nat) (news : List Value) : Prop :=
  news.length = n * sz ∧ (∀ v ∈ news, plain v) ∧ ((xb = none ∧ n = 0) ∨ ∃ A, xb = some A ∧ ∀ j v, news[j]? = some v → w.cell? (A.add j) = some v)
theorem News.drew {xb : Option Addr} {n sz : Nat} {news : List Value} (h : News w xb n sz news) : News w.drew xb n sz news := h
theorem news_run {xb : Option Addr} {n c sz : Nat} {news : List Value} (h : News w xb n sz news) : (Builtin.firstCells sz n (.slice xb n c)).run P w = .ok news.toArray w := by
  obtain ⟨h1, _, ⟨rfl, rfl⟩ | ⟨A, rfl, h3⟩⟩ := h
  · have : news = [] := by simpa using h1
    subst this
    exact run_firstCells_none w sz 0 0 c
  · exact run_firstCells_some (P := P) w sz n A n c news h1 h3
theorem append_room {t t' e e' : TypeId} (T : TabOk P E) (he : E.tab t = .slice e) (he' : E.tab t' = .slice e') (ty : TypeId) {b : Nat} {pre body post news : List Value} {sLen cap n c : Nat} {xb : Option Addr}
    (hb : Blk w b (pre ++ body ++ post)) (hl : body.length = sLen * (kind E.tab e).sz) (hn : News w xb n (kind E.tab e).sz news) (hr : sLen + n ≤ cap) (hp : (cap - sLen) * (kind E.tab e).sz ≤ post.length) :
    (Builtin.append_ #[t, t'] ty #[.slice (some ⟨b, pre.length, none⟩) sLen cap, .slice xb n c]).run P w =
      .ok (.slice (some ⟨b, pre.length, none⟩) (sLen + n) cap) (w.setRow b (pre ++ body ++ news ++ post.drop news.length).toArray) := by
  obtain ⟨hu, i, hi, hs, _⟩ := elem_of T he
  obtain ⟨hu', _⟩ := elem_of T he'
  obtain ⟨el, hb⟩ := hb
  rw [← hs] at hl hn hp
  have hle : news.length ≤ post.length := by
    rw [hn.1]
    exact Nat.le_trans (Nat.mul_le_mul_right _ (by omega)) hp
  have hst := run_storeCells_at P b (pre.length + sLen * i.size) el news 0 _ w hb (by simp [hl]; omega) (fun v hv => plain_one (hn.2.1 v hv))
  have e1 : (pre ++ body ++ post).toArray.toList = (pre ++ body) ++ post := by simp
  have e2 : pre.length + sLen * i.size = (pre ++ body).length := by simp [hl]
  simp only [Nat.add_zero, e2, List.take_left' rfl] at hst
  have e3 : ((pre ++ body) ++ post).drop ((pre ++ body).length + news.length) = post.drop news.length := by
    rw [List.drop_append]; simp
  rw [e3] at hst
  have hf := news_run (P := P) (c := c) hn
  have ea : (⟨b, pre.length, none⟩ : Addr).add (sLen * i.size) = ⟨b, (pre ++ body).length, none⟩ := by rw [add_none, e2]
  simp [Builtin.append_, run_underlying hu, run_underlying hu', sizeOf, typeInfo, hi, Builtin.lenOf, hr, hf, ea]
  simp at hst
  rw [hst]
  simp
theorem append_none {t t' e e' : TypeId} (T : TabOk P E) (he : E.tab t = .slice e) (he' : E.tab t' = .slice e') (ty : TypeId) {c : Nat} {xb : Option Addr} {news : List Value} (hn : News w xb 0 (kind E.tab e).sz news) :
    (Builtin.append_ #[t, t'] ty #[.slice none 0 0, .slice xb 0 c]).run P w = .ok (.slice none 0 0) w := by
  obtain ⟨hu, i, hi, hs, _⟩ := elem_of T he
  obtain ⟨hu', _⟩ := elem_of T he'
  rw [← hs] at hn
  have hf := news_run (P := P) (c := c) hn
  simp [Builtin.append_, run_underlying hu, run_underlying hu', sizeOf, typeInfo, hi, Builtin.lenOf, hf]
theorem append_grow {t t' e e' : TypeId} (T : TabOk P E) (he : E.tab t = .slice e) (he' : E.tab t' = .slice e') (ty : TypeId) {sb xb : Option Addr} {olds news : List Value} {sLen cap n c : Nat}
    (ho : News w sb sLen (kind E.tab e).sz olds) (hn : News w xb n (kind E.tab e).sz news) (hr : cap < sLen + n) (hb : (sLen + n) * E.bytes e ≤ 140737488355328) :
    ∃ cap' rest, sLen + n ≤ cap' ∧ rest.length = (cap' - (sLen + n)) * (kind E.tab e).sz ∧ (Builtin.append_ #[t, t'] ty #[.slice sb sLen cap, .slice xb n c]).run P w =
      .ok (.slice (some ⟨w.heap.size, 0, none⟩) (sLen + n) cap') (w.drew.alloc (.cells (olds ++ news ++ rest).toArray e)) := by
  obtain ⟨hu, i, hi, hs, hby, hb0, hz, _⟩ := elem_of T he
  obtain ⟨hu', _⟩ := elem_of T he'
  rw [← hs] at ho hn
  have hfit := growslice_fits hr (by rw [hby]; exact hb : (sLen + n) * i.bytes ≤ 140737488355328)
  have h48' : ¬ (281474976710656 < Builtin.nextslicecap (sLen + n) cap * i.bytes) := by omega
  have h63' : ¬ (9223372036854775807 < ((sLen : Int) + (n : Int))) := by
    have : sLen + n ≤ (sLen + n) * E.bytes e := Nat.le_mul_of_pos_right _ (by omega)
    omega
  have hne : ¬ (sLen + n ≤ cap) := by omega
  have hf := news_run (P := P) (c := c) hn.drew
  have hfo := news_run (P := P) (c := cap) ho.drew
  refine ⟨grownCap w (sLen + n) cap e, (Builtin.zeroCells (zval (kind E.tab e)).cells (grownCap w (sLen + n) cap e - (sLen + n))).toList, ?_, ?_, ?_⟩
  · simp [grownCap, Question.cut]
  · have : (zval (kind E.tab e)).cells.size = (kind E.tab e).sz := by
      rw [← zcells_length, ← zval_cells]; simp
    simp [Builtin.zeroCells, this]
  · have hb1 : i.bytes ≠ 0 := by omega
    simp [Builtin.append_, run_underlying hu, run_underlying hu', sizeOf, typeInfo, zeroValue, hi, hz, Builtin.lenOf, hne, h63', h48', Question.forced, hf, hfo, newRow, grownCap]
    congr 2
    apply Array.ext'
    simp
end
end Go.Am
namespace Go.Am
section
variable {P : Program} {E : Env} {S : Start} {st st' : St} {g g' : Gh} {w w' : World} {a : Act} {Q : St → Prop} {gd : Gd} {o : Oper} {Qx : Exit → Act → World → Prop}
theorem chunks_of (f : Nat → List Value → Prop) : ∀ n, (∀ i, i < n → ∃ c, f i c) → ∃ cs : List (List Value), cs.length = n ∧ ∀ i, i < n → f i (cs.getD i [])
  | 0, _ => ⟨[], rfl, fun i hi => by omega⟩
  | n + 1, h => by
    obtain ⟨cs, h1, h2⟩ := chunks_of f n (fun i hi => h i (by omega))
    obtain ⟨c, hc⟩ := h n (by omega)
    refine ⟨cs ++ [c], by simp [h1], fun i hi => ?_⟩
    by_cases hn : i < n
    · have : (cs ++ [c]).getD i [] = cs.getD i [] := by
        simp only [List.getD_eq_getElem?_getD]
        rw [List.getElem?_append_left (by omega)]
      rw [this]; exact h2 i hn
    · have : i = n := by omega
      subst this
      have : (cs ++ [c]).getD cs.length [] = c := by simp [List.getD_eq_getElem?_getD]
      rw [← h1] at hc ⊢
      rw [this]; exact hc
theorem flatten_cells {b o sz : Nat} (hsz : 0 < sz) : ∀ (cs : List (List Value)) (n : Nat), (∀ i, i < cs.length → (cs.getD i []).length = sz ∧ Cells w b (o + (n + i) * sz) (cs.getD i [])) → Cells w b (o + n * sz) cs.flatten
  | [], n, _ => fun j v hj => by simp at hj
  | c :: cs, n, h => by
    intro j v hj
    obtain ⟨h1, h2⟩ := h 0 (by simp)
    have h1 : c.length = sz := by simpa using h1
    have h2 : Cells w b (o + n * sz) c := by simpa using h2
    rw [List.flatten_cons] at hj
    by_cases hl : j < c.length
    · rw [List.getElem?_append_left hl] at hj
      exact h2 j v hj
    · rw [List.getElem?_append_right (by omega)] at hj
      have := flatten_cells hsz cs (n + 1) (fun i hi => by
        have := h (i + 1) (by simpa using hi)
        rw [show n + 1 + i = n + (i + 1) from by omega]
        simpa using this) (j - c.length) v hj
      rw [h1, Nat.add_mul] at this
      rw [← this]
      congr 2
      omega
theorem news_of_RV {U : Nat → Prop} {k : K} {ys : List k.T} {v : Value} (h : RV U w (.sl k) ys [v]) : ∃ xb c, ∃ cs : List (List Value), v = .slice xb ys.length c ∧ cs.length = ys.length ∧ News w xb ys.length k.sz cs.flatten ∧
    (∀ i, i < ys.length → RV U w k (ys.getD i k.d) (cs.getD i [])) := by
  obtain ⟨A, cap, e, hc, hs, hel⟩ := h
  have e := (List.cons.inj e).1
  obtain ⟨cs, h1, h2⟩ := chunks_of (fun i c => ∃ ad, A = some ad ∧ Cells w ad.block (ad.off + i * k.sz) c ∧ RV U w k (List.getD ys i k.d) c) (List.length ys) (fun i hi => by
    obtain ⟨ad, ci, h3, _, h5, h6⟩ := hel i hi
    exact ⟨ci, ad, h3, h5, h6⟩)
  have hlen : ∀ i, i < cs.length → (cs.getD i []).length = k.sz := fun i hi => by
    obtain ⟨_, _, _, h6⟩ := h2 i (by omega)
    exact h6.length
  refine ⟨A, cap, cs, e, h1, ⟨by rw [flatten_length cs hlen, h1], fun v hv => ?_, ?_⟩, fun i hi => by obtain ⟨_, _, _, h6⟩ := h2 i hi; exact h6⟩
  · obtain ⟨c, hc1, hc2⟩ := List.mem_flatten.1 hv
    obtain ⟨i, hi⟩ := List.getElem?_of_mem hc1
    have hlt : i < cs.length := (List.getElem?_eq_some_iff.1 hi).1
    obtain ⟨_, _, _, h6⟩ := h2 i (by omega)
    have : cs.getD i [] = c := by simp [List.getD_eq_getElem?_getD, hi]
    rw [this] at h6
    exact h6.plain1 v hc2
  · rcases Nat.eq_zero_or_pos (List.length ys) with h0 | h0
    · cases hA : A with
      | none => exact .inl ⟨rfl, h0⟩
      | some ad =>
        refine .inr ⟨ad, rfl, fun j v hj => ?_⟩
        have : cs = [] := by apply List.eq_nil_of_length_eq_zero; omega
        subst this
        simp at hj
    · obtain ⟨ad, hA, _⟩ := h2 0 h0
      refine .inr ⟨ad, hA, fun j v hj => ?_⟩
      rw [add_spot (hs ad hA h0)]
      have := flatten_cells (b := ad.block) (o := ad.off) (sz_pos k) cs 0 (fun i hi => by
        obtain ⟨ad', hA', h5, h6⟩ := h2 i (by omega)
        rw [hA] at hA'
        cases hA'
        exact ⟨h6.length, by simpa using h5⟩)
      simpa using this j v hj
/-- A slice in a root may be read. -/
theorem root_view (hS : Sim S st g w a) {r gen hc : Nat} {p : Pth} {rc : RC} {k : K} (hh : (st.r r).hole = none) (hv : valid (st.r r) gen hc 1 p rc) (hp : Okp (.sl rc.k) p rc.xs) (e : (K.sl rc.k).at p = .sl k) :
    RV (fun _ => True) w (.sl k) (cast (congrArg K.T e) ((K.sl rc.k).get p rc.xs)) (hdr _ ((K.sl rc.k).get p rc.xs) ((K.sl rc.k).getL p (g.lay r (.sl rc.k)))) := by
  have hR := hS.root r rc hv.1
  have key : ∀ {k0 : K} (e : k0 = .sl k) (x : k0.T) (l : k0.L), RV (fun _ => True) w k0 x (hdr k0 x l) → RV (fun _ => True) w (.sl k) (cast (congrArg K.T e) x) (hdr k0 x l) := by
    intro k0 e x l h
    subst e; exact h
  by_cases hinn : rc.inn = true
  · rw [if_pos hinn] at hR
    obtain ⟨f1, f2, f3, f4⟩ := hR
    have hsub : ∀ b c, (b, c) ∈ rows _ ((K.sl rc.k).get p rc.xs) ((K.sl rc.k).getL p (g.lay r (.sl rc.k))) → (b, c) ∈ rows (.sl rc.k) rc.xs (g.lay r (.sl rc.k)) := by
      intro b c hb
      rcases Nat.eq_zero_or_pos (ix p) with h0 | h0
      · obtain rfl := ok_nil hp (by omega)
        exact hb
      · obtain ⟨A, b', c1, c2, R, B, d1, _, _⟩ := rows_deep f1 hp h0 none
        rw [d1]
        simp [hb]
    exact key e _ _ (RV.own (Fit_get f1 hp) fun b c hb => ⟨(f3 b c (hsub b c hb) (by rw [hh]; exact fun h => h)).2, trivial⟩)
  · rw [if_neg hinn] at hR
    obtain ⟨f1, f2, f3, f4⟩ := hR
    have hi : ix p < 1 := hv.2.2.resolve_right fun h => hinn h.1
    obtain rfl := ok_nil hp hi
    refine key e _ _ ⟨_, _, rfl, f2, fun ad hA => ?_, fun i hi' => ?_⟩
    · cases ha : (g.lay r (.sl rc.k)).a with
      | none =>
        have hA : (g.lay r (.sl rc.k)).a.map _ = some ad := hA
        rw [ha] at hA; cases hA
      | some b =>
        have hA : (g.lay r (.sl rc.k)).a.map _ = some ad := hA
        rw [ha] at hA; cases hA; exact fun _ => rfl
    · cases ha : (g.lay r (.sl rc.k)).a with
      | none =>
        have := f3 ha
        have hi' : i < List.length rc.xs := hi'
        omega
      | some b =>
        obtain ⟨_, cs, g1, g2, _, g3⟩ := f4 b ha
        have hi' : i < List.length rc.xs := hi'
        refine ⟨⟨b, (g.lay r (.sl rc.k)).pre.length, none⟩, cs.getD i [], by show (g.lay r (.sl rc.k)).a.map _ = _; rw [ha]; rfl, trivial, chunk_cells g2 (fun j hj => (g3 j (by omega)).length) (by omega), ?_⟩
        exact (g3 i hi').mono (fun b hb => ⟨trivial, rfl⟩)
end
end Go.Am
namespace Go.Am
theorem hdr_plain : ∀ (k : K) (x : k.T) (l : k.L), ∀ c ∈ hdr k x l, plain c
  | .int _, _, _ => by simp [hdr, plain]
  | .bool, _, _ => by simp [hdr, plain]
  | .pair a b, x, l => by
    intro c hc
    rcases List.mem_append.1 hc with h | h
    · exact hdr_plain a _ _ c h
    · exact hdr_plain b _ _ c h
  | .sl _, _, _ => by simp [hdr, plain]
theorem zipC_plain {k : K} : ∀ (xs : List k.T) (ls : List k.L), ∀ c ∈ zipC (hdr k) xs ls, plain c
  | [], _, c, h => by simp [zipC] at h
  | _ :: _, [], c, h => by simp [zipC] at h
  | x :: xs, l :: ls, c, h => by
    rcases List.mem_append.1 h with h | h
    · exact hdr_plain k x l c h
    · exact zipC_plain xs ls c h
theorem flatten_plain {U : Nat → Prop} {w : World} {k : K} {xs : List k.T} {cs : List (List Value)} (h1 : cs.length = xs.length) (h2 : ∀ i, i < xs.length → RV U w k (xs.getD i k.d) (cs.getD i [])) : ∀ c ∈ cs.flatten, plain c := by
  intro v hv
  obtain ⟨c, hc1, hc2⟩ := List.mem_flatten.1 hv
  obtain ⟨i, hi⟩ := List.getElem?_of_mem hc1
  have hlt : i < cs.length := (List.getElem?_eq_some_iff.1 hi).1
  have h6 := h2 i (by omega)
  have : cs.getD i [] = c := by simp [List.getD_eq_getElem?_getD, hi]
  rw [this] at h6
  exact h6.plain1 v hc2
def topR {k : K} (l : (K.sl k).L) (body : List Value) : List (Nat × List Value) :=
  match l.a with
  | none => []
  | some b => [(b, l.pre ++ body ++ l.post)]
section
variable {P : Program} {E : Env} {S : Start} {st st' : St} {g g' : Gh} {w w' : World} {a : Act} {Q : St → Prop} {gd : Gd} {o : Oper} {Qx : Exit → Act → World → Prop}
/-- What a slice is made of whose root has been used up. -/
def Src (g : Gh) (w : World) (k : K) (inn : Bool) (xs : List k.T) (v : Value) (R : List (Nat × List Value)) : Prop :=
  ∃ (l : (K.sl k).L) (body : List Value) (I : List (Nat × List Value)), v = .slice (l.a.map fun b => ⟨b, l.pre.length, none⟩) xs.length l.cap ∧ xs.length ≤ l.cap ∧ (l.a = none → l.cap = 0) ∧ body.length = xs.length * k.sz ∧
    (∀ c ∈ body, plain c) ∧ (l.cap - xs.length) * k.sz ≤ l.post.length ∧ R = topR l body ++ I ∧
    (inn = true → allZ (Fit k) xs l.els ∧ body = zipC (hdr k) xs l.els ∧ I = zipR (rows k) xs l.els) ∧
    (inn = false → I = [] ∧ ∃ cs : List (List Value), cs.length = xs.length ∧ body = cs.flatten ∧ ∀ i, i < xs.length → RV (g.U w) w k (xs.getD i k.d) (cs.getD i []))
theorem Src.nils (k : K) (inn : Bool) : Src g w k inn ([] : List k.T) (.slice none 0 0) [] :=
  ⟨⟨none, [], [], 0, []⟩, [], [], rfl, Nat.le_refl _, fun _ => rfl, by simp, by simp, by simp, rfl, fun _ => ⟨trivial, rfl, rfl⟩, fun _ => ⟨rfl, [], rfl, rfl, fun i hi => by simp at hi⟩⟩
theorem Src.news {k : K} {inn : Bool} {xs : List k.T} {v : Value} {R R0 : List (Nat × List Value)} (h : Src g w k inn xs v R) (hP : Pool st g w (R0 ++ R)) :
    ∃ xb c body, v = .slice xb xs.length c ∧ News w xb xs.length k.sz body := by
  obtain ⟨l, body, I, e, h1, h2, h3, h4, h5, h6, _⟩ := h
  refine ⟨_, _, body, e, h3, h4, ?_⟩
  cases ha : l.a with
  | none => exact .inl ⟨rfl, by have := h2 ha; omega⟩
  | some b =>
    refine .inr ⟨_, rfl, fun j v hj => ?_⟩
    have hb := (hP.row b (l.pre ++ body ++ l.post) (by rw [h6]; simp [topR, ha])).1
    rw [add_none]
    exact hb.cells j v hj
/-- A root used up. -/
theorem Sim.useRoot (hS : Sim S st g w a) {R0 : List (Nat × List Value)} (hP : Pool st g w R0) {r gen hc : Nat} {rc : RC} {v : Value} (hrc : (st.r r).c = some rc) (hgen : gen = (st.r r).gen) (hh : (st.r r).hole = none) (hr : Rep st g w (.rf r gen hc []) [v]) {rv : RootV}
    (hrv : rv = { (st.r r) with gen := Nat.succ (st.r r).gen, c := none }) :
    Sim S (st.wr r rv) g w a ∧ (∀ v cs, Rep st g w v cs → Rep (st.wr r rv) g w v cs) ∧ (∀ v x, RepV st g w v x → RepV (st.wr r rv) g w v x) ∧ ∃ R, Src g w rc.k rc.inn rc.xs v R ∧ Pool (st.wr r rv) g w (R0 ++ R) := by
  subst hrv
  obtain ⟨s1, s2, s3⟩ := hS.use r (rv := { (st.r r) with gen := Nat.succ (st.r r).gen, c := none }) rfl rfl
  refine ⟨s1, s2, s3, ?_⟩
  have hP' := hP.use r (rv := { (st.r r) with gen := Nat.succ (st.r r).gen, c := none }) rfl
  obtain ⟨_, _, hv⟩ := hr
  obtain ⟨_, _, e⟩ := hv rc ⟨hrc, hgen, .inl (by simp [ix])⟩
  have e := (List.cons.inj (e.trans (show hdr (.sl rc.k) rc.xs (g.lay r (.sl rc.k)) = [Value.slice ((g.lay r (.sl rc.k)).a.map fun b => ⟨b, (g.lay r (.sl rc.k)).pre.length, none⟩) (List.length rc.xs) (g.lay r (.sl rc.k)).cap] from rfl))).1
  have join : ∀ R : List (Nat × List Value), (R.map Prod.fst).Nodup → (∀ b c, (b, c) ∈ R → g.ow b = some (2 * r) ∧ Blk w b c) → Pool (st.wr r { (st.r r) with gen := Nat.succ (st.r r).gen, c := none }) g w (R0 ++ R) := by
    intro R hn hR
    refine ⟨?_, fun b c hb => ?_⟩
    · rw [List.map_append, List.nodup_append]
      refine ⟨hP.nodup, hn, fun b hb b' hb' => ?_⟩
      rintro rfl
      obtain ⟨⟨b1, c1⟩, hm, e1⟩ := List.mem_map.1 hb
      obtain ⟨⟨b2, c2⟩, hm', e2⟩ := List.mem_map.1 hb'
      have e1 : b1 = b := e1
      have e2 : b2 = b := e2
      subst e1 e2
      obtain ⟨_, r', ho, hc'⟩ := hP.row _ _ hm
      obtain ⟨ho', _⟩ := hR _ _ hm'
      rw [ho] at ho'
      have : r' = r := by have := Option.some.inj ho'; omega
      subst this
      rw [hrc] at hc'; cases hc'
    · rcases List.mem_append.1 hb with hb | hb
      · exact hP'.row b c hb
      · obtain ⟨h6, h7⟩ := hR b c hb
        exact ⟨h7, r, h6, by rw [St.r_wr, if_pos rfl]⟩
  have hR := hS.root r rc hrc
  by_cases hinn : rc.inn = true
  · rw [if_pos hinn] at hR
    obtain ⟨f1, f2, f3, f4⟩ := hR
    have hlen := allZ_length f1.1
    refine ⟨rows (.sl rc.k) rc.xs (g.lay r (.sl rc.k)), ⟨g.lay r (.sl rc.k), zipC (hdr rc.k) rc.xs (g.lay r (.sl rc.k)).els, zipR (rows rc.k) rc.xs (g.lay r (.sl rc.k)).els, e, f1.2.1, fun ha => (f1.2.2.2 ha).1, zipC_length _ _ hlen, zipC_plain _ _, f1.2.2.1, ?_,
      fun _ => ⟨f1.1, rfl, rfl⟩, fun h => by rw [hinn] at h; cases h⟩, join _ f2 fun b c hb => f3 b c hb (by rw [hh]; exact fun h => h)⟩
    simp only [rows, row0, topR]
    cases (g.lay r (.sl rc.k)).a <;> rfl
  · rw [if_neg hinn] at hR
    obtain ⟨f1, f2, f3, f4⟩ := hR
    cases ha : (g.lay r (.sl rc.k)).a with
    | none =>
      have h0 := f3 ha
      have hx : rc.xs = [] := List.eq_nil_of_length_eq_zero (by omega)
      refine ⟨[], ⟨⟨none, [], [], 0, []⟩, [], [], ?_, ?_, fun _ => rfl, ?_, by simp, by simp, rfl, fun h => absurd h hinn, fun _ => ⟨rfl, [], ?_, rfl, fun i hi => ?_⟩⟩, by simpa using hP'⟩
      · rw [e, ha, h0]; rfl
      · rw [hx]; exact Nat.le_refl _
      · rw [hx]; simp
      · rw [hx]; rfl
      · rw [hx] at hi; simp at hi
    | some b =>
      obtain ⟨g1, cs, g2, g3, g4, g5⟩ := f4 b ha
      refine ⟨[(b, (g.lay r (.sl rc.k)).pre ++ cs.flatten ++ (g.lay r (.sl rc.k)).post)], ⟨g.lay r (.sl rc.k), cs.flatten, [], e, f2, f3, ?_, flatten_plain g2 g5, g4, by simp [topR, ha], fun h => absurd h hinn, fun _ => ⟨rfl, cs, g2, rfl, g5⟩⟩, join _ (by simp) fun b' c hb => ?_⟩
      · rw [flatten_length cs (fun i hi => (g5 i (by omega)).length), g2]
      · simp at hb
        obtain ⟨rfl, rfl⟩ := hb
        exact ⟨g1, by simpa using g3⟩
end
end Go.Am
namespace Go.Am
/-- What a list of elements is made of: owned, or seen. -/
def Els (g : Gh) (w : World) (k : K) (inn : Bool) (xs : List k.T) (body : List Value) (I : List (Nat × List Value)) : Prop :=
  (inn = true → ∃ els, allZ (Fit k) xs els ∧ body = zipC (hdr k) xs els ∧ I = zipR (rows k) xs els) ∧
  (inn = false → I = [] ∧ ∃ cs : List (List Value), cs.length = xs.length ∧ body = cs.flatten ∧ ∀ i, i < xs.length → RV (g.U w) w k (xs.getD i k.d) (cs.getD i []))
theorem flat_els {k : K} (hk : k.flat = true) : ∀ (xs : List k.T), allZ (Fit k) xs (List.replicate xs.length k.dl) ∧ zipR (rows k) xs (List.replicate xs.length k.dl) = []
  | [] => ⟨trivial, rfl⟩
  | x :: xs => by
    obtain ⟨h1, h2⟩ := flat_els hk xs
    simp only [List.length_cons, List.replicate_succ, allZ, zipR, rows_flat hk, h2, List.append_nil, Fit_flat hk, h1, and_self]
theorem flat_rows {k : K} (hk : k.flat = true) : ∀ (xs : List k.T) (ls : List k.L), zipR (rows k) xs ls = []
  | [], _ => rfl
  | _ :: _, [] => rfl
  | x :: xs, l :: ls => by simp only [zipR, rows_flat hk, flat_rows hk xs ls, List.append_nil]
theorem flat_cells {k : K} (hk : k.flat = true) {U : Nat → Prop} {w : World} : ∀ (xs : List k.T) (cs : List (List Value)), cs.length = xs.length → (∀ i, i < xs.length → RV U w k (xs.getD i k.d) (cs.getD i [])) →
    cs.flatten = zipC (hdr k) xs (List.replicate xs.length k.dl)
  | [], [], _, _ => rfl
  | x :: xs, c :: cs, h, hr => by
    have h0 := hr 0 (by simp)
    have h0 : RV U w k x c := by simpa using h0
    have e0 := h0.flat hk k.dl
    simp only [List.flatten_cons, List.length_cons, List.replicate_succ, zipC]
    rw [← e0, flat_cells hk xs cs (by simpa using h) (fun i hi => by simpa using hr (i + 1) (by simpa using hi))]
  | [], _ :: _, h, _ => by simp at h
  | _ :: _, [], h, _ => by simp at h
theorem Els.flat {g : Gh} {w : World} {k : K} {inn : Bool} {xs : List k.T} {body : List Value} {I : List (Nat × List Value)} (hk : k.flat = true) (h : Els g w k inn xs body I) :
    ∃ els, allZ (Fit k) xs els ∧ body = zipC (hdr k) xs els ∧ zipR (rows k) xs els = [] := by
  cases inn with
  | true =>
    obtain ⟨els, h1, h2, _⟩ := h.1 rfl
    exact ⟨els, h1, h2, flat_rows hk _ _⟩
  | false =>
    obtain ⟨_, cs, h1, h2, h3⟩ := h.2 rfl
    exact ⟨_, (flat_els hk xs).1, by rw [h2, flat_cells hk xs cs h1 h3], (flat_els hk xs).2⟩
section
variable {P : Program} {E : Env} {S : Start} {st st' : St} {g g' : Gh} {w w' : World} {a : Act} {Q : St → Prop} {gd : Gd} {o : Oper} {Qx : Exit → Act → World → Prop}
theorem Sim.newRootF (hS : Sim S st g w a) {R : List (Nat × List Value)} (hP : Pool st g w R) (id : Nat) {k : K} {xs : List k.T} {l : (K.sl k).L} {cs : List (List Value)} (hcs : cs.length = xs.length) (hl : xs.length ≤ l.cap) (hn : l.a = none → l.cap = 0)
    (hb : ∀ b, l.a = some b → Blk w' b (l.pre ++ cs.flatten ++ l.post) ∧ (b ∈ R.map Prod.fst ∨ w.heap.size ≤ b) ∧ (l.cap - xs.length) * k.sz ≤ l.post.length)
    (hrv : ∀ i, i < xs.length → RV (g.U w) w k (xs.getD i k.d) (cs.getD i [])) (hw : ∀ b, b < w.heap.size → b ∉ R.map Prod.fst → w'.heap[b]? = w.heap[b]?)
    (hos : w'.os = w.os) (ht : w'.tape = w.tape) (hout : w'.output = w.output) (hg : w.heap.size ≤ w'.heap.size) :
    ∃ g', Sim S (st.wr id ⟨Nat.succ (st.r id).gen, 0, some ⟨k, xs, false⟩, none⟩) g' w' a ∧ (∀ v cs, Rep st g w v cs → Rep (st.wr id ⟨Nat.succ (st.r id).gen, 0, some ⟨k, xs, false⟩, none⟩) g' w' v cs) ∧
      (∀ v x, RepV st g w v x → RepV (st.wr id ⟨Nat.succ (st.r id).gen, 0, some ⟨k, xs, false⟩, none⟩) g' w' v x) ∧
      Rep (st.wr id ⟨Nat.succ (st.r id).gen, 0, some ⟨k, xs, false⟩, none⟩) g' w' (.rf id (Nat.succ (st.r id).gen) 0 []) (hdr (.sl k) xs l) := by
  have hR : ∀ b, b ∈ R.map Prod.fst → ∃ r, g.ow b = some (2 * r) := by
    intro b hb
    obtain ⟨⟨b1, c1⟩, hm, e1⟩ := List.mem_map.1 hb
    have e1 : b1 = b := e1
    subst e1
    obtain ⟨r, h1, _⟩ := (hP.row _ _ hm).2
    exact ⟨r, h1⟩
  have key := hS.setRoot (w' := w') hP (id := id) (rv := ⟨Nat.succ (st.r id).gen, 0, some ⟨k, xs, false⟩, none⟩) (k := .sl k) (l := l) (bs := l.a.toList)
    (fun b h1 h2 _ => hw b h1 h2)
    (fun b h => by
      have h : l.a = some b := by simpa using h
      obtain ⟨h1, h2, _⟩ := hb b h
      exact ⟨h2.imp (fun h => h) .inr, h1.lt⟩)
    (.inl (Nat.lt_succ_self _))
    (fun rc hrc => by
      have e : rc = ⟨k, xs, false⟩ := (Option.some.inj hrc).symm
      subst e
      rw [if_neg (by simp)]
      rw [show ((g.own (2 * id) l.a.toList).setL id (.sl k) l).lay id (.sl k) = l from Gh.lay_same ..]
      refine ⟨rfl, hl, hn, fun b h => ?_⟩
      obtain ⟨h1, h2, h3⟩ := hb b h
      refine ⟨Gh.own_in g (by rw [h]; simp), cs, hcs, h1, h3, fun i hi => (hrv i hi).mono fun d hd => ?_⟩
      have hd1 : d ∉ R.map Prod.fst := fun hm => by obtain ⟨r, h⟩ := hR d hm; rw [hd.2] at h; cases h
      have hd2 : d ∉ l.a.toList := fun hm => by
        have e : l.a = some d := by simpa using hm
        rw [e] at h
        have e : d = b := Option.some.inj h
        subst e
        rcases h2 with h2 | h2
        · exact hd1 h2
        · have := hd.1; omega
      exact ⟨⟨Nat.lt_of_lt_of_le hd.1 hg, (Gh.own_out g hd2).trans hd.2⟩, hw d hd.1 hd1⟩)
    hos ht hout hg
  refine ⟨_, key.1, key.2.1, key.2.2, ⟨_, _, _, rfl⟩, ?_, fun rc hv => ?_⟩
  · rw [St.r_wr, if_pos rfl]; exact ⟨Nat.le_refl _, fun _ => Nat.le_refl _⟩
  · have e : rc = ⟨k, xs, false⟩ := by
      have := hv.1
      rw [St.r_wr, if_pos rfl] at this
      exact (Option.some.inj this).symm
    subst e
    refine ⟨trivial, ⟨_, rfl⟩, ?_⟩
    show _ = hdr (.sl k) xs (((g.own (2 * id) l.a.toList).setL id (.sl k) l).lay id (.sl k))
    rw [Gh.lay_same]
/-- The machine's append, all cases at once. -/
theorem append_all {t t' e e' : TypeId} (T : TabOk P E) (he : E.tab t = .slice e) (he' : E.tab t' = .slice e') (ty : TypeId) {R0 R I : List (Nat × List Value)} {k : K} {l : (K.sl k).L} {n m c : Nat} {body news : List Value} {xb : Option Addr}
    (hP : Pool st g w R0) (hsz : k.sz = (kind E.tab e).sz) (hsub : ∀ y, y ∈ R → y ∈ R0) (hR : R = topR l body ++ I) (hcap : n ≤ l.cap) (hnone : l.a = none → l.cap = 0) (hbl : body.length = n * k.sz) (hbp : ∀ c ∈ body, plain c) (hpost : (l.cap - n) * k.sz ≤ l.post.length)
    (hn : News w xb m k.sz news) (hb : (n + m) * E.bytes e ≤ 140737488355328) :
    ∃ (l' : (K.sl k).L) (w' : World), (Builtin.append_ #[t, t'] ty #[.slice (l.a.map fun b => ⟨b, l.pre.length, none⟩) n l.cap, .slice xb m c]).run P w = .ok (.slice (l'.a.map fun b => ⟨b, l'.pre.length, none⟩) (n + m) l'.cap) w' ∧
      n + m ≤ l'.cap ∧ (l'.a = none → l'.cap = 0 ∧ l'.pre = [] ∧ body ++ news = []) ∧ (l'.cap - (n + m)) * k.sz ≤ l'.post.length ∧
      (∀ b, l'.a = some b → Blk w' b (l'.pre ++ (body ++ news) ++ l'.post) ∧ (b ∈ (topR l body).map Prod.fst ∨ w.heap.size ≤ b)) ∧
      (∀ b, b < w.heap.size → b ∉ (topR l body).map Prod.fst → w'.heap[b]? = w.heap[b]?) ∧ w'.os = w.os ∧ w'.tape = w.tape ∧ w'.output = w.output ∧ w.heap.size ≤ w'.heap.size := by
  have hn' : News w xb m (kind E.tab e).sz news := hsz ▸ hn
  by_cases hr : n + m ≤ l.cap
  · cases ha : l.a with
    | none =>
      have h0 := hnone ha
      have hn0 : n = 0 := by omega
      have hm0 : m = 0 := by omega
      subst hn0 hm0
      have hrun := append_none (P := P) T he he' ty (c := c) hn'
      refine ⟨⟨none, [], [], 0, []⟩, w, by simpa [h0] using hrun, Nat.le_refl _, fun _ => ⟨rfl, rfl, ?_⟩, (by simp), fun b hb => (by cases hb), fun _ _ _ => rfl, rfl, rfl, rfl, Nat.le_refl _⟩
      have h1 : body = [] := by simpa using hbl
      have h2 : news = [] := by simpa using hn.1
      rw [h1, h2]; rfl
    | some b =>
      have hblk : Blk w b (l.pre ++ body ++ l.post) := (hP.row b _ (hsub _ (by rw [hR]; simp [topR, ha]))).1
      have hrun := append_room (P := P) T he he' ty (c := c) hblk (by rw [hbl, hsz]) hn' hr (by rw [← hsz]; exact hpost)
      have hle : news.length ≤ l.post.length := by
        rw [hn.1]
        exact Nat.le_trans (Nat.mul_le_mul_right _ (by omega)) hpost
      refine ⟨⟨some b, l.pre, l.post.drop news.length, l.cap, []⟩, _, hrun, hr, fun h => (by cases h), ?_, fun b' hb' => ?_, fun d hd hd' => setRow_other w _ _ (fun e => hd' (by rw [e]; simp [topR, ha])), rfl, rfl, rfl, by rw [setRow_size]; exact Nat.le_refl _⟩
      · show (l.cap - (n + m)) * k.sz ≤ (l.post.drop news.length).length
        rw [List.length_drop, hn.1]
        have : (l.cap - n) * k.sz = (l.cap - (n + m)) * k.sz + m * k.sz := by rw [← Nat.add_mul]; congr 1; omega
        omega
      · have e : b = b' := Option.some.inj hb'
        subst e
        refine ⟨?_, .inl (by simp [topR, ha])⟩
        have := setRow_blk hblk (l.pre ++ body ++ news ++ l.post.drop news.length)
        simpa [List.append_assoc] using this
  · have hold : News w (l.a.map fun b => ⟨b, l.pre.length, none⟩) n (kind E.tab e).sz body := by
      refine ⟨by rw [hbl, hsz], hbp, ?_⟩
      cases ha : l.a with
      | none => exact .inl ⟨rfl, by have := hnone ha; omega⟩
      | some b =>
        refine .inr ⟨_, rfl, fun j v hj => ?_⟩
        have hblk := (hP.row b (l.pre ++ body ++ l.post) (hsub _ (by rw [hR]; simp [topR, ha]))).1
        rw [add_none]
        exact hblk.cells j v hj
    obtain ⟨cap', rest, h1, h2, h3⟩ := append_grow (P := P) T he he' ty (c := c) (cap := l.cap) hold hn' (by omega) hb
    refine ⟨⟨some w.heap.size, [], rest, cap', []⟩, _, h3, h1, fun h => (by cases h), ?_, fun b hb => ?_, fun d hd _ => ?_, rfl, rfl, rfl, by simp⟩
    · show _ ≤ rest.length
      rw [h2, hsz]; exact Nat.le_refl _
    · have e : w.heap.size = b := Option.some.inj hb
      subst e
      refine ⟨?_, .inr (Nat.le_refl _)⟩
      have := alloc_new w.drew (body ++ news ++ rest) e
      simpa using this
    · have := alloc_old w.drew (.cells (body ++ news ++ rest).toArray e) (b := d) hd
      exact this
end
end Go.Am
namespace Go.Am
section
variable {P : Program} {E : Env} {S : Start} {st st' : St} {g g' : Gh} {w w' : World} {a : Act} {Q : St → Prop} {gd : Gd} {o : Oper} {Qx : Exit → Act → World → Prop}
theorem nils_val {x : Value} (h : RepV st g w .nils x) : x = .slice none 0 0 := by
  have h : [x] = [Value.slice none 0 0] := h
  exact (List.cons.inj h).1
theorem appS_run {e : TypeId} {s : AV} {sv : Value} {c : (k : K) → Bool → List k.T → Prog} (h : (appS E e s c).run st Q) (hS : Sim S st g w a) (hs : RepV st g w s sv) :
    ∃ k inn xs st1 R, (c k inn xs).run st1 Q ∧ Sim S st1 g w a ∧ (∀ v x, RepV st g w v x → RepV st1 g w v x) ∧ Src g w k inn xs sv R ∧ Pool st1 g w R := by
  unfold appS at h
  split at h
  · rw [nils_val hs]
    exact ⟨_, true, [], st, [], h, hS, fun _ _ h => h, Src.nils _ _, Pool.nil⟩
  · rename_i r gen hc
    have h : (live gen (st.r r) fun rc => .wrR r { (st.r r) with gen := Nat.succ (st.r r).gen, c := none } (c rc.k rc.inn rc.xs)).run st Q := h
    obtain ⟨rc, h1, h2, h3, h4⟩ := live_run h
    obtain ⟨s1, s2, s3, R, s4, s5⟩ := hS.useRoot Pool.nil h1 h2 h3 (show Rep st g w (.rf r gen hc []) [sv] from hs) rfl
    exact ⟨rc.k, rc.inn, rc.xs, _, R, h4, s1, s3, s4, by simpa using s5⟩
  · exact h.elim
/-- What is appended. -/
structure XOk (g : Gh) (w : World) (k k' : K) (inn' : Bool) (ys : List k'.T) (xv : Value) (I : List (Nat × List Value)) (xb : Option Addr) (cc : Nat) (news : List Value) : Prop where
  val : xv = .slice xb ys.length cc
  nws : News w xb ys.length k'.sz news
  flat : k.flat = true → k' = k → ∃ els, allZ (Fit k') ys els ∧ news = zipC (hdr k') ys els
  deep : k.flat = false → Els g w k' inn' ys news I
theorem flat_of_RV {U : Nat → Prop} {k : K} (hk : k.flat = true) {ys : List k.T} {cs : List (List Value)} (h1 : cs.length = ys.length) (h2 : ∀ i, i < ys.length → RV U w k (ys.getD i k.d) (cs.getD i [])) :
    ∃ els, allZ (Fit k) ys els ∧ cs.flatten = zipC (hdr k) ys els :=
  ⟨_, (flat_els hk ys).1, flat_cells hk ys cs h1 h2⟩
theorem appX_run {k : K} {inn : Bool} {x : AV} {xv : Value} {c : (k : K) → Bool → List k.T → Prog} {R0 : List (Nat × List Value)} (h : (appX k inn x c).run st Q) (hS : Sim S st g w a) (hP : Pool st g w R0) (hx : RepV st g w x xv) :
    ∃ k' inn' ys st1 T I xb cc news, (c k' inn' ys).run st1 Q ∧ Sim S st1 g w a ∧ (∀ v x, RepV st g w v x → RepV st1 g w v x) ∧ XOk g w k k' inn' ys xv I xb cc news ∧ Pool st1 g w (R0 ++ (T ++ I)) := by
  unfold appX at h
  split at h
  · rw [nils_val hx]
    refine ⟨k, inn, [], st, [], [], none, 0, [], h, hS, fun _ _ h => h, ⟨rfl, ⟨by simp, by simp, .inl ⟨rfl, rfl⟩⟩, fun _ _ => ⟨[], trivial, rfl⟩, fun _ => ⟨fun _ => ⟨[], trivial, rfl, rfl⟩, fun _ => ⟨rfl, [], rfl, rfl, fun i hi => (by simp at hi)⟩⟩⟩, by simpa using hP⟩
  · rename_i k' ys
    obtain ⟨xb, cc, cs, e, h1, h2, h3⟩ := news_of_RV (show RV (g.U w) w (.sl k') ys [xv] from hx)
    refine ⟨k', false, ys, st, [], [], xb, cc, cs.flatten, h, hS, fun _ _ h => h, ⟨e, h2, fun hk e => (by subst e; exact flat_of_RV hk h1 h3), fun _ => ⟨fun h => (by simp at h), fun _ => ⟨rfl, cs, h1, rfl, h3⟩⟩⟩, by simpa using hP⟩
  · rename_i r gen hc p
    have hx' : Rep st g w (.rf r gen hc p) [xv] := hx
    rcases iff'_run h with ⟨hk, h⟩ | ⟨hk, h⟩
    · obtain ⟨rc, k', q1, q2, e, q3⟩ := rdSl_run h
      obtain ⟨p1, _, p3⟩ := hx'.2.2 rc q2
      have hv := root_view hS q1 q2 p1 e
      rw [← p3] at hv
      obtain ⟨xb, cc, cs, e1, h1, h2, h3⟩ := news_of_RV hv
      refine ⟨k', true, _, st, [], [], xb, cc, cs.flatten, q3, hS, fun _ _ h => h, ⟨e1, h2, fun _ e => (by subst e; exact flat_of_RV hk h1 h3), fun h => by rw [hk] at h; cases h⟩, by simpa using hP⟩
    · split at h
      · have h : (live gen (st.r r) fun rc => .wrR r { (st.r r) with gen := Nat.succ (st.r r).gen, c := none } (c rc.k rc.inn rc.xs)).run st Q := h
        obtain ⟨rc, h1, h2, h3, h4⟩ := live_run h
        obtain ⟨s1, s2, s3, R, s4, s5⟩ := hS.useRoot hP h1 h2 h3 hx' rfl
        obtain ⟨xb, cc, body, e1, h5⟩ := s4.news s5
        obtain ⟨l, body', I, e2, _, _, _, _, _, e3, g1, g2⟩ := s4
        have hnews : News w (l.a.map fun b => ⟨b, l.pre.length, none⟩) rc.xs.length rc.k.sz body' := by
          refine ⟨by assumption, by assumption, ?_⟩
          cases ha : l.a with
          | none =>
            refine .inl ⟨rfl, ?_⟩
            rename_i q1 q2 _ _ _
            have := q2 ha; omega
          | some b =>
            refine .inr ⟨_, rfl, fun j v hj => ?_⟩
            have hb := (s5.row b (l.pre ++ body' ++ l.post) (by rw [e3]; simp [topR, ha])).1
            rw [add_none]
            exact hb.cells j v hj
        refine ⟨rc.k, rc.inn, rc.xs, _, topR l body', I, _, _, body', h4, s1, s3, ⟨e2, hnews, fun h => (by rw [hk] at h; cases h), fun _ => ⟨fun hi => (by obtain ⟨a1, a2, a3⟩ := g1 hi; exact ⟨_, a1, a2, a3⟩), g2⟩⟩, by rw [← e3]; exact s5⟩
      · exact h.elim
  · rename_i r gen hc p lo hi
    have hx' : Rep st g w (.cut r gen hc p lo hi) [xv] := hx
    obtain ⟨hk, h⟩ := iff'_fail h
    obtain ⟨rc, k', q1, q2, e, q3⟩ := rdSl_run h
    obtain ⟨p1, k'', e', hlo, hhi, A, n, cap, p4, p5⟩ := hx'.2.2 rc q2
    have ek : k'' = k' := by rw [e] at e'; cases e'; rfl
    subst ek
    have hv := root_view hS q1 q2 p1 e
    rw [p4] at hv
    have hv := hv.cut hlo hhi
    rw [← p5] at hv
    obtain ⟨xb, cc, cs, e1, h1, h2, h3⟩ := news_of_RV hv
    refine ⟨k'', true, _, st, [], [], xb, cc, cs.flatten, q3, hS, fun _ _ h => h, ⟨e1, h2, fun _ e => (by subst e; exact flat_of_RV hk h1 h3), fun h => by rw [hk] at h; cases h⟩, by simpa using hP⟩
  · exact h.elim
theorem Src.els {k : K} {inn : Bool} {xs : List k.T} {v : Value} {R : List (Nat × List Value)} (h : Src g w k inn xs v R) :
    ∃ (l : (K.sl k).L) (body : List Value) (I : List (Nat × List Value)), v = .slice (l.a.map fun b => ⟨b, l.pre.length, none⟩) xs.length l.cap ∧ xs.length ≤ l.cap ∧ (l.a = none → l.cap = 0) ∧ body.length = xs.length * k.sz ∧
    (∀ c ∈ body, plain c) ∧ (l.cap - xs.length) * k.sz ≤ l.post.length ∧ R = topR l body ++ I ∧ Els g w k inn xs body I := by
  obtain ⟨l, body, I, e2, q1, q2, q3, q4, q5, e3, g1, g2⟩ := h
  refine ⟨l, body, I, e2, q1, q2, q3, q4, q5, e3, fun h => ?_, g2⟩
  obtain ⟨h1, h2, h3⟩ := g1 h
  exact ⟨_, h1, h2, h3⟩
theorem nilP_eq {α : Type} {xs : List α} (h : nilP xs = true) : xs = [] := by cases xs <;> first | rfl | simp [nilP] at h
theorem op_append {c : Call} (T : TabOk P E) (ho : o.op = .call c) (hc : c.callee = .builtin .append) (h : (opP E gd o).run st Q) (hg : GOk gd) (hS : Sim S st g w a) (hb : inB S.n o.dst) : o.wp P a w (Good S Q) Qx := by
  unfold opP at h; rw [ho] at h
  simp only [hc] at h
  split at h
  · rename_i d hd
    obtain ⟨vs, h1, h2⟩ := evs_run h hg hS
    have h1 := args_of h1
    split at h2
    · rename_i s x t t' et _
      split at h2
      · rename_i e' he'
        obtain ⟨sv, xv, ex, hs, hx⟩ := two_of h1
        unfold appP at h2
        split at h2
        · rename_i e he
          obtain ⟨k, inn, xs, st1, R, h3, s1, s2, s3, s4⟩ := appS_run h2 hS hs
          obtain ⟨k', inn', ys, st2, T2, I2, xb, cc, news, h5, t1, t2, t3, t4⟩ := appX_run h3 s1 s4 (s2 _ _ hx)
          unfold appJ at h5
          split at h5
          · exact h5.elim
          · rename_i hk _
            have hk : k' = k := hk
            subst hk
            rcases iff'_run h5 with ⟨_, h5⟩ | ⟨hsz, h5⟩
            · exact h5.elim
            obtain ⟨hbnd, h6⟩ := h5
            have hsz : k'.sz = (kind E.tab e).sz := by
              have := notB_true.1 (show notB (notB (Nat.beq k'.sz (kind E.tab e).sz)) = true by rw [hsz]; rfl)
              revert this; cases hh : Nat.beq k'.sz (kind E.tab e).sz
              · simp [notB]
              · intro _; exact Nat.eq_of_beq_eq_true hh
            obtain ⟨l, body, I, q1, q2, q3, q4, q5, q6, q7, q8⟩ := s3.els
            obtain ⟨l', w', hrun, r1, r2, r3, r4, r5, r6, r7, r8, r9⟩ := append_all (P := P) T he he' o.type t4 hsz (fun y hy => List.mem_append_left _ hy) q7 q2 q3 q4 q5 q6 t3.nws hbnd
            have hargs : c.argTypes = #[t, t'] := by
              have : c.argTypes.toList = [t, t'] := et
              exact Array.ext' (by simpa using this)
            have hexec : (execOp a.eval o).run P w = .ok (.value (.slice (l'.a.map fun b => ⟨b, l'.pre.length, none⟩) (xs.length + ys.length) l'.cap)) w' := by
              refine exec_builtin ho hc (fun _ _ _ _ => rfl) ?_
              rw [ex, hargs, q1, t3.val]
              exact hrun
            have hout : ∀ b, b < w.heap.size → b ∉ (R ++ (T2 ++ I2)).map Prod.fst → w'.heap[b]? = w.heap[b]? := fun b hb hn => r5 b hb (fun hm => hn (by rw [q7]; simp only [List.map_append, List.mem_append] at hm ⊢; exact .inl (.inl hm)))
            have htop : ∀ b, l'.a = some b → b ∈ (R ++ (T2 ++ I2)).map Prod.fst ∨ w.heap.size ≤ b := fun b hb => (r4 b hb).2.imp (fun hm => by rw [q7]; simp only [List.map_append, List.mem_append] at hm ⊢; exact .inl (.inl hm)) id
            have hlen : (List.append xs ys).length = xs.length + ys.length := List.length_append ..
            refine wp_val hexec ?_
            rw [hd]
            -- the whole is owned
            have owned : ∀ els els' : List k'.L, allZ (Fit k') xs els → allZ (Fit k') ys els' → body = zipC (hdr k') xs els → news = zipC (hdr k') ys els' →
                (∀ y, y ∈ zipR (rows k') xs els ++ zipR (rows k') ys els' → y ∈ I ∨ y ∈ I2) → ((zipR (rows k') xs els ++ zipR (rows k') ys els').map Prod.fst).Nodup →
                (∀ b, b ∈ (zipR (rows k') xs els ++ zipR (rows k') ys els').map Prod.fst → b ∉ (topR l body).map Prod.fst) →
                (newR (rid d 0) k' (List.append xs ys) true fun v => .wrS d v .ret).run st2 Q → Good S Q (a.put (some d) (.slice (l'.a.map fun b => ⟨b, l'.pre.length, none⟩) (xs.length + ys.length) l'.cap)) w' := by
              intro els els' f1 f2 e1 e2 hin hnd htp hq
              have hz := allZ_length f1
              have hfit : Fit (.sl k') (List.append xs ys) (⟨l'.a, l'.pre, l'.post, l'.cap, els ++ els'⟩ : SL k'.L) :=
                ⟨allZ_append f1 f2, (by rw [hlen]; exact r1), (by rw [hlen]; exact r3), fun h => ⟨(r2 h).1, (r2 h).2.1⟩⟩
              have hrows : rows (.sl k') (List.append xs ys) (⟨l'.a, l'.pre, l'.post, l'.cap, els ++ els'⟩ : SL k'.L) = topR (k := k') l' (body ++ news) ++ (zipR (rows k') xs els ++ zipR (rows k') ys els') := by
                simp only [rows, row0, topR]
                rw [show List.append xs ys = xs ++ ys from rfl, zipC_append _ _ _ _ hz, zipR_append _ _ _ _ hz, e1, e2]
                cases l'.a <;> rfl
              have hlt : ∀ y, y ∈ I ∨ y ∈ I2 → y ∈ R ++ (T2 ++ I2) := fun y hy => by
                rw [q7]; simp only [List.mem_append]; rcases hy with hy | hy
                · exact .inl (.inr hy)
                · exact .inr (.inr hy)
              obtain ⟨g', u1, u2, u3, u4⟩ := t1.newRoot (w' := w') t4 (rid d 0) hfit (by
                  rw [hrows, List.map_append, List.nodup_append]
                  refine ⟨?_, hnd, fun b hb b' hb' e => ?_⟩
                  · cases hl : l'.a <;> simp [topR, hl]
                  · subst e
                    cases hl : l'.a with
                    | none => simp [topR, hl] at hb
                    | some b0 =>
                      have eb : b = b0 := by simpa [topR, hl] using hb
                      subst eb
                      rcases (r4 b hl).2 with hm | hm
                      · exact htp b hb' hm
                      · obtain ⟨y, hy, ey⟩ := List.mem_map.1 hb'
                        have := (t4.row y.1 y.2 (hlt y (hin y hy))).1.lt
                        omega)
                (fun b cc' hb => by
                  rw [hrows] at hb
                  rcases List.mem_append.1 hb with hb | hb
                  · cases hl : l'.a with
                    | none => simp [topR, hl] at hb
                    | some b0 =>
                      have eb : b = b0 ∧ cc' = l'.pre ++ (body ++ news) ++ l'.post := by simpa [topR, hl] using hb
                      obtain ⟨rfl, rfl⟩ := eb
                      exact ⟨(r4 b hl).1, htop b hl⟩
                  · have hm := hlt _ (hin _ hb)
                    have hb1 : b ∉ (topR l body).map Prod.fst := htp b (List.mem_map_of_mem (f := Prod.fst) hb)
                    have hblk := (t4.row b cc' hm).1
                    exact ⟨hblk.same (r5 b hblk.lt hb1), .inl (List.mem_map_of_mem (f := Prod.fst) hm)⟩)
                hout r6 r7 r8 r9
              have hu : hdr (.sl k') (List.append xs ys) (⟨l'.a, l'.pre, l'.post, l'.cap, els ++ els'⟩ : SL k'.L) = [.slice (l'.a.map fun b => ⟨b, l'.pre.length, none⟩) (xs.length + ys.length) l'.cap] := by
                simp only [hdr]; rw [hlen]
              rw [hu] at u4
              exact ⟨_, g', hq, u1.put (hb d hd) (v := .rf (rid d 0) (Nat.succ (st2.r (rid d 0)).gen) 0 []) u4⟩
            have nodupR : ((topR l body ++ I).map Prod.fst).Nodup ∧ (I2.map Prod.fst).Nodup ∧ ∀ b, b ∈ I2.map Prod.fst → b ∉ (topR l body ++ I).map Prod.fst := by
              have := t4.nodup
              rw [q7] at this
              simp only [List.map_append, List.nodup_append, List.mem_append] at this ⊢
              obtain ⟨n1, ⟨n2, n3, n4⟩, n5⟩ := this
              exact ⟨n1, n3, fun b hb hm => n5 b hm b (.inr hb) rfl⟩
            rcases iff'_run h6 with ⟨hc1, h7⟩ | ⟨hc1, h7⟩
            · by_cases hk : k'.flat = true
              · obtain ⟨els, f1, f2, f3⟩ := q8.flat hk
                obtain ⟨els', f4, f5⟩ := t3.flat hk rfl
                refine owned els els' f1 f4 f2 f5 ?_ ?_ ?_ h7
                · rw [f3, flat_rows hk]; simp
                · rw [f3, flat_rows hk]; simp
                · rw [f3, flat_rows hk]; simp
              · have hk : k'.flat = false := by simpa using hk
                have hc2 := (orB_true.1 hc1).resolve_left (by rw [hk]; simp)
                obtain ⟨i1, i2⟩ := andB_true.1 hc2
                obtain ⟨els, f1, f2, f3⟩ := q8.1 i1
                obtain ⟨els', f4, f5, f6⟩ := (t3.deep hk).1 i2
                refine owned els els' f1 f4 f2 f5 ?_ ?_ ?_ h7
                · rw [← f3, ← f6]; simp
                · rw [← f3, ← f6, List.map_append, List.nodup_append]
                  obtain ⟨n1, n2, n3⟩ := nodupR
                  refine ⟨?_, n2, fun b hb b' hb' e => ?_⟩
                  · rw [List.map_append, List.nodup_append] at n1; exact n1.2.1
                  · subst e
                    exact n3 b hb' (by rw [List.map_append]; exact List.mem_append_right _ hb)
                · rw [← f3, ← f6]
                  obtain ⟨n1, n2, n3⟩ := nodupR
                  intro b hb hm
                  rw [List.map_append] at hb
                  rcases List.mem_append.1 hb with hb | hb
                  · rw [List.map_append, List.nodup_append] at n1
                    exact n1.2.2 b hm b hb rfl
                  · exact n3 b hb (by rw [List.map_append]; exact List.mem_append_left _ hm)
            · obtain ⟨hc2, h8⟩ := iff'_fail h7
              obtain ⟨i1, i2⟩ := andB_true.1 hc2
              have i1 := notB_true.1 i1
              have hk : k'.flat = false := by
                revert hc1; cases k'.flat <;> simp [orB]
              obtain ⟨_, cs', j1, j2, j3⟩ := (t3.deep hk).2 i1
              obtain ⟨cs, j4, j5, j6⟩ : ∃ cs : List (List Value), cs.length = xs.length ∧ body = cs.flatten ∧ ∀ i, i < xs.length → RV (g.U w) w k' (xs.getD i k'.d) (cs.getD i []) := by
                rcases (orB_true.1 i2).symm with i2 | i2
                · have := nilP_eq i2
                  subst this
                  exact ⟨[], rfl, by simpa using q4, fun i hi => (by simp at hi)⟩
                · obtain ⟨_, cs, j1, j2, j3⟩ := q8.2 (notB_true.1 i2)
                  exact ⟨cs, j1, j2, j3⟩
              obtain ⟨g', u1, u2, u3, u4⟩ := t1.newRootF (w' := w') t4 (rid d 0) (k := k') (xs := List.append xs ys) (l := (⟨l'.a, l'.pre, l'.post, l'.cap, []⟩ : SL k'.L)) (cs := cs ++ cs')
                (by rw [hlen, List.length_append, j4, j1]) (by rw [hlen]; exact r1) (fun h => (r2 h).1)
                (fun b hb => ⟨by have := (r4 b hb).1; rw [j5, j2] at this; rw [List.flatten_append]; exact this, htop b hb, by rw [hlen]; exact r3⟩)
                (fun i hi => by
                  rw [hlen] at hi
                  rw [show List.append xs ys = xs ++ ys from rfl]
                  by_cases hl : i < xs.length
                  · have := j6 i hl
                    simp only [List.getD_eq_getElem?_getD] at this ⊢
                    rw [List.getElem?_append_left hl, List.getElem?_append_left (by omega)]
                    exact this
                  · have := j3 (i - xs.length) (by omega)
                    simp only [List.getD_eq_getElem?_getD] at this ⊢
                    rw [List.getElem?_append_right (by omega), List.getElem?_append_right (by omega), j4]
                    exact this)
                hout r6 r7 r8 r9
              have hu : hdr (.sl k') (List.append xs ys) (⟨l'.a, l'.pre, l'.post, l'.cap, []⟩ : SL k'.L) = [.slice (l'.a.map fun b => ⟨b, l'.pre.length, none⟩) (xs.length + ys.length) l'.cap] := by
                simp only [hdr]; rw [hlen]
              rw [hu] at u4
              exact ⟨_, g', h8, u1.put (hb d hd) (v := .rf (rid d 0) (Nat.succ (st2.r (rid d 0)).gen) 0 []) u4⟩
        · exact h2.elim
      · exact h2.elim
    · exact h2.elim
  · exact h.elim
end
end Go.Am
namespace Go.Am
def inner (rc : RC) (l : (K.sl rc.k).L) : List (Nat × List Value) := zipR (rows rc.k) rc.xs l.els
theorem rows_sub {k : K} {p : Pth} {x : k.T} {l : k.L} (hf : Fit k x l) (hp : Okp k p x) : (rows (k.at p) (k.get p x) (k.getL p l)).Sublist (rows k x l) := by
  rcases Nat.eq_zero_or_pos (ix p) with h0 | h0
  · obtain ⟨A, B, h1, _⟩ := rows_shallow (x := x) (l := l) hp h0
    rw [h1]
    exact List.Sublist.trans (List.sublist_append_right ..) (List.sublist_append_left ..)
  · obtain ⟨A, b, c1, c2, R, B, h1, _, _⟩ := rows_deep hf hp h0 none
    rw [h1]
    exact List.Sublist.trans (List.Sublist.trans (List.sublist_append_right ..) (List.sublist_append_left ..)) (List.Sublist.trans (List.sublist_cons_self ..) (List.sublist_append_right ..))
theorem inner_sub {rc : RC} {l : (K.sl rc.k).L} {p : Pth} (hf : Fit (.sl rc.k) rc.xs l) (hp : Okp (.sl rc.k) p rc.xs) (h0 : p ≠ []) : (rows _ ((K.sl rc.k).get p rc.xs) ((K.sl rc.k).getL p l)).Sublist (inner rc l) := by
  cases p with
  | nil => exact absurd rfl h0
  | cons q p => cases q with
    | i n =>
      have hn : n < List.length rc.xs := hp.1
      obtain ⟨A, B, h1, _⟩ := zipR_split rc.k.d rc.k.dl rc.xs l.els n (allZ_length hf.1) hn
      unfold inner
      rw [h1]
      have h2 := rows_sub (k := rc.k) (p := p) (x := List.getD rc.xs n rc.k.d) (l := List.getD l.els n rc.k.dl) (allZ_get hf.1 n _ _ hn) hp.2
      exact List.Sublist.trans h2 (List.Sublist.trans (List.sublist_append_right ..) (List.sublist_append_left ..))
    | f => exact hp.1.elim
    | sn => exact hp.1.elim
section
variable {P : Program} {E : Env} {S : Start} {st st' : St} {g g' : Gh} {w w' : World} {a : Act} {Q : St → Prop} {gd : Gd} {o : Oper} {Qx : Exit → Act → World → Prop}
/-- Rows that nobody holds are let go for good. -/
theorem Sim.letgo (hS : Sim S st g w a) {R : List (Nat × List Value)} (hP : Pool st g w R) :
    ∃ g', Sim S st g' w a ∧ (∀ v cs, Rep st g w v cs → Rep st g' w v cs) ∧ (∀ v x, RepV st g w v x → RepV st g' w v x) ∧ (∀ b, g.U w b → g'.U w b) ∧ (∀ b, b ∈ R.map Prod.fst → g'.U w b) ∧ g'.lay = g.lay ∧ g'.bx = g.bx ∧ ∀ b, b ∉ R.map Prod.fst → g'.ow b = g.ow b := by
  have hR : ∀ b, b ∈ R.map Prod.fst → b < w.heap.size ∧ ∃ r, g.ow b = some (2 * r) ∧ (st.r r).c = none := by
    intro b hb
    obtain ⟨⟨b1, c1⟩, hm, e1⟩ := List.mem_map.1 hb
    have e1 : b1 = b := e1
    subst e1
    exact ⟨(hP.row _ _ hm).1.lt, (hP.row _ _ hm).2⟩
  have hout : ∀ b, b ∉ R.map Prod.fst → (if b ∈ R.map Prod.fst then none else g.ow b) = g.ow b := fun b hb => if_neg hb
  have hU : ∀ b, g.U w b → (if b ∈ R.map Prod.fst then none else g.ow b) = none := fun b hb => by
    by_cases hm : b ∈ R.map Prod.fst
    · rw [if_pos hm]
    · rw [if_neg hm]; exact hb.2
  have key := hS.next (st' := st) (g' := { g with ow := fun b => if b ∈ R.map Prod.fst then none else g.ow b }) (w' := w) (fun t => rfl) (fun b hb => ⟨⟨hb.1, hU b hb⟩, rfl⟩)
    (fun r => .inl ⟨rfl, rfl, fun b hc hb => ⟨(hout b (fun hm => by
      obtain ⟨_, r', h1, h2⟩ := hR b hm
      rw [hb] at h1
      have : r = r' := by have := Option.some.inj h1; omega
      subst this; exact hc h2)).trans hb, rfl⟩⟩)
    (fun b => .inl ⟨rfl, rfl, fun d hd => ⟨(hout d (fun hm => by
      obtain ⟨_, r', h1, _⟩ := hR d hm
      rw [hd] at h1
      have := Option.some.inj h1; omega)).trans hd, rfl⟩⟩)
    (fun b x hx => by
      have hx : (if b ∈ R.map Prod.fst then none else g.ow b) = some x := hx
      by_cases hm : b ∈ R.map Prod.fst
      · exact (hR b hm).1
      · rw [if_neg hm] at hx; exact hS.own b x hx)
    rfl rfl rfl (Nat.le_refl _)
    (fun d hd => ⟨(hout d (fun hm => by
      obtain ⟨_, r', h1, _⟩ := hR d hm
      rw [hd] at h1
      have := Option.some.inj h1; omega)).trans hd, rfl⟩)
  exact ⟨_, key.1, key.2.1, key.2.2, fun b hb => ⟨hb.1, hU b hb⟩, fun b hb => ⟨(hR b hb).1, if_pos hb⟩, rfl, rfl, hout⟩
/-- The inner rows of a root let go. -/
theorem Sim.frz1 (hS : Sim S st g w a) {r : Nat} {rc : RC} (hrc : (st.r r).c = some rc) (hh : (st.r r).hole = none) :
    ∃ g', Sim S (st.wr r { (st.r r) with c := some { rc with inn := false } }) g' w a ∧ (∀ v cs, Rep st g w v cs → Rep (st.wr r { (st.r r) with c := some { rc with inn := false } }) g' w v cs) ∧
      (∀ v x, RepV st g w v x → RepV (st.wr r { (st.r r) with c := some { rc with inn := false } }) g' w v x) ∧ (∀ b, g.U w b → g'.U w b) ∧ g'.lay = g.lay ∧ (rc.inn = true → ∀ b, b ∈ (inner rc (g.lay r (.sl rc.k))).map Prod.fst → g'.U w b) := by
  have hR := hS.root r rc hrc
  have hstep : RStep (st.r r) { (st.r r) with c := some { rc with inn := false } } (g.lay r) (g.lay r) := .inr ⟨rfl, Nat.le_refl _, fun rc' h => by
    have e : rc' = { rc with inn := false } := (Option.some.inj h).symm
    subst e
    exact ⟨rc.xs, rc.inn, hrc, fun h => (by simp at h), rfl, rfl, rfl, rfl, fun _ h => (by simp at h)⟩⟩
  by_cases hinn : rc.inn = true
  · rw [if_pos hinn] at hR
    obtain ⟨f1, f2, f3, f4⟩ := hR
    have hrow : rows (.sl rc.k) rc.xs (g.lay r (.sl rc.k)) = row0 rc.k rc.xs (g.lay r (.sl rc.k)) ++ inner rc (g.lay r (.sl rc.k)) := rfl
    rw [hrow] at f2 f3
    have f3 : ∀ b c, (b, c) ∈ row0 rc.k rc.xs (g.lay r (.sl rc.k)) ++ inner rc (g.lay r (.sl rc.k)) → g.ow b = some (2 * r) ∧ Blk w b c := fun b c hb => f3 b c hb (by rw [hh]; exact fun h => h)
    have hin : ∀ b, b ∈ (inner rc (g.lay r (.sl rc.k))).map Prod.fst → g.ow b = some (2 * r) ∧ b < w.heap.size := by
      intro b hb
      obtain ⟨⟨b1, c1⟩, hm, e1⟩ := List.mem_map.1 hb
      have e1 : b1 = b := e1
      subst e1
      obtain ⟨h1, h2⟩ := f3 _ _ (List.mem_append_right _ hm)
      exact ⟨h1, h2.lt⟩
    have hout : ∀ b, b ∉ (inner rc (g.lay r (.sl rc.k))).map Prod.fst → (if b ∈ (inner rc (g.lay r (.sl rc.k))).map Prod.fst then none else g.ow b) = g.ow b := fun b hb => if_neg hb
    have hU : ∀ b, g.U w b → (if b ∈ (inner rc (g.lay r (.sl rc.k))).map Prod.fst then none else g.ow b) = none := fun b hb => by
      by_cases hm : b ∈ (inner rc (g.lay r (.sl rc.k))).map Prod.fst
      · rw [if_pos hm]
      · rw [if_neg hm]; exact hb.2
    have hlen := allZ_length f1.1
    have key := hS.next (st' := st.wr r { (st.r r) with c := some { rc with inn := false } }) (g' := { g with ow := fun b => if b ∈ (inner rc (g.lay r (.sl rc.k))).map Prod.fst then none else g.ow b }) (w' := w) (fun t => rfl) (fun b hb => ⟨⟨hb.1, hU b hb⟩, rfl⟩)
      (fun r' => by
        rw [St.r_wr]
        split
        · rename_i e
          subst e
          refine .inr ⟨hstep, fun rc' h => ?_⟩
          have e : rc' = { rc with inn := false } := (Option.some.inj h).symm
          subst e
          rw [if_neg (by simp)]
          refine ⟨hh, f1.2.1, fun ha => (f1.2.2.2 ha).1, fun b hb => ?_⟩
          have h0 := f3 b ((g.lay r (.sl rc.k)).pre ++ zipC (hdr rc.k) rc.xs (g.lay r (.sl rc.k)).els ++ (g.lay r (.sl rc.k)).post) (List.mem_append_left _ (by
            have hb : (g.lay r (.sl rc.k)).a = some b := hb
            simp [row0, hb]))
          have htop : b ∉ (inner rc (g.lay r (.sl rc.k))).map Prod.fst := by
            rw [List.map_append, List.nodup_append] at f2
            intro hm
            have hb : (g.lay r (.sl rc.k)).a = some b := hb
            exact f2.2.2 b (by simp [row0, hb]) b hm rfl
          obtain ⟨cs, c1, c2, c3⟩ : ∃ cs : List (List Value), cs.length = List.length rc.xs ∧ cs.flatten = zipC (hdr rc.k) rc.xs (g.lay r (.sl rc.k)).els ∧ ∀ i, i < List.length rc.xs → cs.getD i [] = hdr rc.k (List.getD rc.xs i rc.k.d) (List.getD (g.lay r (.sl rc.k)).els i rc.k.dl) := by
            clear h0 htop hb hrow f2 f3 hin hout hU f4 hstep f1
            revert hlen
            generalize (g.lay r (.sl rc.k)).els = ls
            generalize rc.xs = xs
            intro hlen
            induction xs generalizing ls with
            | nil => exact ⟨[], rfl, by cases ls <;> rfl, fun i hi => by simp at hi⟩
            | cons x xs ih => cases ls with
              | nil => simp at hlen
              | cons l ls =>
                obtain ⟨cs, c1, c2, c3⟩ := ih ls (by simpa using hlen)
                refine ⟨hdr rc.k x l :: cs, by simp [c1], by simp [zipC, c2], fun i hi => ?_⟩
                cases i with
                | zero => simp
                | succ i => simpa using c3 i (by simpa using hi)
          refine ⟨(hout b htop).trans h0.1, cs, c1, by rw [c2]; exact h0.2, f1.2.2.1, fun i hi => ?_⟩
          rw [c3 i hi]
          refine RV.own (allZ_get f1.1 i _ _ hi) fun d c hd => ?_
          have hd' : (d, c) ∈ inner rc (g.lay r (.sl rc.k)) := by
            obtain ⟨A, B, h1, _⟩ := zipR_split rc.k.d rc.k.dl rc.xs (g.lay r (.sl rc.k)).els i hlen hi
            unfold inner
            rw [h1]
            exact List.mem_append_left _ (List.mem_append_right _ hd)
          obtain ⟨h1, h2⟩ := f3 d c (List.mem_append_right _ hd')
          exact ⟨h2, h2.lt, if_pos (List.mem_map_of_mem (f := Prod.fst) hd')⟩
        · rename_i e
          refine .inl ⟨rfl, rfl, fun b hc hb => ⟨(hout b (fun hm => ?_)).trans hb, rfl⟩⟩
          have := (hin b hm).1
          rw [hb] at this
          have := Option.some.inj this; omega)
      (fun b => .inl ⟨rfl, rfl, fun d hd => ⟨(hout d (fun hm => by
        have := (hin d hm).1
        rw [hd] at this
        have := Option.some.inj this; omega)).trans hd, rfl⟩⟩)
      (fun b x hx => by
        have hx : (if b ∈ (inner rc (g.lay r (.sl rc.k))).map Prod.fst then none else g.ow b) = some x := hx
        by_cases hm : b ∈ (inner rc (g.lay r (.sl rc.k))).map Prod.fst
        · exact (hin b hm).2
        · rw [if_neg hm] at hx; exact hS.own b x hx)
      rfl rfl rfl (Nat.le_refl _)
      (fun d hd => ⟨(hout d (fun hm => by
        have := (hin d hm).1
        rw [hd] at this
        have := Option.some.inj this; omega)).trans hd, rfl⟩)
    exact ⟨_, key.1, key.2.1, key.2.2, fun b hb => ⟨hb.1, hU b hb⟩, rfl, fun _ b hb => ⟨(hin b hb).2, if_pos hb⟩⟩
  · have hM : RootM g w r { (st.r r) with c := some { rc with inn := false } } := fun rc' h => by
      have e : rc' = { rc with inn := false } := (Option.some.inj h).symm
      subst e
      rw [if_neg hinn] at hR
      rw [if_neg (by simp)]
      exact hR
    have key := hS.next (st' := st.wr r { (st.r r) with c := some { rc with inn := false } }) (g' := g) (w' := w) (fun t => rfl) (fun b hb => ⟨hb, rfl⟩)
      (fun r' => by
        rw [St.r_wr]
        split
        · rename_i e; subst e; exact .inr ⟨hstep, hM⟩
        · exact .inl ⟨rfl, rfl, fun _ _ h => ⟨h, rfl⟩⟩)
      (fun b => .inl ⟨rfl, rfl, fun _ h => ⟨h, rfl⟩⟩) hS.own rfl rfl rfl (Nat.le_refl _) (fun _ h => ⟨h, rfl⟩)
    exact ⟨g, key.1, key.2.1, key.2.2, fun b hb => hb, rfl, fun h => absurd h hinn⟩
/-- Blocks of inner rows of roots. -/
def InR (st : St) (g : Gh) (L : List Nat) (b : Nat) : Prop := ∃ r, r ∈ L ∧ ∃ rc, (st.r r).c = some rc ∧ rc.inn = true ∧ b ∈ (inner rc (g.lay r (.sl rc.k))).map Prod.fst
theorem vwF_run : ∀ {k : K} {v : AV} {c : k.T → Prog} {cs : List Value}, v.frzOk = true → (vw k v c).run st Q → Rep st g w v cs → Sim S st g w a →
    ∃ x, (c x).run st Q ∧ RV (fun b => g.U w b ∨ InR st g (roots v) b) w k x cs := by
  intro k
  induction k with
  | int ik =>
    intro v c cs hf h hr hS
    cases v <;> first | exact h.elim | skip
    rename_i jk n
    obtain ⟨h1, h2⟩ := iff'_fail h
    have e := eqIK_eq h1
    subst e
    exact ⟨n, h2, hr⟩
  | bool =>
    intro v c cs hf h hr hS
    cases v <;> first | exact h.elim | skip
    exact ⟨_, h, hr⟩
  | pair p q ip iq =>
    intro v c cs hf h hr hS
    cases v <;> first | exact h.elim | skip
    rename_i u v
    obtain ⟨hf1, hf2⟩ := andB_true.1 (show andB u.frzOk v.frzOk = true from hf)
    obtain ⟨c1, c2, e, r1, r2⟩ := hr
    have h : (vw p u fun x => vw q v fun y => c (x, y)).run st Q := h
    obtain ⟨x, h1, rv1⟩ := ip hf1 h r1 hS
    obtain ⟨y, h2, rv2⟩ := iq hf2 h1 r2 hS
    have mono : ∀ (u v : AV) b, (g.U w b ∨ InR st g (roots u) b ∨ InR st g (roots v) b) → g.U w b ∨ InR st g (cat (roots u) (roots v)) b := by
      intro u v b hb
      rw [cat_eq]
      rcases hb with hb | ⟨r, h1, h2⟩ | ⟨r, h1, h2⟩
      · exact .inl hb
      · exact .inr ⟨r, List.mem_append_left _ h1, h2⟩
      · exact .inr ⟨r, List.mem_append_right _ h1, h2⟩
    exact ⟨(x, y), h2, c1, c2, e, rv1.mono fun b hb => ⟨mono u v b (hb.imp id .inl), rfl⟩, rv2.mono fun b hb => ⟨mono u v b (hb.imp id .inr), rfl⟩⟩
  | sl k ih =>
    intro v c cs hf h hr hS
    cases v with
    | nils => exact ⟨([] : List k.T), h, none, 0, hr, Nat.le_refl _, fun _ h => (by cases h), fun i hi => (by simp at hi)⟩
    | vsl k' xs =>
      have h : (match K.same k' k with | some ⟨h⟩ => c (h ▸ xs) | none => .fail).run st Q := h
      split at h
      · rename_i hk _
        have hk : k' = k := hk
        subst hk
        exact ⟨xs, h, (show RV (g.U w) w (.sl k') xs cs from hr).mono fun b hb => ⟨.inl hb, rfl⟩⟩
      · exact h.elim
    | rf r gen hc p =>
      cases p with
      | nil => simp [AV.frzOk] at hf
      | cons q p =>
        have h : (rdSl r gen hc (q :: p) fun k' xs => match K.same k' k with | some ⟨h⟩ => c (h ▸ xs) | none => .fail).run st Q := h
        obtain ⟨rc, k', q1, q2, e, q3⟩ := rdSl_run h
        split at q3
        · rename_i hk _
          have hk : k' = k := hk
          subst hk
          obtain ⟨p1, _, p3⟩ := hr.2.2 rc q2
          have hinn : rc.inn = true := by
            rcases q2.2.2 with h | h
            · have := ok_nil p1 h; cases this
            · exact h.1
          have hR := hS.root r rc q2.1
          rw [if_pos hinn] at hR
          obtain ⟨f1, f2, f3, f4⟩ := hR
          refine ⟨_, q3, ?_⟩
          have key : ∀ {k0 : K} (e : k0 = .sl k') (x : k0.T) (l : k0.L) (U : Nat → Prop), RV U w k0 x (hdr k0 x l) → RV U w (.sl k') (cast (congrArg K.T e) x) (hdr k0 x l) := by
            intro k0 e x l U h
            subst e; exact h
          rw [p3]
          refine key e _ _ _ (RV.own (Fit_get f1 p1) fun b c hb => ?_)
          have hb' := (inner_sub f1 p1 (by simp)).subset hb
          refine ⟨(f3 b c ?_ (by rw [q1]; exact fun h => h)).2, .inr ⟨r, by simp [roots], rc, q2.1, hinn, List.mem_map_of_mem (f := Prod.fst) hb'⟩⟩
          show (b, c) ∈ row0 _ _ _ ++ _
          exact List.mem_append_right _ hb'
        · exact q3.elim
    | _ => first | exact h.elim | (simp [AV.frzOk] at hf)
theorem slices_roots : ∀ (v : AV), v.frzOk = true → ∀ r, r ∈ roots v → ∃ gen hc p, AV.rf r gen hc p ∈ slices v := by
  intro v
  induction v with
  | pr a b ia ib =>
    intro hf r hr
    obtain ⟨h1, h2⟩ := andB_true.1 (show andB a.frzOk b.frzOk = true from hf)
    have hr : r ∈ cat (roots a) (roots b) := hr
    rw [cat_eq] at hr
    show ∃ gen hc p, AV.rf r gen hc p ∈ cat (slices a) (slices b)
    rw [cat_eq]
    rcases List.mem_append.1 hr with h | h
    · obtain ⟨gen, hc, p, h⟩ := ia h1 r h
      exact ⟨gen, hc, p, List.mem_append_left _ h⟩
    · obtain ⟨gen, hc, p, h⟩ := ib h2 r h
      exact ⟨gen, hc, p, List.mem_append_right _ h⟩
  | rf r' gen hc p =>
    intro _ r hr
    have hr : r ∈ [r'] := hr
    simp at hr
    subst hr
    exact ⟨gen, hc, p, by simp [slices]⟩
  | _ => intro hf r hr; first | (simp [roots] at hr; done) | (simp [AV.frzOk] at hf)
theorem frz_run : ∀ {L : List AV} {c : Prog} {st : St} {g : Gh} (_ : (frz L c).run st Q) (_ : Sim S st g w a),
    ∃ st' g', c.run st' Q ∧ Sim S st' g' w a ∧ (∀ v x, RepV st g w v x → RepV st' g' w v x) ∧ (∀ b, g.U w b → g'.U w b) ∧ ∀ r gen hc p, AV.rf r gen hc p ∈ L → ∀ rc, (st.r r).c = some rc → rc.inn = true → ∀ b, b ∈ (inner rc (g.lay r (.sl rc.k))).map Prod.fst → g'.U w b
  | [], c, st, g, h, hS => ⟨st, g, h, hS, fun _ _ h => h, fun _ h => h, fun _ _ _ _ h => by simp at h⟩
  | v :: L, c, st, g, h, hS => by
    cases v with
    | rf r gen hc p =>
      have h : (live gen (st.r r) fun rc => .wrR r { (st.r r) with c := some { rc with inn := false } } (frz L c)).run st Q := h
      obtain ⟨rc, h1, h2, h3, h4⟩ := live_run h
      obtain ⟨g1, s1, s2, s3, s4, s5, s6⟩ := hS.frz1 h1 h3
      obtain ⟨st', g', t1, t2, t3, t4, t5⟩ := frz_run (L := L) h4 s1
      refine ⟨st', g', t1, t2, fun v x hv => t3 _ _ (s3 _ _ hv), fun b hb => t4 b (s4 b hb), fun r' gen' hc' p' hm rc' hrc' hinn b hb => ?_⟩
      by_cases e : r' = r
      · subst e
        have e : rc' = rc := by rw [h1] at hrc'; exact (Option.some.inj hrc').symm
        subst e
        exact t4 b (s6 hinn b hb)
      · have hm : AV.rf r' gen' hc' p' ∈ L := by
          rcases List.mem_cons.1 hm with h | h
          · injection h with h _; exact absurd h e
          · exact h
        refine t5 r' gen' hc' p' hm rc' (by rw [St.r_wr, if_neg (fun h => e h.symm)]; exact hrc') hinn b ?_
        rw [s5]; exact hb
    | _ =>
      obtain ⟨st', g', t1, t2, t3, t4, t5⟩ := frz_run (L := L) (c := c) h hS
      exact ⟨st', g', t1, t2, t3, t4, fun r gen hc p hm => t5 r gen hc p (by
        rcases List.mem_cons.1 hm with h | h
        · cases h
        · exact h)⟩
end
end Go.Am
namespace Go.Am
section
variable {P : Program} {E : Env} {S : Start} {st st' : St} {g g' : Gh} {w w' : World} {a : Act} {Q : St → Prop} {gd : Gd} {o : Oper} {Qx : Exit → Act → World → Prop}
theorem vwAll_run {k : K} : ∀ {vs : List AV} {xs : List Value} {c : List k.T → Prog}, allL AV.frzOk vs = true → (vwAll k vs c).run st Q → All2 (RepV st g w) vs xs → Sim S st g w a →
    ∃ (ys : List k.T) (cs : List (List Value)), (c ys).run st Q ∧ ys.length = vs.length ∧ cs.length = ys.length ∧ cs = xs.map (fun x => x.cells.toList) ∧
      ∀ i, i < ys.length → RV (fun b => g.U w b ∨ ∃ r gen hc p, AV.rf r gen hc p ∈ flatL slices vs ∧ InR st g [r] b) w k (ys.getD i k.d) (cs.getD i [])
  | [], [], c, _, h, _, _ => ⟨[], [], h, rfl, rfl, rfl, fun i hi => by simp at hi⟩
  | v :: vs, x :: xs, c, hf, h, ha, hS => by
    obtain ⟨hf1, hf2⟩ := allL_true hf
    have hok : v.ok = true := by
      clear h ha hS hf hf2
      induction v with
      | pr a b ia ib =>
        obtain ⟨h1, h2⟩ := andB_true.1 (show andB a.frzOk b.frzOk = true from hf1)
        exact andB_true.2 ⟨ia h1, ib h2⟩
      | _ => first | rfl | simp [AV.frzOk] at hf1
    have h : (vw k v fun y => vwAll k vs fun ys => c (y :: ys)).run st Q := h
    obtain ⟨y, h1, rv⟩ := vwF_run hf1 h (repV_toCells ha.1 hok) hS
    obtain ⟨ys, cs, h2, l1, l2, e, hr⟩ := vwAll_run hf2 h1 ha.2 hS
    refine ⟨y :: ys, x.cells.toList :: cs, h2, by simp [l1], by simp [l2], by simp [e], fun i hi => ?_⟩
    have mono : ∀ b, (∃ r gen hc p, AV.rf r gen hc p ∈ slices v ∧ InR st g [r] b) ∨ (∃ r gen hc p, AV.rf r gen hc p ∈ flatL slices vs ∧ InR st g [r] b) → ∃ r gen hc p, AV.rf r gen hc p ∈ flatL slices (v :: vs) ∧ InR st g [r] b := by
      intro b hb
      show ∃ r gen hc p, AV.rf r gen hc p ∈ cat (slices v) (flatL slices vs) ∧ _
      rw [cat_eq]
      rcases hb with ⟨r, gen, hc, p, h1, h2⟩ | ⟨r, gen, hc, p, h1, h2⟩
      · exact ⟨r, gen, hc, p, List.mem_append_left _ h1, h2⟩
      · exact ⟨r, gen, hc, p, List.mem_append_right _ h1, h2⟩
    cases i with
    | zero =>
      refine RV.mono (fun b hb => ⟨hb.imp id fun ⟨r, hm, hb⟩ => mono b (.inl ?_), rfl⟩) rv
      obtain ⟨gen, hc, p, hs⟩ := slices_roots v hf1 r hm
      exact ⟨r, gen, hc, p, hs, r, by simp, hb⟩
    | succ i => exact (hr i (by simpa using hi)).mono fun b hb => ⟨hb.imp id fun h => mono b (.inr h), rfl⟩
  | [], _ :: _, _, _, _, h, _ => h.elim
  | _ :: _, [], _, _, _, h, _ => h.elim
theorem clsAll_run {k : K} : ∀ {vs : List AV} {xs : List Value} {c : List k.T → Prog} {R : List (Nat × List Value)} {st : St}, (clsAll k vs c).run st Q → All2 (RepV st g w) vs xs → Sim S st g w a → Pool st g w R →
    ∃ (ys : List k.T) (ls : List k.L) (st1 : St), (c ys).run st1 Q ∧ ys.length = vs.length ∧ Sim S st1 g w a ∧ allZ (Fit k) ys ls ∧ (xs.map (fun x => x.cells.toList)).flatten = zipC (hdr k) ys ls ∧ (∀ x ∈ xs, x.cells.size = k.sz) ∧ Pool st1 g w (R ++ zipR (rows k) ys ls)
  | [], [], c, R, st, h, _, hS, hP => ⟨[], [], st, h, rfl, hS, trivial, rfl, by simp, by simpa [zipR] using hP⟩
  | v :: vs, x :: xs, c, R, st, h, ha, hS, hP => by
    have h : (cls k v fun y => clsAll k vs fun ys => c (y :: ys)).run st Q := h
    have hok := (cls_ok h).1
    obtain ⟨y, l, st1, s1, u1, m1, f1, e1, p1, h1⟩ := cls_run h hS hP (repV_toCells ha.1 hok)
    have hrep : ∀ v x, RepV st g w v x → RepV st1 g w v x := by
      intro v x hv
      refine RepV.step (fun _ hb => ⟨hb, rfl⟩) (fun r => ?_) (fun b => ?_) hv
      · rcases u1.1.root r with e | ⟨e, e'⟩
        · rw [e]; exact RStep.refl _ _
        · exact .inl e'
      · have : st1.b b = st.b b := by simp only [St.b, u1.1.boxes]
        rw [this]; exact BStep.refl _ _
    have ha2 : All2 (RepV st1 g w) vs xs := by
      have := ha.2
      revert this
      generalize vs = vs
      generalize xs = xs
      intro this
      induction vs generalizing xs with
      | nil => cases xs <;> exact this
      | cons v vs ih => cases xs with
        | nil => exact this
        | cons x xs => exact ⟨hrep _ _ this.1, ih xs this.2⟩
    obtain ⟨ys, ls, st2, h2, l2, s2, f2, e2, sz2, p2⟩ := clsAll_run h1 ha2 s1 p1
    refine ⟨y :: ys, l :: ls, st2, h2, by simp [l2], s2, ⟨f1, f2⟩, by simp [zipC, e1, e2], fun z hz => ?_, by simpa [zipR, List.append_assoc] using p2⟩
    rcases List.mem_cons.1 hz with hz | hz
    · subst hz
      have := congrArg List.length e1
      rw [hdr_length] at this
      simpa using this
    · exact sz2 z hz
  | [], _ :: _, _, _, _, _, h, _, _ => h.elim
  | _ :: _, [], _, _, _, _, h, _, _ => h.elim
theorem partsIn_eq : ∀ {l : List (Nat × Operand)} {n : Nat} {os : List Operand}, partsIn n l = some os → l.map Prod.snd = os ∧ l.map Prod.fst = List.range' n l.length
  | [], n, os, h => by
    have h : some [] = some os := h
    cases h; exact ⟨rfl, rfl⟩
  | (i, o) :: l, n, os, h => by
    have h : iff' (Nat.beq i n) (match partsIn (n + 1) l with | some r => some (o :: r) | none => none) none = some os := h
    obtain ⟨h1, h2⟩ := iffS h
    have h1 := Nat.eq_of_beq_eq_true h1
    subst h1
    split at h2
    · rename_i r e
      obtain ⟨q1, q2⟩ := partsIn_eq e
      cases h2
      exact ⟨by simp [q1], by simp [q2, List.range'_succ]⟩
    · cases h2
theorem fillS (sz : Nat) : ∀ (ps : List (Nat × Value)) (n : Nat) (A C : List Value), ps.map Prod.fst = List.range' n ps.length → A.length = n * sz → C.length = ps.length * sz → (∀ p ∈ ps, p.2.cells.size = sz) →
    Instr.fill (fun i => some (i * sz, sz)) (A ++ C).toArray ps = some (A ++ (ps.map fun p => p.2.cells.toList).flatten).toArray
  | [], n, A, C, _, _, hC, _ => by
    have : C = [] := by simpa using hC
    subst this; simp [Instr.fill]
  | (i, x) :: ps, n, A, C, hi, hA, hC, hs => by
    have e : i = n := by have := congrArg List.head? hi; simpa [List.range'_succ] using this
    subst e
    have hi' : ps.map Prod.fst = List.range' (i + 1) ps.length := by simpa [List.range'_succ] using hi
    have hx : x.cells.size = sz := hs (i, x) (by simp)
    have hC' : C.length = sz + ps.length * sz := by rw [hC, List.length_cons, Nat.add_mul]; omega
    have ec : C = C.take sz ++ C.drop sz := (List.take_append_drop sz C).symm
    have hct : (C.take sz).length = sz := by rw [List.length_take]; omega
    simp only [Instr.fill]
    rw [if_neg (by simp [hx, hA, hC'])]
    have h1 : (A ++ C).toArray = (A ++ C.take sz ++ C.drop sz).toArray := by rw [List.append_assoc, ← ec]
    have h2 := fold_at A (C.take sz) (C.drop sz) x.cells (by rw [hx, hct])
    rw [← hA, h1, h2, fillS sz ps (i + 1) (A ++ x.cells.toList) (C.drop sz) hi' (by simp [hA, hx, Nat.add_mul]) (by rw [List.length_drop]; omega) (fun p hp => hs p (by simp [hp]))]
    simp
theorem buildSlice_run {t e : TypeId} (T : TabOk P E) (he : E.tab t = .slice e) {n : Nat} {ps : Array (Nat × Value)} (hi : ps.toList.map Prod.fst = List.range' 0 ps.toList.length) (hn : ps.toList.length = n) (hb : n * (kind E.tab e).sz ≤ 16777216)
    (hs : ∀ p ∈ ps.toList, p.2.cells.size = (kind E.tab e).sz) :
    (Instr.buildSlice t n ps).run P w = .ok (.slice (some ⟨w.heap.size, 0, none⟩) n n) (w.alloc (.cells ((ps.toList.map fun p => p.2.cells.toList).flatten).toArray e)) := by
  obtain ⟨hu, i, hi', hsz, hby, hb0, hz, _⟩ := elem_of T he
  have hb' : ¬ (16777216 < n * i.size) := by rw [hsz]; omega
  have hzz : ∀ (z : Array Value), Instr.fill (fun j => some (j * i.size, i.size)) ((Array.range (n * i.size)).map (z[· % z.size]!)) ps.toList = some ((ps.toList.map fun p => p.2.cells.toList).flatten).toArray := by
    intro z
    have := fillS i.size ps.toList 0 [] ((Array.range (n * i.size)).map (z[· % z.size]!)).toList hi (by simp) (by simp [hn]) (by rw [hsz]; exact hs)
    rw [List.nil_append, List.nil_append, Array.toArray_toList] at this
    exact this
  unfold Instr.buildSlice
  by_cases h0 : n * i.size = 0
  · have := hzz #[]
    simp [run_underlying hu, sizeOf, typeInfo, hi', h0, newRow] at this ⊢
    rw [this]; rfl
  · have := hzz (zval (kind E.tab e)).cells
    simp [run_underlying hu, sizeOf, typeInfo, hi', hb', h0, zeroValue, hz, newRow] at this ⊢
    rw [this]; rfl
theorem all2_map : ∀ {vs : List AV} {os : List Operand}, All2 (fun v o => RepV st g w v (a.eval o)) vs os → All2 (RepV st g w) vs (os.map a.eval)
  | [], [], _ => trivial
  | _ :: _, _ :: _, h => ⟨h.1, all2_map h.2⟩
  | [], _ :: _, h => h.elim
  | _ :: _, [], h => h.elim
theorem all2_len {α β : Type} {f : α → β → Prop} : ∀ {vs : List α} {os : List β}, All2 f vs os → vs.length = os.length
  | [], [], _ => rfl
  | _ :: _, _ :: _, h => by simp [all2_len h.2]
  | [], _ :: _, h => h.elim
  | _ :: _, [], h => h.elim
theorem op_buildSlice {t : TypeId} {n : Nat} {ps : Array (Nat × Operand)} (T : TabOk P E) (ho : o.op = .buildSlice t n ps) (h : (opP E gd o).run st Q) (hg : GOk gd) (hS : Sim S st g w a) (hb : inB S.n o.dst) : o.wp P a w (Good S Q) Qx := by
  unfold opP at h; rw [ho] at h
  simp only [] at h
  split at h
  · rename_i d e os hd he hps
    obtain ⟨h1, h2⟩ := iff'_fail h
    obtain ⟨h3, h4⟩ := andB_true.1 h1
    have h3 := Nat.eq_of_beq_eq_true h3
    have h4 := Nat.le_of_ble_eq_true h4
    rw [← lenL_eq] at h3
    obtain ⟨e1, e2⟩ := partsIn_eq hps
    obtain ⟨vs, h5, h6⟩ := evs_run h2 hg hS
    have hlen : ps.toList.length = n := by rw [← h3, ← e1]; simp
    have hmap : ((ps.map fun (i, x) => (i, a.eval x)).toList).map Prod.snd = os.map a.eval := by
      rw [← e1, Array.toList_map, List.map_map, List.map_map]; rfl
    have hall : All2 (RepV st g w) vs (os.map a.eval) := by
      exact all2_map h5
    have hidx : ((ps.map fun (i, x) => (i, a.eval x)).toList).map Prod.fst = List.range' 0 ((ps.map fun (i, x) => (i, a.eval x)).toList).length := by
      rw [Array.toList_map, List.map_map, List.length_map]
      exact e2
    have hcell : ((ps.map fun (i, x) => (i, a.eval x)).toList.map fun p => p.2.cells.toList) = (os.map a.eval).map fun x => x.cells.toList := by
      rw [← hmap, List.map_map]; rfl
    have hvl : vs.length = n := by
      rw [← h3]
      exact all2_len h5
    have run : (∀ x ∈ os.map a.eval, x.cells.size = (kind E.tab e).sz) → (execOp a.eval o).run P w = .ok (.value (.slice (some ⟨w.heap.size, 0, none⟩) n n)) (w.alloc (.cells (((os.map a.eval).map fun x => x.cells.toList).flatten).toArray e)) := by
      intro hs
      have := buildSlice_run (P := P) (w := w) T he (n := n) (ps := ps.map fun (i, x) => (i, a.eval x)) hidx (by simpa using hlen) h4 (fun p hp => hs p.2 (by rw [← hmap]; exact List.mem_map_of_mem (f := Prod.snd) hp))
      rw [hcell] at this
      simp only [execOp, ho, Sem.run_bind, this, Result.andThen_ok, Sem.run_pure]
    have news : ∀ b, b < w.heap.size → b ∉ ([] : List (Nat × List Value)).map Prod.fst → (w.alloc (.cells (((os.map a.eval).map fun x => x.cells.toList).flatten).toArray e)).heap[b]? = w.heap[b]? := fun b hb _ => alloc_old w _ hb
    rcases iff'_run h6 with ⟨_, h7⟩ | ⟨_, h7⟩
    · obtain ⟨hf, h8⟩ := iff'_fail h7
      obtain ⟨ys, cs, h9, l1, l2, ec, hr⟩ := vwAll_run hf h8 hall hS
      obtain ⟨st1, g1, q1, q2, q3, q4, q5⟩ := frz_run h9 hS
      have hU : ∀ b, (g.U w b ∨ ∃ r gen hc p, AV.rf r gen hc p ∈ flatL slices vs ∧ InR st g [r] b) → g1.U w b := by
        intro b hb
        rcases hb with hb | ⟨r, gen, hc, p, hm, r', hr', rc, h1, h2, h3⟩
        · exact q4 b hb
        · have e : r' = r := by simpa using hr'
          subst e
          exact q5 r' gen hc p hm rc h1 h2 b h3
      have hrv : ∀ i, i < ys.length → RV (g1.U w) w (kind E.tab e) (ys.getD i (kind E.tab e).d) (cs.getD i []) := fun i hi => (hr i hi).mono fun b hb => ⟨hU b hb, rfl⟩
      have hsz : ∀ x ∈ os.map a.eval, x.cells.size = (kind E.tab e).sz := by
        intro x hx
        obtain ⟨i, hi⟩ := List.getElem?_of_mem hx
        have hlt : i < cs.length := by rw [ec, List.length_map]; exact (List.getElem?_eq_some_iff.1 hi).1
        have h0 := (hrv i (by omega)).length
        have h1 : cs.getD i [] = x.cells.toList := by rw [ec, List.getD_eq_getElem?_getD, List.getElem?_map, hi]; rfl
        rw [h1] at h0
        simpa using h0
      refine wp_val (run hsz) ?_
      rw [hd]
      have hn : ys.length = n := by rw [l1, hvl]
      obtain ⟨g', u1, u2, u3, u4⟩ := q2.newRootF (w' := w.alloc (.cells (((os.map a.eval).map fun x => x.cells.toList).flatten).toArray e)) Pool.nil (rid d 0) (k := kind E.tab e) (xs := ys) (l := (⟨some w.heap.size, [], [], n, []⟩ : SL (kind E.tab e).L)) (cs := cs)
        l2 (by rw [hn]; exact Nat.le_refl _) (fun h => by cases h)
        (fun b hb => by
          have hb : some w.heap.size = some b := hb
          have := Option.some.inj hb
          subst this
          refine ⟨by rw [ec]; simpa using alloc_new w _ e, .inr (Nat.le_refl _), by rw [hn]; simp⟩)
        hrv news rfl rfl rfl (by simp)
      have hu : hdr (.sl (kind E.tab e)) ys (⟨some w.heap.size, [], [], n, []⟩ : SL (kind E.tab e).L) = [.slice (some ⟨w.heap.size, 0, none⟩) n n] := by
        simp only [hdr]; rw [hn]; rfl
      rw [hu] at u4
      exact ⟨_, g', q1, u1.put (hb d hd) (v := .rf (rid d 0) (Nat.succ (st1.r (rid d 0)).gen) 0 []) u4⟩
    · obtain ⟨ys, ls, st1, q1, l1, q2, q3, q4, q5, q6⟩ := clsAll_run h7 hall hS Pool.nil
      refine wp_val (run q5) ?_
      rw [hd]
      have hn : ys.length = n := by rw [l1, hvl]
      rw [List.nil_append] at q6
      have hrows : rows (.sl (kind E.tab e)) ys (⟨some w.heap.size, [], [], n, ls⟩ : SL (kind E.tab e).L) = (w.heap.size, zipC (hdr (kind E.tab e)) ys ls) :: zipR (rows (kind E.tab e)) ys ls := by
        simp [rows, row0]
      obtain ⟨g', u1, u2, u3, u4⟩ := q2.newRoot (w' := w.alloc (.cells (((os.map a.eval).map fun x => x.cells.toList).flatten).toArray e)) q6 (rid d 0) (k := kind E.tab e) (xs := ys) (l := (⟨some w.heap.size, [], [], n, ls⟩ : SL (kind E.tab e).L))
        ⟨q3, by rw [show List.length ys = n from hn]; exact Nat.le_refl _, by rw [show List.length ys = n from hn]; simp, fun h => (by cases h)⟩
        (by
          rw [hrows, List.map_cons, List.nodup_cons]
          refine ⟨fun hm => ?_, q6.nodup⟩
          obtain ⟨y, hy, ey⟩ := List.mem_map.1 hm
          have := (q6.row y.1 y.2 hy).1.lt
          omega)
        (fun b c hb => by
          rw [hrows] at hb
          rcases List.mem_cons.1 hb with hb | hb
          · obtain ⟨rfl, rfl⟩ := Prod.mk.inj hb
            exact ⟨by rw [q4]; exact alloc_new w _ e, .inr (Nat.le_refl _)⟩
          · have h0 := (q6.row b c hb).1
            exact ⟨h0.same (alloc_old w _ h0.lt), .inl (List.mem_map_of_mem (f := Prod.fst) hb)⟩)
        (fun b hb _ => alloc_old w _ hb) rfl rfl rfl (by simp)
      have hu : hdr (.sl (kind E.tab e)) ys (⟨some w.heap.size, [], [], n, ls⟩ : SL (kind E.tab e).L) = [.slice (some ⟨w.heap.size, 0, none⟩) n n] := by
        simp only [hdr]; rw [hn]; rfl
      rw [hu] at u4
      exact ⟨_, g', q1, u1.put (hb d hd) (v := .rf (rid d 0) (Nat.succ (st1.r (rid d 0)).gen) 0 []) u4⟩
  · exact h.elim
end
end Go.Am
namespace Go.Am
def Leads (K : Prog → Prop) (p : Prog) : Prop := ∀ st Q, p.run st Q → ∃ q, K q ∧ q.run st Q
section
variable {K : Prog → Prop}
theorem Leads.self {p : Prog} (h : K p) : Leads K p := fun _ _ hp => ⟨p, h, hp⟩
theorem Leads.fail : Leads K .fail := fun _ _ h => h.elim
theorem Leads.rdS {t : Nat} {k : AV → Prog} (h : ∀ v, Leads K (k v)) : Leads K (.rdS t k) := fun st Q hp => h _ st Q hp
theorem Leads.rdR {t : Nat} {k : RootV → Prog} (h : ∀ v, Leads K (k v)) : Leads K (.rdR t k) := fun st Q hp => h _ st Q hp
theorem Leads.rdB {t : Nat} {k : BoxV → Prog} (h : ∀ v, Leads K (k v)) : Leads K (.rdB t k) := fun st Q hp => h _ st Q hp
theorem Leads.iff' {c : Bool} {a b : Prog} (ha : Leads K a) (hb : Leads K b) : Leads K (iff' c a b) := by
  cases c
  · exact hb
  · exact ha
theorem Leads.vc {P : Prop} {k : Prog} (h : Leads K k) : Leads K (.vc P k) := fun st Q hp => h st Q hp.2
theorem Leads.vcg {g : Gd} {P : Prop} {k : Prog} (h : Leads K k) : Leads K (vcg g P k) := by
  cases g <;> exact Leads.vc h
theorem Leads.un {g : Gd} {v : AV} {k : AV → Prog} (h : ∀ v, Leads K (k v)) : Leads K (un g v k) := by
  cases v <;> first | exact h _ | exact Leads.vcg (h _)
theorem Leads.ev {g : Gd} {o : Operand} {k : AV → Prog} (h : ∀ v, Leads K (k v)) : Leads K (ev g o k) := by
  cases o with
  | tmp t => exact Leads.rdS fun _ => Leads.un h
  | const v => exact h _
  | func f => exact h _
  | global n => exact Leads.fail
theorem Leads.evs {g : Gd} : ∀ {os : List Operand} {k : List AV → Prog} (_ : ∀ v, Leads K (k v)), Leads K (evs g os k)
  | [], _, h => h _
  | _ :: _, _, h => Leads.ev fun _ => Leads.evs fun _ => h _
theorem Leads.evC {g : Gd} {t : Prop} {o : Operand} {k : AV → Prog} (h : ∀ v, Leads K (k v)) : Leads K (evC g t o k) := by
  cases o with
  | tmp t => exact Leads.rdS fun v => by cases v <;> first | exact h _ | exact Leads.vcg (h _)
  | const v => exact h _
  | func f => exact h _
  | global n => exact Leads.fail
theorem Leads.live {gen : Nat} {rv : RootV} {k : RC → Prog} (h : ∀ v, Leads K (k v)) : Leads K (live gen rv k) := by
  unfold Am.live
  split
  · exact Leads.fail
  · refine Leads.iff' ?_ Leads.fail
    split
    · exact h _
    · exact Leads.fail
theorem Leads.liveL {gen : Nat} {p : Pth} {rv : RootV} {k : RC → Prog} (h : ∀ v, Leads K (k v)) : Leads K (liveL gen p rv k) := by
  unfold Am.liveL
  split
  · exact Leads.fail
  · refine Leads.iff' ?_ Leads.fail
    split
    · exact h _
    · exact Leads.iff' (h _) Leads.fail
theorem Leads.fresh {hc n : Nat} {p : Pth} {rv : RootV} {inn : Bool} {k : Prog} (h : Leads K k) : Leads K (fresh hc p rv inn n k) := Leads.iff' h Leads.fail
theorem Leads.rdSl {r gen hc : Nat} {p : Pth} {k : (k : Am.K) → List k.T → Prog} (h : ∀ a b, Leads K (k a b)) : Leads K (rdSl r gen hc p k) := by
  unfold Am.rdSl
  refine Leads.rdR fun _ => Leads.live fun _ => Leads.fresh ?_
  split
  · exact h _ _
  · exact Leads.fail
theorem Leads.boundP {v : Option AV} {d : Int} {c : Int → Prog} (h : ∀ v, Leads K (c v)) : Leads K (boundP v d c) := by
  unfold Am.boundP
  split
  · exact h _
  · exact h _
  · exact Leads.fail
theorem Leads.vw : ∀ {k : Am.K} {v : AV} {c : k.T → Prog} (_ : ∀ x, Leads K (c x)), Leads K (vw k v c) := by
  intro k
  induction k with
  | int ik => intro v c h; cases v <;> first | exact Leads.fail | exact Leads.iff' (h _) Leads.fail
  | bool => intro v c h; cases v <;> first | exact Leads.fail | exact h _
  | pair a b ia ib => intro v c h; cases v <;> first | exact Leads.fail | exact ia fun _ => ib fun _ => h _
  | sl k ih =>
    intro v c h
    cases v <;> first | exact Leads.fail | exact h _ | skip
    all_goals
      simp only [Am.vw]
      first
        | (split; exact h _; exact Leads.fail)
        | (refine Leads.rdSl fun _ _ => ?_; split; exact h _; exact Leads.fail)
theorem Leads.vwS : ∀ {k : Am.K} {v : AV} {c : k.T → Prog} (_ : ∀ x, Leads K (c x)), Leads K (vwS k v c) := by
  intro k
  induction k with
  | int ik => intro v c h; cases v <;> first | exact Leads.fail | exact Leads.iff' (h _) Leads.fail
  | bool => intro v c h; cases v <;> first | exact Leads.fail | exact h _
  | pair a b ia ib => intro v c h; cases v <;> first | exact Leads.fail | exact ia fun _ => ib fun _ => h _
  | sl k ih =>
    intro v c h
    cases v <;> first | exact Leads.fail | exact h _ | skip
    all_goals
      simp only [Am.vwS]
      (split; exact h _; exact Leads.fail)
theorem Leads.ownRd : ∀ {k : Am.K} {v : AV} {c : k.T → Prog} (_ : ∀ x, Leads K (c x)), Leads K (ownRd k v c) := by
  intro k
  induction k with
  | int ik => intro v c h; cases v <;> first | exact Leads.fail | exact Leads.iff' (h _) Leads.fail
  | bool => intro v c h; cases v <;> first | exact Leads.fail | exact h _
  | pair a b ia ib => intro v c h; cases v <;> first | exact Leads.fail | exact ia fun _ => ib fun _ => h _
  | sl k ih =>
    intro v c h
    cases v <;> first | exact Leads.fail | skip
    simp only [Am.ownRd]
    refine Leads.rdR fun _ => Leads.live fun _ => Leads.iff' (Leads.fresh ?_) Leads.fail
    split
    · exact h _
    · exact Leads.fail
theorem Leads.mtq {args : List AV} : ∀ {p : QPat} {v : AV} {c : MR → Prog} (_ : ∀ x, Leads K (c x)), Leads K (mtq args p v c) := by
  intro p
  induction p with
  | val k => intro v c h; exact Leads.vw fun _ => h _
  | vs k => intro v c h; exact Leads.vwS fun _ => h _
  | same i =>
    intro v c h
    simp only [Am.mtq]
    split
    · refine Leads.rdB fun _ => ?_
      split
      · exact Leads.iff' (h _) Leads.fail
      · exact Leads.fail
    · exact Leads.fail
  | rbx q iq =>
    intro v c h
    simp only [Am.mtq]
    split
    · refine Leads.rdB fun _ => ?_
      split
      · exact Leads.iff' (iq fun _ => h _) Leads.fail
      · exact Leads.fail
    · exact Leads.fail
  | fn f p q ip iq =>
    intro v c h
    simp only [Am.mtq]
    split
    · exact Leads.iff' (ip fun _ => iq fun _ => h _) Leads.fail
    · exact Leads.fail
  | nil =>
    intro v c h
    simp only [Am.mtq]
    split
    · exact h _
    · exact Leads.fail
  | cons p q ip iq =>
    intro v c h
    simp only [Am.mtq]
    split
    · exact Leads.iff' (ip fun _ => iq fun _ => h _) Leads.fail
    · exact Leads.fail
theorem Leads.mts {args : List AV} : ∀ {ps : List Pat} {vs : List AV} {c : MR → Prog} (_ : quiet ps = true) (_ : ∀ x, Leads K (c x)), Leads K (mts args ps vs c)
  | [], [], _, _, h => h _
  | .q _ :: _, _ :: _, _, hq, h => Leads.mtq fun _ => Leads.mts hq fun _ => h _
  | .own _ :: _, _ :: _, _, hq, _ => (by cases hq)
  | .take _ :: _, _ :: _, _, hq, _ => (by cases hq)
  | .ro _ :: _, _ :: _, _, hq, _ => (by cases hq)
  | .box _ _ :: _, _ :: _, _, hq, _ => (by cases hq)
  | .bp _ :: _, _ :: _, _, hq, _ => (by cases hq)
  | [], _ :: _, _, _, _ => Leads.fail
  | _ :: _, [], _, _, _ => Leads.fail
theorem Leads.wbs : ∀ {ps : List Pat} {vs : List AV} {ys : Cont} {c : Prog} (_ : quiet ps = true) (_ : Leads K c), Leads K (wbs ps vs ys c)
  | [], [], [], _, _, h => h
  | [], [], _ :: _, _, _, _ => Leads.fail
  | .q _ :: ps, _ :: vs, ys, c, hq, h => Leads.wbs (ps := ps) (vs := vs) (ys := ys) (c := c) hq h
  | .own _ :: _, _ :: _, _, _, hq, _ => (by cases hq)
  | .take _ :: _, _ :: _, _, _, hq, _ => (by cases hq)
  | .ro _ :: _, _ :: _, _, _, hq, _ => (by cases hq)
  | .box _ _ :: _, _ :: _, _, _, hq, _ => (by cases hq)
  | .bp _ :: _, _ :: _, _, _, hq, _ => (by cases hq)
  | [], _ :: _, _, _, _, _ => Leads.fail
  | _ :: _, [], _, _, _, _ => Leads.fail
theorem Leads.as {k : Am.K} {d : Dyn} {c : k.T → Prog} (h : ∀ x, Leads K (c x)) : Leads K (d.as k c) := by
  unfold Dyn.as
  split
  · exact h _
  · exact Leads.fail
theorem Leads.mkR {b : Bool} {d : Nat} : ∀ {rp : RP} {ys : Cont} {j : Nat} {c : AV → Cont → Nat → Prog} (_ : ∀ x y z, Leads K (c x y z)), Leads K (mkR (some b) d rp ys j c) := by
  intro rp
  induction rp with
  | vw k => intro ys j c h; cases ys <;> first | exact Leads.fail | exact Leads.as fun _ => h _ _ _
  | fz k => intro ys j c h; cases ys <;> first | exact Leads.fail | exact Leads.as fun _ => h _ _ _
  | own k => intro ys j c h; cases ys <;> first | exact Leads.fail | exact Leads.as fun _ => h _ _ _
  | bx k => intro ys j c h; cases ys <;> exact Leads.fail
  | nil => intro ys j c h; exact h _ _ _
  | cons a b ia ib => intro ys j c h; exact Leads.iff' (ia fun _ _ _ => ib fun _ _ _ => h _ _ _) Leads.fail
end
def EndW (b : Bool) (dst : Option Nat) (q : Prog) : Prop := ∃ v, q = wrg (some b) dst v .ret
theorem Leads.wrg {b : Bool} {dst : Option Nat} {v : AV} : Leads (EndW b dst) (wrg (some b) dst v .ret) := Leads.self ⟨v, rfl⟩
theorem Leads.no {K : Prog → Prop} {b : Bool} {p q : Prog} (hb : b = false) (h : Leads K q) : Leads K (.alt (b = true) p (.alt (b = false) q .tt)) := fun st Q hp => h st Q (hp.2.1 hb)
theorem Leads.callP {E : Env} {b : Bool} {dst : Option Nat} {f : FuncId} {args : List AV} (hb : b = false) : Leads (EndW b dst) (callP E (some b) dst f args) := by
  unfold Am.callP
  generalize E.sig f = l
  induction l with
  | nil => exact Leads.fail
  | cons S l ih =>
    refine Leads.iff' ?_ ih
    show Leads _ (Am.iff' (quiet S.ps) _ _)
    cases hq : quiet S.ps with
    | false => exact Leads.no hb Leads.wrg
    | true =>
      refine Leads.mts hq fun m => Leads.iff' (Leads.vcg ?_) Leads.fail
      unfold altP
      refine Leads.iff' Leads.fail (Leads.wbs hq ?_)
      cases dst with
      | none => exact Leads.self ⟨.dead, rfl⟩
      | some d => exact Leads.mkR fun _ _ _ => Leads.wrg
theorem opP_skip {E : Env} {b : Bool} {o : Oper} (hb : b = false) : Leads (EndW b o.dst) (opP E (some b) o) := by
  unfold opP
  split
  all_goals (repeat' (first
    | exact Leads.fail
    | exact Leads.wrg
    | exact Leads.callP hb
    | refine Leads.rdSl fun _ _ => ?_
    | refine Leads.ev fun _ => ?_
    | refine Leads.evs fun _ => ?_
    | refine Leads.evC fun _ => ?_
    | refine Leads.iff' ?_ ?_
    | refine Leads.vcg ?_
    | refine Leads.rdB fun _ => ?_
    | refine Leads.rdR fun _ => ?_
    | refine Leads.liveL fun _ => ?_
    | refine Leads.fresh ?_
    | refine Leads.rdSl fun _ _ => ?_
    | refine Leads.boundP fun _ => ?_
    | (unfold binP)
    | (unfold loadP)
    | (unfold fldP)
    | (unfold lenP)
    | (unfold idxP)
    | (unfold sliceP)
    | split))
end Go.Am
namespace Go.Am
/-- What a call must bring about. -/
def CallOk (P : Program) (E : Env) : Prop :=
  ∀ (S : Start) (st : St) (g : Gh) (w : World) (a : Act) (gd : Gd) (dst : Option Nat) (f : FuncId) (args : List AV) (vs : List Value) (Q : St → Prop),
    (callP E gd dst f args).run st Q → Sim S st g w a → GOk gd → inB S.n dst → All2 (RepV st g w) args vs →
    (∃ fn, P.funcs[f]? = some fn ∧ (fn.name == "runtime.NumGoroutine") = false ∧ fn.body.isNone = false) ∧
    Calls P f vs.toArray w fun e w' => match e with | .returned v => Good S Q (a.put dst v) w' | _ => False
/-- What an operation's numbers must be. -/
def OpIn (E : Env) (n : Nat) (o : Oper) : Prop :=
  inB n o.dst ∧ (∀ t x y, o.op = .store t x y → o.dst = none) ∧ ∀ t x j, o.op = .fieldAddr t x j → ∀ fs, E.tab t = .struct fs → j < lenL fs
def opIn (E : Env) (n : Nat) (o : Oper) : Bool :=
  (match o.dst with | none => true | some d => decide (d < n)) &&
  (match o.op with
  | .store _ _ _ => o.dst.isNone
  | .fieldAddr t _ j => match E.tab t with | .struct fs => decide (j < lenL fs) | _ => true
  | _ => true)
theorem opIn_ok {E : Env} {n : Nat} {o : Oper} (h : opIn E n o = true) : OpIn E n o := by
  unfold opIn at h
  obtain ⟨h1, h2⟩ := Bool.and_eq_true_iff.1 h
  refine ⟨fun i hi => ?_, fun t x y e => ?_, fun t x j e fs hf => ?_⟩
  · rw [hi] at h1; simpa using h1
  · rw [e] at h2; simpa using h2
  · rw [e] at h2
    simp only [hf] at h2
    simpa using h2
section
variable {P : Program} {E : Env} {S : Start} {st st' : St} {g g' : Gh} {w w' : World} {a : Act} {Q : St → Prop} {gd : Gd} {o : Oper} {Qx : Exit → Act → World → Prop}
theorem all2_append {α β : Type} {f : α → β → Prop} : ∀ {l : List α} {m : List β} {l' : List α} {m' : List β}, All2 f l m → All2 f l' m' → All2 f (l ++ l') (m ++ m')
  | [], [], _, _, _, h => h
  | _ :: _, _ :: _, _, _, h, k => ⟨h.1, all2_append h.2 k⟩
  | [], _ :: _, _, _, h, _ => h.elim
  | _ :: _, [], _, _, h, _ => h.elim
theorem list_rep : ∀ {v : AV} {vs : List Value}, Rep st g w v vs → v.isList = true → allL AV.one v.listOf = true → All2 (RepV st g w) v.listOf vs := by
  intro v
  induction v with
  | cons a b ia ib =>
    intro vs h hl ho
    obtain ⟨x, xs, e, h1, h2⟩ := h
    subst e
    obtain ⟨o1, o2⟩ := allL_true (show allL AV.one (a :: b.listOf) = true from ho)
    exact ⟨of_one o1 h1, ib h2 hl o2⟩
  | nil => intro vs h _ _; rw [show vs = [] from h]; exact trivial
  | _ => intro vs h hl; simp [AV.isList] at hl
theorem op_call {c : Call} {fo : Operand} (C : CallOk P E) (ho : o.op = .call c) (hc : c.callee = .value fo) (h : (opP E gd o).run st Q) (hg : GOk gd) (hS : Sim S st g w a) (hb : inB S.n o.dst) : o.wp P a w (Good S Q) Qx := by
  unfold opP at h; rw [ho] at h
  simp only [hc] at h
  obtain ⟨fv, h1, h2⟩ := ev_run h hg hS
  split at h2
  · rename_i f first capt
    obtain ⟨h3, h4⟩ := iff'_fail h2
    obtain ⟨h5, h6⟩ := andB_true.1 h3
    obtain ⟨l1, l2⟩ := andB_true.1 h5
    obtain ⟨o1, o2⟩ := andB_true.1 h6
    obtain ⟨vs, h7, h8⟩ := evs_run h4 hg hS
    obtain ⟨va, vb, e, r1, r2⟩ := (show Rep st g w (.fn f first capt) [a.eval fo] from h1)
    have e := (List.cons.inj e).1
    rw [cat_eq, cat_eq] at h8
    have hall := all2_append (list_rep r1 l1 o1) (all2_append (args_of h7) (list_rep r2 l2 o2))
    obtain ⟨⟨fn, f1, f2, f3⟩, hcall⟩ := C S st g w a gd o.dst f _ _ Q h8 hS hg hb hall
    have hargs : (va.toList ++ ((c.args.map a.eval).toList ++ vb.toList)).toArray = va ++ c.args.map a.eval ++ vb := by apply Array.ext'; simp
    rw [hargs] at hcall
    have hrun : (execOp a.eval o).run P w = .ok (.enter f (va ++ c.args.map a.eval ++ vb)) w := by
      simp only [execOp, ho, resolve, hc, e, Deferred.ofValue, Sem.run_bind, Sem.run_pure, Result.andThen_ok, invoke, callFunc, run_program, f1, f2, f3]
      simp
    unfold Oper.wp
    rw [hrun]
    refine Calls.mono hcall fun e w' he => ?_
    cases e with
    | returned v => exact he
    | panicked c => exact he.elim
    | outgrown => exact he.elim
  · exact h2.elim
theorem op_sound (T : TabOk P E) (C : CallOk P E) (hin : OpIn E S.n o) (h : (opP E gd o).run st Q) (hg : GOk gd) (hS : Sim S st g w a) : o.wp P a w (Good S Q) Qx := by
  obtain ⟨hb, hst, hfd⟩ := hin
  cases ho : o.op with
  | move x => exact op_move (.inl ho) h hg hS hb
  | assign x => exact op_move (.inr ho) h hg hS hb
  | pick c x y => exact op_pick ho h hg hS hb
  | alloc t => exact op_alloc T ho h hg hS hb
  | box t x => exact op_box ho h hg hS hb
  | build t ps => exact op_build T ho h hg hS hb
  | buildSlice t n ps => exact op_buildSlice T ho h hg hS hb
  | load t x => exact op_load T ho h hg hS hb
  | store t x y => exact op_store T ho (hst t x y ho) h hg hS
  | nilCheck x => exact op_nilCheck ho h hg hS hb
  | binOp op t x y _ => exact op_bin T ho h hg hS hb
  | unOp op t x => exact op_un ho h hg hS hb
  | convert t t' x => exact op_convert T ho h hg hS hb
  | makeFunc fn first capt => cases fn with
    | func f => exact op_makeFunc ho h hg hS hb
    | _ => unfold opP at h; rw [ho] at h; exact h.elim
  | makeSlice t x y => exact op_makeSlice T ho h hg hS hb
  | slice t x lo hi mx => exact op_slice T ho h hg hS hb
  | fieldAddr t x j => exact op_field T ho (hfd t x j ho) h hg hS hb
  | indexAddr t x i => exact op_index T ho h hg hS hb
  | extract x i => exact op_extract ho h hg hS hb
  | call c => cases hc : c.callee with
    | builtin b =>
      cases b with
      | len => exact op_len T ho hc h hg hS hb
      | append => exact op_append T ho hc h hg hS hb
      | max => exact op_max ho hc h hg hS hb
      | min => exact op_min ho hc h hg hS hb
      | _ => unfold opP at h; rw [ho] at h; simp only [hc] at h; exact h.elim
    | value f => exact op_call C ho hc h hg hS hb
    | invoke r m => unfold opP at h; rw [ho] at h; simp only [hc] at h; exact h.elim
  | _ => unfold opP at h; rw [ho] at h; exact h.elim
theorem slot_bool {a : Act} {t : Nat} {b : Bool} (h : a.tmps.getD t undef = .bool b) : a.tmps[t]? = some (.bool b) := by
  rw [Array.getD_eq_getD_getElem?] at h
  cases e : a.tmps[t]? with
  | some v => rw [e] at h; exact congrArg some h
  | none => rw [e] at h; cases h
theorem yielded_bool {ops : Array Oper} {j t : Nat} {oj : Oper} {b : Bool} (hj : ops[j]? = some oj) (ht : oj.dst = some t) (h : a.tmps.getD t undef = .bool b) : yielded ops a.tmps j = some b := by
  simp [yielded, hj, ht, slot_bool h]
theorem yielded_undef {ops : Array Oper} {j t : Nat} {oj : Oper} (hj : ops[j]? = some oj) (ht : oj.dst = some t) (h : a.tmps.getD t undef = undef) : yielded ops a.tmps j = none := by
  simp only [yielded, hj, Option.bind_some, ht]
  rw [Array.getD_eq_getD_getElem?] at h
  cases e : a.tmps[t]? with
  | some v => rw [e] at h; have h : v = undef := h; subst h; rfl
  | none => rfl
/-- One operation of a region, with its guard. -/
theorem step_sound {ops : Array Oper} {i : Nat} (T : TabOk P E) (C : CallOk P E) (hi : ops[i]? = some o) (hin : OpIn E S.n o) (h : (stepP E ops.toList o).run st Q) (hS : Sim S st g w a) : wpOp P ops Qx i (Good S Q) a w := by
  unfold wpOp
  rw [hi]
  simp only []
  unfold stepP at h
  split at h
  · rename_i hgd
    rw [if_pos (by simp [Region.wanted, hgd])]
    exact .inl (op_sound T C hin h trivial hS)
  · rename_i j want hgd
    split at h
    · exact h.elim
    · rename_i oj hj
      rw [nth_get] at hj
      have hj : ops[j]? = some oj := by simpa using hj
      split at h
      · exact h.elim
      · rename_i t ht
        have hslot := hS.slot t
        have fin : ∀ (c : Bool), (opP E (some c) o).run st Q → (Region.wanted o (yielded ops a.tmps) = c) → if Region.wanted o (yielded ops a.tmps) = true then o.wp P a w (Good S Q) Qx ∨ (o.asks P a w ∧ LetsOut Qx) else Good S Q (a.put o.dst undef) w := by
          intro c hc hw
          cases c with
          | true => rw [if_pos hw]; exact .inl (op_sound T C hin hc rfl hS)
          | false =>
            rw [if_neg (by rw [hw]; simp)]
            obtain ⟨q, ⟨v, e⟩, hq⟩ := opP_skip rfl st Q hc
            subst e
            exact good_skip hS hq rfl hin.1
        have h : (match st.s t with
          | .bool b => opP E (some (iff' want b (!b))) o
          | .gd c (.bool b) => opP E (some (c && iff' want b (!b))) o
          | _ => .fail).run st Q := h
        split at h
        · rename_i b e
          rw [e] at hslot
          refine fin _ h ?_
          simp only [Region.wanted, hgd, yielded_bool hj ht (rep_bool hslot)]
          cases b <;> cases want <;> rfl
        · rename_i c b e
          rw [e] at hslot
          obtain ⟨s1, s2⟩ := hslot
          refine fin _ h ?_
          cases c with
          | true =>
            simp only [Region.wanted, hgd, yielded_bool hj ht (rep_bool (s1 rfl))]
            cases b <;> cases want <;> rfl
          | false =>
            simp only [Region.wanted, hgd, yielded_undef hj ht (s2 rfl)]
            cases want <;> rfl
        · exact h.elim
theorem ops_sound {ops : Array Oper} (T : TabOk P E) (C : CallOk P E) (hin : ∀ o ∈ ops.toList, OpIn E S.n o) :
    ∀ (l : List Oper) (n : Nat) (st : St) (g : Gh) (w : World) (a : Act), ops.toList.drop n = l → opsRun E ops.toList l st Q → Sim S st g w a → (∀ a w, Good S Q a w → Qx .normal a w) → wpOps P ops Qx (List.range' n l.length) a w
  | [], n, st, g, w, a, _, h, hS, hQ => hQ a w ⟨st, g, h, hS⟩
  | o :: l, n, st, g, w, a, hd, h, hS, hQ => by
    have hn : ops.toList[n]? = some o := by
      have := congrArg List.head? hd
      rw [List.head?_drop] at this
      simpa using this
    have hi : ops[n]? = some o := by simpa using hn
    have hl : ops.toList.drop (n + 1) = l := by
      rw [← List.drop_drop, hd]; rfl
    have h : (stepP E ops.toList o).run st fun st => opsRun E ops.toList l st Q := h
    rw [List.length_cons, List.range'_succ, wpOps_cons]
    refine wpOp_mono (fun a w hg => ?_) (step_sound T C hi (hin o (List.mem_of_getElem? hn)) h hS)
    obtain ⟨st1, g1, h1, h2⟩ := hg
    exact ops_sound T C hin l (n + 1) st1 g1 w a hl h1 h2 hQ
end
end Go.Am
namespace Go.Am
/-- Two stores have the same at a key. -/
def eqAt (κ : Nat) (st st' : St) : Prop := (∀ t, κ = 3 * t → st.s t = st'.s t) ∧ (∀ i, κ = 3 * i + 1 → st.r i = st'.r i) ∧ ∀ i, κ = 3 * i + 2 → st.b i = st'.b i
theorem eqAt.refl (κ : Nat) (st : St) : eqAt κ st st := ⟨fun _ _ => rfl, fun _ _ => rfl, fun _ _ => rfl⟩
theorem eqAt.symm {κ : Nat} {st st' : St} (h : eqAt κ st st') : eqAt κ st' st := ⟨fun t e => (h.1 t e).symm, fun t e => (h.2.1 t e).symm, fun t e => (h.2.2 t e).symm⟩
theorem eqAt.trans {κ : Nat} {st st' st'' : St} (h : eqAt κ st st') (k : eqAt κ st' st'') : eqAt κ st st'' := ⟨fun t e => (h.1 t e).trans (k.1 t e), fun t e => (h.2.1 t e).trans (k.2.1 t e), fun t e => (h.2.2 t e).trans (k.2.2 t e)⟩
theorem eqAt.ws {κ t : Nat} {st st' : St} {v : AV} (h : κ = 3 * t ∨ eqAt κ st st') : eqAt κ (st.ws t v) (st'.ws t v) := by
  refine ⟨fun n e => ?_, fun i e => ?_, fun i e => ?_⟩
  · rw [St.s_ws, St.s_ws]
    split
    · rfl
    · rcases h with h | h
      · omega
      · exact h.1 n e
  · rcases h with h | h
    · omega
    · exact h.2.1 i e
  · rcases h with h | h
    · omega
    · exact h.2.2 i e
theorem eqAt.wr {κ t : Nat} {st st' : St} {v : RootV} (h : κ = 3 * t + 1 ∨ eqAt κ st st') : eqAt κ (st.wr t v) (st'.wr t v) := by
  refine ⟨fun n e => ?_, fun i e => ?_, fun i e => ?_⟩
  · rcases h with h | h
    · omega
    · exact h.1 n e
  · rw [St.r_wr, St.r_wr]
    split
    · rfl
    · rcases h with h | h
      · omega
      · exact h.2.1 i e
  · rcases h with h | h
    · omega
    · exact h.2.2 i e
theorem eqAt.wb {κ t : Nat} {st st' : St} {v : BoxV} (h : κ = 3 * t + 2 ∨ eqAt κ st st') : eqAt κ (st.wb t v) (st'.wb t v) := by
  refine ⟨fun n e => ?_, fun i e => ?_, fun i e => ?_⟩
  · rcases h with h | h
    · omega
    · exact h.1 n e
  · rcases h with h | h
    · omega
    · exact h.2.1 i e
  · rw [St.b_wb, St.b_wb]
    split
    · rfl
    · rcases h with h | h
      · omega
      · exact h.2.2 i e
theorem eqAt.ws_ne {κ t : Nat} {st : St} {v : AV} (h : κ ≠ 3 * t) : eqAt κ (st.ws t v) st :=
  ⟨fun n e => by rw [St.s_ws, if_neg (by omega)], fun _ _ => rfl, fun _ _ => rfl⟩
theorem eqAt.wr_ne {κ t : Nat} {st : St} {v : RootV} (h : κ ≠ 3 * t + 1) : eqAt κ (st.wr t v) st :=
  ⟨fun _ _ => rfl, fun n e => by rw [St.r_wr, if_neg (by omega)], fun _ _ => rfl⟩
theorem eqAt.wb_ne {κ t : Nat} {st : St} {v : BoxV} (h : κ ≠ 3 * t + 2) : eqAt κ (st.wb t v) st :=
  ⟨fun _ _ => rfl, fun _ _ => rfl, fun n e => by rw [St.b_wb, if_neg (by omega)]⟩
/-- What a program does to stores that agree on what it reads. -/
structure Fr (p : Prog) (st : St) (l l' : Tr) (st1 : St) (R W : List Nat) : Prop where
  rd : l'.rd = R ++ l.rd
  wr : l'.wr = W ++ l.wr
  keep : ∀ κ, κ ∉ W → eqAt κ st1 st
  runs : ∀ Q, p.run st Q → Q st1
  like : ∀ st2, (∀ κ, κ ∈ R → eqAt κ st st2) → ∃ st3, p.tr st2 l = some (l', st3) ∧ (∀ κ, κ ∉ W → eqAt κ st3 st2) ∧ (∀ κ, κ ∈ W → eqAt κ st3 st1) ∧ ∀ Q Q2, p.run st Q → Q2 st3 → p.run st2 Q2
theorem frame : ∀ (p : Prog) (st : St) (l l' : Tr) (st1 : St), p.tr st l = some (l', st1) → ∃ R W, Fr p st l l' st1 R W := by
  intro p
  induction p with
  | fail => intro st l l' st1 h; cases h
  | tt => intro st l l' st1 h; cases h
  | alt c a b ia ib => intro st l l' st1 h; cases h
  | ret =>
    intro st l l' st1 h
    have h : some (l, st) = some (l', st1) := h
    cases h
    exact ⟨[], [], rfl, rfl, fun κ _ => eqAt.refl _ _, fun Q hq => hq, fun st2 _ => ⟨st2, rfl, fun κ _ => eqAt.refl _ _, fun κ hk => (by simp at hk), fun Q Q2 _ h2 => h2⟩⟩
  | rdS t k ih =>
    intro st l l' st1 h
    obtain ⟨R, W, f⟩ := ih (st.s t) st ⟨(3 * t) :: l.rd, l.wr⟩ l' st1 h
    refine ⟨R ++ [3 * t], W, by rw [f.rd]; simp, f.wr, f.keep, f.runs, fun st2 hR => ?_⟩
    have e : st2.s t = st.s t := ((hR (3 * t) (by simp)).1 t rfl).symm
    obtain ⟨st3, h1, h2, h3, h4⟩ := f.like st2 (fun κ hk => hR κ (by simp [hk]))
    exact ⟨st3, by show (k (st2.s t)).tr st2 _ = _; rw [e]; exact h1, h2, h3, fun Q Q2 hq hq2 => by show (k (st2.s t)).run st2 Q2; rw [e]; exact h4 Q Q2 hq hq2⟩
  | rdR t k ih =>
    intro st l l' st1 h
    obtain ⟨R, W, f⟩ := ih (st.r t) st ⟨(3 * t + 1) :: l.rd, l.wr⟩ l' st1 h
    refine ⟨R ++ [3 * t + 1], W, by rw [f.rd]; simp, f.wr, f.keep, f.runs, fun st2 hR => ?_⟩
    have e : st2.r t = st.r t := ((hR (3 * t + 1) (by simp)).2.1 t rfl).symm
    obtain ⟨st3, h1, h2, h3, h4⟩ := f.like st2 (fun κ hk => hR κ (by simp [hk]))
    exact ⟨st3, by show (k (st2.r t)).tr st2 _ = _; rw [e]; exact h1, h2, h3, fun Q Q2 hq hq2 => by show (k (st2.r t)).run st2 Q2; rw [e]; exact h4 Q Q2 hq hq2⟩
  | rdB t k ih =>
    intro st l l' st1 h
    obtain ⟨R, W, f⟩ := ih (st.b t) st ⟨(3 * t + 2) :: l.rd, l.wr⟩ l' st1 h
    refine ⟨R ++ [3 * t + 2], W, by rw [f.rd]; simp, f.wr, f.keep, f.runs, fun st2 hR => ?_⟩
    have e : st2.b t = st.b t := ((hR (3 * t + 2) (by simp)).2.2 t rfl).symm
    obtain ⟨st3, h1, h2, h3, h4⟩ := f.like st2 (fun κ hk => hR κ (by simp [hk]))
    exact ⟨st3, by show (k (st2.b t)).tr st2 _ = _; rw [e]; exact h1, h2, h3, fun Q Q2 hq hq2 => by show (k (st2.b t)).run st2 Q2; rw [e]; exact h4 Q Q2 hq hq2⟩
  | wrS t v k ih =>
    intro st l l' st1 h
    obtain ⟨R, W, f⟩ := ih (st.ws t v) ⟨l.rd, (3 * t) :: l.wr⟩ l' st1 h
    refine ⟨R, W ++ [3 * t], f.rd, by rw [f.wr]; simp, fun κ hk => ?_, f.runs, fun st2 hR => ?_⟩
    · simp only [List.mem_append, List.mem_singleton, not_or] at hk
      exact (f.keep κ hk.1).trans (eqAt.ws_ne hk.2)
    · obtain ⟨st3, h1, h2, h3, h4⟩ := f.like (st2.ws t v) (fun κ hk => eqAt.ws (.inr (hR κ hk)))
      refine ⟨st3, h1, fun κ hk => ?_, fun κ hk => ?_, h4⟩
      · simp only [List.mem_append, List.mem_singleton, not_or] at hk
        exact (h2 κ hk.1).trans (eqAt.ws_ne hk.2)
      · by_cases hw : κ ∈ W
        · exact h3 κ hw
        · have hk : κ = 3 * t := by simpa [hw] using hk
          exact (h2 κ hw).trans ((eqAt.ws (.inl hk)).trans (f.keep κ hw).symm)
  | wrR t v k ih =>
    intro st l l' st1 h
    obtain ⟨R, W, f⟩ := ih (st.wr t v) ⟨l.rd, (3 * t + 1) :: l.wr⟩ l' st1 h
    refine ⟨R, W ++ [3 * t + 1], f.rd, by rw [f.wr]; simp, fun κ hk => ?_, f.runs, fun st2 hR => ?_⟩
    · simp only [List.mem_append, List.mem_singleton, not_or] at hk
      exact (f.keep κ hk.1).trans (eqAt.wr_ne hk.2)
    · obtain ⟨st3, h1, h2, h3, h4⟩ := f.like (st2.wr t v) (fun κ hk => eqAt.wr (.inr (hR κ hk)))
      refine ⟨st3, h1, fun κ hk => ?_, fun κ hk => ?_, h4⟩
      · simp only [List.mem_append, List.mem_singleton, not_or] at hk
        exact (h2 κ hk.1).trans (eqAt.wr_ne hk.2)
      · by_cases hw : κ ∈ W
        · exact h3 κ hw
        · have hk : κ = 3 * t + 1 := by simpa [hw] using hk
          exact (h2 κ hw).trans ((eqAt.wr (.inl hk)).trans (f.keep κ hw).symm)
  | wrB t v k ih =>
    intro st l l' st1 h
    obtain ⟨R, W, f⟩ := ih (st.wb t v) ⟨l.rd, (3 * t + 2) :: l.wr⟩ l' st1 h
    refine ⟨R, W ++ [3 * t + 2], f.rd, by rw [f.wr]; simp, fun κ hk => ?_, f.runs, fun st2 hR => ?_⟩
    · simp only [List.mem_append, List.mem_singleton, not_or] at hk
      exact (f.keep κ hk.1).trans (eqAt.wb_ne hk.2)
    · obtain ⟨st3, h1, h2, h3, h4⟩ := f.like (st2.wb t v) (fun κ hk => eqAt.wb (.inr (hR κ hk)))
      refine ⟨st3, h1, fun κ hk => ?_, fun κ hk => ?_, h4⟩
      · simp only [List.mem_append, List.mem_singleton, not_or] at hk
        exact (h2 κ hk.1).trans (eqAt.wb_ne hk.2)
      · by_cases hw : κ ∈ W
        · exact h3 κ hw
        · have hk : κ = 3 * t + 2 := by simpa [hw] using hk
          exact (h2 κ hw).trans ((eqAt.wb (.inl hk)).trans (f.keep κ hw).symm)
  | vc P k ih =>
    intro st l l' st1 h
    obtain ⟨R, W, f⟩ := ih st l l' st1 h
    refine ⟨R, W, f.rd, f.wr, f.keep, fun Q hq => f.runs Q hq.2, fun st2 hR => ?_⟩
    obtain ⟨st3, h1, h2, h3, h4⟩ := f.like st2 hR
    exact ⟨st3, h1, h2, h3, fun Q Q2 hq hq2 => ⟨hq.1, h4 Q Q2 hq.2 hq2⟩⟩
theorem memN_mem {n : Nat} : ∀ {l : List Nat}, memN n l = true ↔ n ∈ l
  | [] => by simp [memN]
  | m :: l => by
    simp only [memN, orB_true, memN_mem (l := l), List.mem_cons]
    constructor
    · rintro (h | h)
      · exact .inl (Nat.eq_of_beq_eq_true h)
      · exact .inr h
    · rintro (h | h)
      · subst h; exact .inl (Nat.beq_refl n)
      · exact .inr h
theorem meet_mem : ∀ {l m : List Nat}, meet l m = false → ∀ n, n ∈ l → n ∉ m
  | [], _, _, n, h => by simp at h
  | x :: l, m, h, n, hn => by
    have h : orB (memN x m) (meet l m) = false := h
    have h1 : memN x m = false := by revert h; cases memN x m <;> simp [orB]
    have h2 : meet l m = false := by revert h; rw [h1]; exact fun h => h
    rcases List.mem_cons.1 hn with e | e
    · subst e
      intro hm
      rw [memN_mem.2 hm] at h1; cases h1
    · exact meet_mem h2 n e
theorem allL_mem {α : Type} {f : α → Bool} : ∀ {l : List α}, allL f l = true → ∀ x, x ∈ l → f x = true
  | [], _, x, h => by simp at h
  | y :: l, h, x, hx => by
    obtain ⟨h1, h2⟩ := allL_true h
    rcases List.mem_cons.1 hx with e | e
    · rw [e]; exact h1
    · exact allL_mem h2 x e
theorem mem_upto : ∀ {n i : Nat}, i < n → i ∈ upto n
  | n + 1, i, h => by
    show i ∈ cat (upto n) [n]
    rw [cat_eq]
    by_cases e : i = n
    · subst e; simp
    · exact List.mem_append_left _ (mem_upto (by omega))
/-- The stores of a run, one behind the other. -/
def Chain (E : Env) (ops : List Oper) (os : List Oper) (s : Nat → St) (R W : Nat → List Nat) : Prop :=
  ∀ i o, os[i]? = some o → ∃ l', (stepP E ops o).tr (s i) ⟨[], []⟩ = some (l', s (i + 1)) ∧ Fr (stepP E ops o) (s i) ⟨[], []⟩ l' (s (i + 1)) (R i) (W i) ∧ l' = ⟨R i, W i⟩ ∧ ∃ Q, (stepP E ops o).run (s i) Q
theorem trAll_chain {E : Env} {ops : List Oper} : ∀ (os : List Oper) (st : St) (ts : List Tr) (Q : St → Prop), trAll E ops os st = some ts → opsRun E ops os st Q →
    ∃ s R W, s 0 = st ∧ Chain E ops os s R W ∧ Q (s os.length) ∧ ts.length = os.length ∧ ∀ i, i < os.length → nth ts i = some ⟨R i, W i⟩
  | [], st, ts, Q, h, hq => by
    have h : some [] = some ts := h
    cases h
    exact ⟨fun _ => st, fun _ => [], fun _ => [], rfl, fun i o h => by simp at h, hq, rfl, fun i h => by simp at h⟩
  | o :: os, st, ts, Q, h, hq => by
    unfold trAll at h
    split at h
    · rename_i t st' ht
      split at h
      · rename_i l hl
        cases h
        obtain ⟨R0, W0, f⟩ := frame _ _ _ _ _ ht
        have hq : (stepP E ops o).run st fun st => opsRun E ops os st Q := hq
        obtain ⟨s, R, W, h1, h2, h3, h4, h5⟩ := trAll_chain os st' l Q hl (f.runs _ hq)
        have ht' : t = ⟨R0, W0⟩ := by
          have e1 := f.rd; have e2 := f.wr
          cases t
          simp at e1 e2
          rw [e1, e2]
        refine ⟨fun n => match n with | 0 => st | n + 1 => s n, fun n => match n with | 0 => R0 | n + 1 => R n, fun n => match n with | 0 => W0 | n + 1 => W n, rfl, fun i o' hi => ?_, h3, by simp [h4], fun i hi => ?_⟩
        · cases i with
          | zero =>
            simp at hi
            subst hi
            refine ⟨t, ?_, ?_, ht', _, hq⟩
            · show (stepP E ops o).tr st ⟨[], []⟩ = some (t, s 0)
              rw [h1]; exact ht
            · show Fr _ st _ _ (s 0) R0 W0
              rw [h1]; exact f
          | succ i =>
            have := h2 i o' (by simpa using hi)
            exact this
        · cases i with
          | zero => simp [nth, ht']
          | succ i => simpa [nth] using h5 i (by simpa using hi)
      · cases h
    · cases h
theorem mem_uniqN {n : Nat} : ∀ {l : List Nat}, n ∈ uniqN l ↔ n ∈ l
  | [] => by simp [uniqN]
  | m :: l => by
    rw [uniqN]
    cases c : memN m l
    · simp only [iff', List.mem_cons, mem_uniqN (l := l)]
    · simp only [iff', List.mem_cons, mem_uniqN (l := l)]
      exact ⟨.inr, fun h => h.elim (fun e => e ▸ memN_mem.1 c) id⟩
theorem befores_acc : ∀ (os : List Oper) (acc : List (List Nat)), ∃ B, befores os acc = acc ++ B ∧ B.length = os.length ∧
    ∀ i o, os[i]? = some o → (acc ++ B)[acc.length + i]? = some (uniqN (flatL (fun e => e.on :: nthL (acc ++ B.take i) e.on) (filterL sure o.after.toList)))
  | [], acc => ⟨[], by simp [befores], rfl, fun i o h => by simp at h⟩
  | o :: os, acc => by
    obtain ⟨B, h1, h2, h3⟩ := befores_acc os (cat acc [uniqN (flatL (fun e => e.on :: nthL acc e.on) (filterL sure o.after.toList))])
    rw [cat_eq] at h1 h3
    refine ⟨uniqN (flatL (fun e => e.on :: nthL acc e.on) (filterL sure o.after.toList)) :: B, ?_, by simp [h2], fun i o' hi => ?_⟩
    · show befores os (cat acc _) = _
      rw [cat_eq, h1]; simp
    · cases i with
      | zero =>
        simp at hi
        subst hi
        simp
      | succ i =>
        have := h3 i o' (by simpa using hi)
        simp only [List.append_assoc, List.singleton_append, List.length_append, List.length_singleton] at this
        rw [show acc.length + (i + 1) = acc.length + 1 + i from by omega, this]
        simp
theorem mem_flatL {α β : Type} {f : α → List β} {y : β} : ∀ {l : List α}, y ∈ flatL f l ↔ ∃ x, x ∈ l ∧ y ∈ f x
  | [] => by simp [flatL]
  | x :: l => by simp [flatL, cat_eq, mem_flatL (l := l)]
theorem mem_filterL {α : Type} {f : α → Bool} {y : α} : ∀ {l : List α}, y ∈ filterL f l ↔ y ∈ l ∧ f y = true
  | [] => by simp [filterL]
  | x :: l => by
    simp only [filterL]
    cases hx : f x
    · simp only [iff', mem_filterL (l := l), List.mem_cons]
      constructor
      · rintro ⟨h1, h2⟩; exact ⟨.inr h1, h2⟩
      · rintro ⟨rfl | h1, h2⟩
        · rw [hx] at h2; cases h2
        · exact ⟨h1, h2⟩
    · simp only [iff', List.mem_cons, mem_filterL (l := l)]
      constructor
      · rintro (rfl | ⟨h1, h2⟩)
        · exact ⟨.inl rfl, hx⟩
        · exact ⟨.inr h1, h2⟩
      · rintro ⟨rfl | h1, h2⟩
        · exact .inl rfl
        · exact .inr ⟨h1, h2⟩
theorem sure_binds (e : Edge) : sure e = Region.binds .any e := by
  unfold sure Region.binds
  cases e.ground <;> rfl
end Go.Am
namespace Go.Am
theorem nthL_eq {α : Type} (l : List (List α)) (i : Nat) : nthL l i = l[i]?.getD [] := by
  unfold nthL
  rw [nth_get]
  cases l[i]? <;> rfl
/-- What must have come before each operation. -/
structure Befs (os : List Oper) (B : Nat → List Nat) : Prop where
  lt : ∀ j, j < os.length → ∀ i, i ∈ B j → i < j
  mem : ∀ (j : Nat) o i, os[j]? = some o → (i ∈ B j ↔ ∃ e, e ∈ o.after.toList ∧ Region.binds .any e = true ∧ (i = e.on ∨ i ∈ B e.on))
theorem befs {os : List Oper} (h : ∀ j, j < os.length → ∀ i, i ∈ nthL (befores os []) j → i < j) : Befs os (nthL (befores os [])) := by
  obtain ⟨B, h1, h2, h3⟩ := befores_acc os []
  rw [List.nil_append] at h1
  refine ⟨h, fun j o i ho => ?_⟩
  have hj : j < os.length := (List.getElem?_eq_some_iff.1 ho).1
  have hb := h3 j o ho
  rw [List.nil_append, List.length_nil, Nat.zero_add] at hb
  simp only [List.nil_append] at hb
  have hbj : nthL (befores os []) j = uniqN (flatL (fun e => e.on :: nthL (B.take j) e.on) (filterL sure o.after.toList)) := by
    rw [h1, nthL_eq, hb]; rfl
  rw [hbj, mem_uniqN, mem_flatL]
  have key : ∀ e, e ∈ filterL sure o.after.toList → e.on < j := by
    intro e he
    refine h j hj e.on ?_
    rw [hbj, mem_uniqN, mem_flatL]
    exact ⟨e, he, by simp⟩
  have hnth : ∀ m, m < j → nthL (B.take j) m = nthL (befores os []) m := by
    intro m hm
    rw [h1, nthL_eq, nthL_eq, List.getElem?_take, if_pos hm]
  constructor
  · rintro ⟨e, he, hi⟩
    have hon := key e he
    obtain ⟨e1, e2⟩ := mem_filterL.1 he
    refine ⟨e, e1, by rw [← sure_binds]; exact e2, ?_⟩
    rcases List.mem_cons.1 hi with hi | hi
    · exact .inl hi
    · right; rw [hnth _ hon] at hi; exact hi
  · rintro ⟨e, e1, e2, hi⟩
    have he : e ∈ filterL sure o.after.toList := mem_filterL.2 ⟨e1, by rw [sure_binds]; exact e2⟩
    have hon := key e he
    refine ⟨e, he, ?_⟩
    rcases hi with hi | hi
    · rw [hi]; simp
    · rw [← hnth _ hon] at hi; simp [hi]
theorem last_or (W : Nat → List Nat) (κ : Nat) : ∀ (n : Nat), (∃ k, k < n ∧ κ ∈ W k ∧ ∀ j, j < n → κ ∈ W j → j ≤ k) ∨ ∀ j, j < n → κ ∉ W j
  | 0 => .inr fun j hj => by omega
  | n + 1 => by
    by_cases h : κ ∈ W n
    · exact .inl ⟨n, by omega, h, fun j hj _ => by omega⟩
    · rcases last_or W κ n with ⟨k, h1, h2, h3⟩ | h1
      · refine .inl ⟨k, by omega, h2, fun j hj hw => ?_⟩
        by_cases e : j = n
        · subst e; exact absurd hw h
        · exact h3 j (by omega) hw
      · refine .inr fun j hj => ?_
        by_cases e : j = n
        · subst e; exact h
        · exact h1 j (by omega)
theorem chain_keep {E : Env} {ops os : List Oper} {s : Nat → St} {R W : Nat → List Nat} (h : Chain E ops os s R W) {κ : Nat} {a : Nat} : ∀ (b : Nat), a ≤ b → b ≤ os.length → (∀ j, a ≤ j → j < b → κ ∉ W j) → eqAt κ (s b) (s a)
  | 0, h1, _, _ => by
    have : a = 0 := by omega
    subst this; exact eqAt.refl _ _
  | b + 1, h1, h2, h3 => by
    by_cases e : a = b + 1
    · subst e; exact eqAt.refl _ _
    · have ih := chain_keep h b (by omega) (by omega) (fun j hj hb => h3 j hj (by omega))
      obtain ⟨l', _, f, _⟩ := h b os[b] (List.getElem?_eq_getElem (by omega))
      exact (f.keep κ (h3 b (by omega) (by omega))).trans ih
section
variable {P : Program} {E : Env} {S : Start} {st st' : St} {g g' : Gh} {w w' : World} {a : Act} {Q : St → Prop} {gd : Gd} {o : Oper} {Qx : Exit → Act → World → Prop}
/-- Where a set of operations has been done: each key has what its last writer gave it. -/
def Done (n : Nat) (s : Nat → St) (W : Nat → List Nat) (L : Nat → Prop) (cur : St) : Prop :=
  ∀ κ, (∀ k, k < n → L k → κ ∈ W k → (∀ j, j < n → L j → κ ∈ W j → j ≤ k) → eqAt κ cur (s (k + 1))) ∧ ((∀ k, k < n → L k → κ ∉ W k) → eqAt κ cur (s 0))
def lset (listed : Array Bool) (i : Nat) : Prop := listed.getD i false = true
theorem getD_set {listed : Array Bool} {i j : Nat} (hi : i < listed.size) : (listed.setIfInBounds i true).getD j false = if i = j then true else listed.getD j false := by
  simp only [Array.getD_eq_getD_getElem?, Array.getElem?_setIfInBounds]
  by_cases e : i = j
  · subst e; simp [hi]
  · simp [e]
theorem draw_sound {ops : Array Oper} (T : TabOk P E) (C : CallOk P E) (hin : ∀ o ∈ ops.toList, OpIn E S.n o) {s : Nat → St} {R W : Nat → List Nat} (hch : Chain E ops.toList ops.toList s R W)
    (hB : Befs ops.toList (nthL (befores ops.toList [])))
    (hap : ∀ i j, i < j → j < ops.size → i ∈ nthL (befores ops.toList []) j ∨ ((∀ κ, κ ∈ W i → κ ∉ R j) ∧ (∀ κ, κ ∈ W i → κ ∉ W j) ∧ ∀ κ, κ ∈ W j → κ ∉ R i))
    (hQ : ∀ a w st g, (∀ κ, eqAt κ st (s ops.size)) → Sim S st g w a → Qx .normal a w) :
    ∀ (fuel : Nat) (listed : Array Bool) (cur : St) (g : Gh) (w : World) (a : Act), listed.size = ops.size → (∀ i, i < ops.size → lset listed i → ∀ j, j ∈ nthL (befores ops.toList []) i → lset listed j) →
      ((List.range ops.size).filter fun i => !listed.getD i false).length ≤ fuel → Done ops.size s W (lset listed) cur → Sim S cur g w a → wpAny P .any ops Qx fuel listed a w := by
  have hlen : ops.toList.length = ops.size := by simp
  -- what is ready
  have ready : ∀ (listed : Array Bool), listed.size = ops.size → ∀ i, i ∈ Region.ready .any ops listed ↔ i < ops.size ∧ ¬ lset listed i ∧ ∃ o, ops[i]? = some o ∧ ∀ e ∈ o.after.toList, Region.binds .any e = true → lset listed e.on := by
    intro listed hs i
    unfold Region.ready
    rw [List.mem_filter, List.mem_range]
    constructor
    · rintro ⟨h1, h2⟩
      have hi : ops[i]? = some ops[i] := Array.getElem?_eq_getElem h1
      rw [hi] at h2
      have hd : listed.getD i true = listed.getD i false := by
        simp [Array.getD_eq_getD_getElem?, Array.getElem?_eq_getElem (show i < listed.size by omega)]
      rw [hd] at h2
      simp only [Option.map_some, Option.getD_some, Bool.and_eq_true, Bool.not_eq_true'] at h2
      refine ⟨h1, by unfold lset; rw [h2.1]; simp, _, hi, fun e he hb => ?_⟩
      have h3 := h2.2
      rw [Array.all_eq_true'] at h3
      have := h3 e (by simpa using he)
      rw [hb] at this
      unfold lset
      simpa using this
    · rintro ⟨h1, h2, o, hi, h3⟩
      refine ⟨h1, ?_⟩
      have hd : listed.getD i true = listed.getD i false := by
        simp [Array.getD_eq_getD_getElem?, Array.getElem?_eq_getElem (show i < listed.size by omega)]
      rw [hi, hd]
      unfold lset at h2
      simp only [Option.map_some, Option.getD_some, Bool.and_eq_true, Bool.not_eq_true']
      refine ⟨by simpa using h2, ?_⟩
      rw [Array.all_eq_true']
      intro e he
      have h4 := h3 e (by simpa using he)
      cases hb : Region.binds .any e
      · rfl
      · have := h4 hb
        unfold lset at this
        simp [this]
  -- nothing ready: all done
  have full : ∀ (listed : Array Bool), listed.size = ops.size → Region.ready .any ops listed = [] → ∀ i, i < ops.size → lset listed i := by
    intro listed hs he i
    induction i using Nat.strongRecOn with
    | _ i ih =>
      intro hi
      by_cases h : lset listed i
      · exact h
      · exfalso
        have hio : ops[i]? = some ops[i] := Array.getElem?_eq_getElem hi
        have : i ∈ Region.ready .any ops listed := (ready listed hs i).2 ⟨hi, h, ops[i], hio, fun e he hb => by
          have hlt := hB.lt i (by rw [hlen]; exact hi) e.on ((hB.mem i ops[i] e.on (by simp [hio])).2 ⟨e, he, hb, .inl rfl⟩)
          exact ih e.on hlt (by omega)⟩
        rw [he] at this; simp at this
  have finish : ∀ (listed : Array Bool) (cur : St) (g : Gh) (w : World) (a : Act), listed.size = ops.size → Done ops.size s W (lset listed) cur → Sim S cur g w a → Region.ready .any ops listed = [] → Qx .normal a w := by
    intro listed cur g w a hs hd hS he
    have hall := full listed hs he
    refine hQ a w cur g (fun κ => ?_) hS
    rcases last_or W κ ops.size with ⟨k, h1, h2, h3⟩ | h1
    · refine ((hd κ).1 k h1 (hall k h1) h2 (fun j hj _ hw => h3 j hj hw)).trans ?_
      refine (chain_keep hch ops.size (by omega) (by rw [hlen]; exact Nat.le_refl _) (fun j hj hj' hw => ?_)).symm
      have := h3 j hj' hw; omega
    · exact ((hd κ).2 (fun k hk _ => h1 k hk)).trans (chain_keep hch ops.size (Nat.zero_le _) (by rw [hlen]; exact Nat.le_refl _) (fun j _ hj => h1 j hj)).symm
  intro fuel
  induction fuel with
  | zero =>
    intro listed cur g w a hs hcl hf hd hS
    have he : Region.ready .any ops listed = [] := by
      apply List.eq_nil_iff_forall_not_mem.2
      intro i hi
      obtain ⟨h1, h2, _⟩ := (ready listed hs i).1 hi
      have : i ∈ (List.range ops.size).filter fun i => !listed.getD i false := by
        rw [List.mem_filter, List.mem_range]
        unfold lset at h2
        exact ⟨h1, by simpa using h2⟩
      have := List.length_pos_of_mem this
      omega
    exact ⟨he, finish listed cur g w a hs hd hS he⟩
  | succ fuel ih =>
    intro listed cur g w a hs hcl hf hd hS
    refine ⟨finish listed cur g w a hs hd hS, fun i hi => ?_⟩
    obtain ⟨h1, h2, o, ho, h3⟩ := (ready listed hs i).1 hi
    have ho' : ops.toList[i]? = some o := by simpa using ho
    obtain ⟨l', c1, c2, c3, Q0, c4⟩ := hch i o ho'
    -- all that comes before it has been done
    have hbef : ∀ j, j ∈ nthL (befores ops.toList []) i → lset listed j := by
      intro j hj
      obtain ⟨e, e1, e2, e3⟩ := (hB.mem i o j ho').1 hj
      have hon := h3 e e1 e2
      rcases e3 with e3 | e3
      · rw [e3]; exact hon
      · have hlt := hB.lt i (by rw [hlen]; exact h1) e.on ((hB.mem i o e.on ho').2 ⟨e, e1, e2, .inl rfl⟩)
        exact hcl e.on (by omega) hon j e3
    -- whoever has been done and comes later meets it not
    have hlater : ∀ k, k < ops.size → lset listed k → i < k → (∀ κ, κ ∈ W i → κ ∉ R k) ∧ (∀ κ, κ ∈ W i → κ ∉ W k) ∧ ∀ κ, κ ∈ W k → κ ∉ R i := by
      intro k hk hl hik
      rcases hap i k hik hk with h | h
      · exact absurd (hcl k hk hl i h) h2
      · exact h
    -- it reads what it read in the order of the text
    have hread : ∀ κ, κ ∈ R i → eqAt κ (s i) cur := by
      intro κ hκ
      rcases last_or W κ i with ⟨k, q1, q2, q3⟩ | q1
      · have hkL : lset listed k := by
          rcases hap k i q1 h1 with h | h
          · exact hbef k h
          · exact absurd hκ (h.1 κ q2)
        have hcur := (hd κ).1 k (by omega) hkL q2 (fun j hj hl hw => by
          by_cases hji : j < i
          · exact q3 j hji hw
          · by_cases e : j = i
            · subst e; exact absurd hl h2
            · exact absurd hκ ((hlater j hj hl (by omega)).2.2 κ hw))
        refine (chain_keep hch i (by omega) (by rw [hlen]; omega) (fun j hj hj' hw => ?_)).trans hcur.symm
        have := q3 j hj' hw; omega
      · have hcur := (hd κ).2 (fun j hj hl hw => by
          by_cases hji : j < i
          · exact q1 j hji hw
          · by_cases e : j = i
            · subst e; exact absurd hl h2
            · exact absurd hκ ((hlater j hj hl (by omega)).2.2 κ hw))
        exact (chain_keep hch i (Nat.zero_le _) (by rw [hlen]; omega) (fun j _ hj => q1 j hj)).trans hcur.symm
    obtain ⟨st3, f1, f2, f3, f4⟩ := c2.like cur hread
    have hrun : (stepP E ops.toList o).run cur (· = st3) := f4 Q0 _ c4 rfl
    refine wpOp_mono (fun a' w' hg => ?_) (step_sound (Qx := Qx) T C ho (hin o (List.mem_of_getElem? ho')) hrun hS)
    obtain ⟨st4, g4, e4, hS4⟩ := hg
    subst e4
    have hset : ∀ j, lset (listed.setIfInBounds i true) j ↔ i = j ∨ lset listed j := by
      intro j
      unfold lset
      rw [getD_set (by omega)]
      by_cases e : i = j
      · simp [e]
      · simp [e]
    refine ih _ st4 g4 w' a' (by simp [hs]) (fun j hj hl k hk => ?_) ?_ (fun κ => ?_) hS4
    · rw [hset]
      rcases (hset j).1 hl with e | hl
      · subst e; exact .inr (hbef k hk)
      · exact .inr (hcl j hj hl k hk)
    · have hlt : ((List.range ops.size).filter fun j => !(listed.setIfInBounds i true).getD j false).length < ((List.range ops.size).filter fun j => !listed.getD j false).length := by
        have hsub : ((List.range ops.size).filter fun j => !(listed.setIfInBounds i true).getD j false) = (((List.range ops.size).filter fun j => !listed.getD j false).filter fun j => !decide (i = j)) := by
          rw [List.filter_filter]
          apply List.filter_congr
          intro j _
          rw [getD_set (by omega)]
          by_cases e : i = j
          · simp [e]
          · simp [e]
        rw [hsub]
        refine Nat.lt_of_le_of_ne (List.length_filter_le _ _) fun he => ?_
        have := List.length_filter_eq_length_iff.1 he i (by
          rw [List.mem_filter, List.mem_range]
          unfold lset at h2
          exact ⟨h1, by simpa using h2⟩)
        simp at this
      omega
    · by_cases hw : κ ∈ W i
      · refine ⟨fun k hk hl hkw hlast => ?_, fun hno => absurd hw (hno i h1 ((hset i).2 (.inl rfl)))⟩
        have hik := hlast i h1 ((hset i).2 (.inl rfl)) hw
        have e : k = i := by
          by_cases e : i = k
          · exact e.symm
          · rcases (hset k).1 hl with e' | hl
            · exact e'.symm
            · exact absurd hkw ((hlater k hk hl (by omega)).2.1 κ hw)
        subst e
        exact f3 κ hw
      · refine ⟨fun k hk hl hkw hlast => ?_, fun hno => (f2 κ hw).trans ((hd κ).2 fun k hk hl => hno k hk ((hset k).2 (.inr hl)))⟩
        rcases (hset k).1 hl with e | hl
        · subst e; exact absurd hkw hw
        · exact (f2 κ hw).trans ((hd κ).1 k hk hl hkw fun j hj hl hjw => hlast j hj ((hset j).2 (.inr hl)) hjw)
theorem region_draw {ops : Array Oper} {id : Nat} (T : TabOk P E) (C : CallOk P E) (hm : P.follows .mixedOrders = true) (hin : ∀ o ∈ ops.toList, OpIn E S.n o) (h1 : drawOk E ops.toList st = true) (h2 : opsRun E ops.toList ops.toList st Q) (hS : Sim S st g w a)
    (hQ : ∀ a w, Good S Q a w → Qx .normal a w) : (Code.region id ops true).wp P Qx a w := by
  unfold drawOk at h1
  split at h1
  · cases h1
  · rename_i ts hts
    obtain ⟨s, R, W, s0, hch, hq, hl, hnth⟩ := trAll_chain _ _ _ _ hts h2
    have hlen : ops.toList.length = ops.size := by simp
    rw [← lenL_eq, hlen] at h1
    rw [hlen] at hnth hq
    have hj : ∀ j, j < ops.size → (∀ i, i ∈ nthL (befores ops.toList []) j → i < j) ∧ ∀ i, i < j → pairOk (befores ops.toList []) ts i j = true := by
      intro j hj
      have := allL_mem h1 j (mem_upto hj)
      obtain ⟨q1, q2⟩ := andB_true.1 this
      exact ⟨fun i hi => by
        have := allL_mem q1 i hi
        exact Nat.le_of_ble_eq_true (by simpa [Nat.blt] using this), fun i hi => allL_mem q2 i (mem_upto hi)⟩
    refine wp_region_any hm (draw_sound (s := s) (R := R) (W := W) T C hin hch (befs fun j hj' i hi => (hj j (by rw [← hlen]; exact hj')).1 i hi) (fun i j hij hj' => ?_) (fun a w st g he hS => ?_) ops.size _ st g _ a (by simp) (fun i hi hl => ?_) ?_ (fun κ => ⟨fun k hk hl => ?_, fun _ => ?_⟩) ?_)
    · have := (hj j hj').2 i hij
      unfold pairOk at this
      rw [hnth i (by omega), hnth j hj'] at this
      rcases orB_true.1 this with h | h
      · exact .inl (memN_mem.1 h)
      · right
        have h := notB_true.1 h
        have d1 : meet (W i) (R j) = false := by revert h; cases meet (W i) (R j) <;> simp [orB]
        have d2 : meet (W i) (W j) = false := by revert h; cases meet (W i) (R j) <;> cases meet (W i) (W j) <;> simp [orB]
        have d3 : meet (W j) (R i) = false := by revert h; cases meet (W i) (R j) <;> cases meet (W i) (W j) <;> cases meet (W j) (R i) <;> simp [orB]
        exact ⟨meet_mem d1, meet_mem d2, meet_mem d3⟩
    · refine hQ a w ⟨s ops.size, g, hq, hS.ext (fun t => ?_) (fun t => ?_) (fun t => ?_)⟩
      · exact ((he (3 * t)).1 t rfl).symm
      · exact ((he (3 * t + 1)).2.1 t rfl).symm
      · exact ((he (3 * t + 2)).2.2 t rfl).symm
    · unfold lset at hl
      simp [Array.getD_eq_getD_getElem?, hi] at hl
    · exact Nat.le_trans (List.length_filter_le _ _) (by simp)
    · unfold lset at hl
      simp [Array.getD_eq_getD_getElem?, hk] at hl
    · rw [s0]; exact eqAt.refl _ _
    · exact (hS.next (st' := st) (g' := g) (w' := { w with drawn := w.drawn + 1 }) (fun _ => rfl) (fun _ hb => ⟨hb, rfl⟩) (fun r => .inl ⟨rfl, rfl, fun _ _ h => ⟨h, rfl⟩⟩) (fun b => .inl ⟨rfl, rfl, fun _ h => ⟨h, rfl⟩⟩) hS.own rfl rfl rfl (Nat.le_refl _) (fun _ h => ⟨h, rfl⟩)).1
end
end Go.Am
namespace Go.Am
theorem ren_mem : ∀ {l : List (Nat × Nat)} {i j : Nat}, ren l i = some j → (i, j) ∈ l
  | [], i, j, h => by cases h
  | (a, b) :: l, i, j, h => by
    have h : look none ((a, some b) :: mapL (fun p => (p.1, some p.2)) l) i = some j := h
    rw [look_cons] at h
    by_cases e : a = i
    · rw [if_pos e] at h
      cases h; subst e; simp
    · rw [if_neg e] at h
      exact List.mem_cons_of_mem _ (ren_mem h)
theorem look_mem {α : Type} (d : α) : ∀ {l : List (Nat × α)} {i : Nat}, look d l i = d ∨ (i, look d l i) ∈ l
  | [], i => .inl rfl
  | (a, b) :: l, i => by
    rw [look_cons]
    by_cases e : a = i
    · rw [if_pos e]; subst e; exact .inr (by simp)
    · rw [if_neg e]
      rcases look_mem d (l := l) (i := i) with h | h
      · exact .inl h
      · exact .inr (List.mem_cons_of_mem _ h)
theorem allP_mem {α : Type} {P : α → Prop} : ∀ {l : List α}, allP P l → ∀ x, x ∈ l → P x
  | [], _, x, h => by simp at h
  | [y], h, x, hx => by simp at hx; rw [hx]; exact h
  | y :: z :: l, h, x, hx => by
    have h : P y ∧ allP P (z :: l) := h
    rcases List.mem_cons.1 hx with e | e
    · rw [e]; exact h.1
    · exact allP_mem h.2 x e
theorem inj_mem : ∀ {l : List (Nat × Nat)}, inj l = true → ∀ a b c d, (a, b) ∈ l → (c, d) ∈ l → (a = c ∨ b = d) → a = c ∧ b = d
  | [], _, a, b, c, d, h, _, _ => by simp at h
  | (x, y) :: l, h, a, b, c, d, h1, h2, h3 => by
    obtain ⟨g1, g2⟩ := andB_true.1 (show andB (allL (fun p => notB (orB (Nat.beq x p.1) (Nat.beq y p.2))) l) (inj l) = true from h)
    have key : ∀ a b, (a, b) ∈ l → x ≠ a ∧ y ≠ b := by
      intro a b hm
      have h4 := notB_true.1 (allL_mem g1 _ hm)
      constructor
      · rintro rfl
        have : Nat.beq x x = true := Nat.beq_refl x
        simp [orB] at h4
      · rintro rfl
        have : Nat.beq y y = true := Nat.beq_refl y
        revert h4; simp only [this]
        cases Nat.beq x a <;> simp [orB]
    rcases List.mem_cons.1 h1 with e1 | e1
    · rcases List.mem_cons.1 h2 with e2 | e2
      · cases e1; cases e2; exact ⟨rfl, rfl⟩
      · cases e1
        obtain ⟨n1, n2⟩ := key c d e2
        rcases h3 with h3 | h3
        · exact absurd h3 n1
        · exact absurd h3 n2
    · rcases List.mem_cons.1 h2 with e2 | e2
      · cases e2
        obtain ⟨n1, n2⟩ := key a b e1
        rcases h3 with h3 | h3
        · exact absurd h3.symm n1
        · exact absurd h3.symm n2
      · exact inj_mem g2 a b c d e1 e2 h3
open Classical in
/-- Owners renamed. -/
noncomputable def mapC (rR rB : List (Nat × Nat)) (x : Nat) : Option Nat :=
  if x = 1 then some 1
  else if h : ∃ j i, (j, i) ∈ rR ∧ x = 2 * i then some (2 * Classical.choose h)
  else if h : ∃ j i, (j, i) ∈ rB ∧ x = 2 * i + 3 then some (2 * Classical.choose h + 3)
  else none
theorem mapC_far (rR rB : List (Nat × Nat)) : mapC rR rB 1 = some 1 := by simp [mapC]
theorem mapC_root {rR rB : List (Nat × Nat)} (hi : inj rR = true) {j i : Nat} (h : (j, i) ∈ rR) : mapC rR rB (2 * i) = some (2 * j) := by
  have hex : ∃ j' i', (j', i') ∈ rR ∧ 2 * i = 2 * i' := ⟨j, i, h, rfl⟩
  unfold mapC
  rw [if_neg (by omega), dif_pos hex]
  obtain ⟨i', h1, h2⟩ := Classical.choose_spec hex
  have := inj_mem hi _ _ _ _ h h1 (.inr (by omega))
  rw [← this.1]
theorem mapC_box {rR rB : List (Nat × Nat)} (hi : inj rB = true) {j i : Nat} (h : (j, i) ∈ rB) : mapC rR rB (2 * i + 3) = some (2 * j + 3) := by
  have hex : ∃ j' i', (j', i') ∈ rB ∧ 2 * i + 3 = 2 * i' + 3 := ⟨j, i, h, rfl⟩
  unfold mapC
  rw [if_neg (by omega), dif_neg (by rintro ⟨j', i', _, h⟩; omega), dif_pos hex]
  obtain ⟨i', h1, h2⟩ := Classical.choose_spec hex
  have := inj_mem hi _ _ _ _ h h1 (.inr (by omega))
  rw [← this.1]
section
variable {P : Program} {E : Env} {S : Start} {st st' : St} {g g' : Gh} {w w' : World} {a : Act} {Q : St → Prop} {gd : Gd} {o : Oper} {Qx : Exit → Act → World → Prop}
theorem rc_eq {a b : RC} (h : a.eqP b) : a = b := by
  unfold RC.eqP at h
  split at h
  · rename_i hk _
    obtain ⟨k, xs, i⟩ := a
    obtain ⟨k', ys, j⟩ := b
    have hk : k' = k := hk
    subst hk
    have h : iff' (iff' i j (notB j)) (xs = ys) False := h
    cases i <;> cases j <;> simp [iff', notB] at h
    all_goals rw [h]
  · exact h.elim
theorem iffP {c : Bool} {p : Prop} (h : iff' c p False) : c = true ∧ p := by
  cases c
  · exact h.elim
  · exact ⟨rfl, h⟩
/-- What a renaming must bring. -/
structure Ren (st st' : St) (g g' : Gh) (w : World) (rR rB : List (Nat × Nat)) : Prop where
  U : ∀ b, g.U w b → g'.U w b
  root : ∀ r rc, (st'.r r).c = some rc → ∃ i, ren rR r = some i ∧ (st.r i).c = some rc ∧ (st.r i).hole = none ∧ (st'.r r).hole = none ∧ (st'.r r).gen = 0 ∧ (st'.r r).hc = 0
  lay : ∀ r i, ren rR r = some i → g'.lay r = g.lay i
  box : ∀ b v, (st'.b b).c = some v → ∃ i u, ren rB b = some i ∧ (st.b i).c = some u ∧ v.ok = true ∧ (st'.b b).gen = 0 ∧ ((st'.b b).ro = (st.b i).ro) ∧ v.eqP (ren rR) (ren rB) st.r st.b u
  bx : ∀ b i, ren rB b = some i → g'.bx b = g.bx i
theorem eqP_like {rr rb : Nat → Option Nat} {sr : Nat → RootV} {sb : Nat → BoxV} : ∀ {u v : AV}, u.eqP rr rb sr sb v → u.ok = true → u.like v = true := by
  intro u
  induction u with
  | pr a b ia ib =>
    intro v h ho
    obtain ⟨o1, o2⟩ := andB_true.1 (show andB a.ok b.ok = true from ho)
    cases v <;> first | exact h.elim | skip
    exact andB_true.2 ⟨ia h.1 o1, ib h.2 o2⟩
  | dead => intro v h ho; simp [AV.ok] at ho
  | _ => intro v h ho; cases v <;> first | rfl | exact h.elim | (simp [AV.eqP] at h)
theorem Rep.rename {rR rB : List (Nat × Nat)} (hr : Ren st st' g g' w rR rB) : ∀ {u v : AV} {cs : List Value}, u.eqP (ren rR) (ren rB) st.r st.b v → Rep st g w v cs → Rep st' g' w u cs := by
  intro u
  induction u with
  | dead => exact fun _ _ => trivial
  | int ik m =>
    intro v cs h hv
    cases v <;> first | exact h.elim | skip
    obtain ⟨h1, h2⟩ := iffP h
    have e := eqIK_eq h1
    subst e; subst h2; exact hv
  | bool b =>
    intro v cs h hv
    cases v <;> first | exact h.elim | skip
    have h : b = _ := h
    subst h; exact hv
  | pr a b ia ib =>
    intro v cs h hv
    cases v <;> first | exact h.elim | skip
    obtain ⟨c1, c2, e, h1, h2⟩ := hv
    exact ⟨c1, c2, e, ia h.1 h1, ib h.2 h2⟩
  | nils => intro v cs h hv; cases v <;> first | exact h.elim | exact hv
  | nilp => intro v cs h hv; cases v <;> first | exact h.elim | exact hv
  | vsl k xs =>
    intro v cs h hv
    cases v <;> first | exact h.elim | skip
    · have h : xs = [] := h
      subst h
      exact ⟨none, 0, hv, Nat.le_refl _, fun _ h => (by cases h), fun i hi => (by simp at hi)⟩
    · rename_i k' ys
      have h : match K.same k' k with | some ⟨h⟩ => xs = h ▸ ys | none => False := h
      split at h
      · rename_i hk _
        have hk : k' = k := hk
        subst hk
        have h : xs = ys := h
        subst h
        exact RV.mono (fun b hb => ⟨hr.U b hb, rfl⟩) hv
      · exact h.elim
  | rf r gen hc p =>
    intro v cs h hv
    cases v <;> first | exact h.elim | skip
    rename_i r' gen' hc' p'
    have h : match ren rR r with
      | some i => iff' (andB (andB (Nat.beq i r') (andB (Nat.beq gen 0) (Nat.beq hc 0))) (andB (Nat.beq gen' (st.r i).gen) (orB (Nat.beq hc' (st.r i).hc) (Nat.blt (ix p') 1)))) (p = p') False
      | none => False := h
    split at h
    · rename_i i hi
      obtain ⟨h1, h2⟩ := iffP h
      subst h2
      obtain ⟨h3, h4⟩ := andB_true.1 h1
      obtain ⟨h5, h6⟩ := andB_true.1 h3
      obtain ⟨h7, h8⟩ := andB_true.1 h6
      obtain ⟨h9, h10⟩ := andB_true.1 h4
      have e1 := Nat.eq_of_beq_eq_true h5
      have e2 := Nat.eq_of_beq_eq_true h7
      have e3 := Nat.eq_of_beq_eq_true h8
      have e4 := Nat.eq_of_beq_eq_true h9
      subst e1 e2 e3
      obtain ⟨v1, v2, v3⟩ := hv
      refine ⟨v1, ⟨Nat.zero_le _, fun _ => Nat.zero_le _⟩, fun rc hval => ?_⟩
      obtain ⟨i', q1, q2, q3, q4, q5, q6⟩ := hr.root r rc hval.1
      have e5 : i' = i := by rw [hi] at q1; exact (Option.some.inj q1).symm
      subst e5
      have := v3 rc ⟨q2, e4, by
        rcases hval.2.2 with k1 | ⟨k1, k2⟩
        · exact .inl k1
        · rcases orB_true.1 h10 with k3 | k3
          · exact .inr ⟨k1, Nat.eq_of_beq_eq_true k3⟩
          · exact .inl (Nat.le_of_ble_eq_true k3)⟩
      rw [hr.lay r i' hi]
      exact this
    · exact h.elim
  | cut r gen hc p lo hi => intro v cs h hv; cases v <;> exact h.elim
  | rp r gen hc p =>
    intro v cs h hv
    cases v <;> first | exact h.elim | skip
    rename_i r' gen' hc' p'
    have h : match ren rR r with
      | some i => iff' (andB (andB (Nat.beq i r') (andB (Nat.beq gen 0) (Nat.beq hc 0))) (andB (Nat.beq gen' (st.r i).gen) (orB (Nat.beq hc' (st.r i).hc) (Nat.blt (ix p') 2)))) (p = p') False
      | none => False := h
    split at h
    · rename_i i hi
      obtain ⟨h1, h2⟩ := iffP h
      subst h2
      obtain ⟨h3, h4⟩ := andB_true.1 h1
      obtain ⟨h5, h6⟩ := andB_true.1 h3
      obtain ⟨h7, h8⟩ := andB_true.1 h6
      obtain ⟨h9, h10⟩ := andB_true.1 h4
      have e1 := Nat.eq_of_beq_eq_true h5
      have e2 := Nat.eq_of_beq_eq_true h7
      have e3 := Nat.eq_of_beq_eq_true h8
      have e4 := Nat.eq_of_beq_eq_true h9
      subst e1 e2 e3
      obtain ⟨v1, v2, v3⟩ := hv
      refine ⟨v1, ⟨Nat.zero_le _, fun _ => Nat.zero_le _⟩, fun rc hval => ?_⟩
      obtain ⟨i', q1, q2, q3, q4, q5, q6⟩ := hr.root r rc hval.1
      have e5 : i' = i := by rw [hi] at q1; exact (Option.some.inj q1).symm
      subst e5
      have := v3 rc ⟨q2, e4, by
        rcases hval.2.2 with k1 | ⟨k1, k2⟩
        · exact .inl k1
        · rcases orB_true.1 h10 with k3 | k3
          · exact .inr ⟨k1, Nat.eq_of_beq_eq_true k3⟩
          · exact .inl (Nat.le_of_ble_eq_true k3)⟩
      rw [hr.lay r i' hi]
      exact this
    · exact h.elim
  | pb b gen p =>
    intro v cs h hv
    cases v <;> first | exact h.elim | skip
    rename_i b' gen' p'
    have h : match ren rB b with
      | some i => iff' (andB (Nat.beq i b') (andB (Nat.beq gen 0) (Nat.beq gen' (st.b i).gen))) (p = p') False
      | none => False := h
    split at h
    · rename_i i hi
      obtain ⟨h1, h2⟩ := iffP h
      subst h2
      obtain ⟨h3, h4⟩ := andB_true.1 h1
      obtain ⟨h5, h6⟩ := andB_true.1 h4
      have e1 := Nat.eq_of_beq_eq_true h3
      have e2 := Nat.eq_of_beq_eq_true h5
      have e3 := Nat.eq_of_beq_eq_true h6
      subst e1 e2
      obtain ⟨v1, v2, v3⟩ := hv
      refine ⟨v1, Nat.zero_le _, fun x hx _ => ?_⟩
      obtain ⟨i', u, q1, q2, q3, q4, q5, q6⟩ := hr.box b x hx
      have e5 : i' = i := by rw [hi] at q1; exact (Option.some.inj q1).symm
      subst e5
      obtain ⟨k1, k2⟩ := v3 u q2 e3
      have hlike := eqP_like q6 q3
      have hl2 : u.like x = true := by
        clear k1 k2 q1 q2 q4 q5 q6 hx v1 v2 v3 h h1 h3 h4 h5 h6 hi
        revert u
        induction x with
        | pr a b ia ib =>
          intro u hl
          cases u <;> simp only [AV.like] at hl <;> first | (cases hl; done) | skip
          obtain ⟨o1, o2⟩ := andB_true.1 (show andB a.ok b.ok = true from q3)
          obtain ⟨l1, l2⟩ := andB_true.1 hl
          exact andB_true.2 ⟨ia o1 _ l1, ib o2 _ l2⟩
        | _ => intro u hl; cases u <;> first | rfl | (simp [AV.like] at hl)
      obtain ⟨j1, j2⟩ := like_okp hl2 k1
      exact ⟨j1, by rw [k2, hr.bx b i' hi, j2]⟩
    · exact h.elim
  | vp k x =>
    intro v cs h hv
    cases v <;> first | exact h.elim | skip
    rename_i k' y
    have h : match K.same k' k with | some ⟨h⟩ => x = h ▸ y | none => False := h
    split at h
    · rename_i hk _
      have hk : k' = k := hk
      subst hk
      have h : x = y := h
      subst h
      obtain ⟨b, o, ci, e, h1, h2, h3⟩ := hv
      exact ⟨b, o, ci, e, hr.U b h1, h2, RV.mono (fun b hb => ⟨hr.U b hb, rfl⟩) h3⟩
    · exact h.elim
  | fn f a b ia ib =>
    intro v cs h hv
    cases v <;> first | exact h.elim | skip
    obtain ⟨h1, h2⟩ := iffP h
    have e := Nat.eq_of_beq_eq_true h1
    subst e
    obtain ⟨va, vb, e, r1, r2⟩ := hv
    exact ⟨va, vb, e, ia h2.1 r1, ib h2.2 r2⟩
  | cons a b ia ib =>
    intro v cs h hv
    cases v <;> first | exact h.elim | skip
    rename_i c d
    obtain ⟨x, xs, e, r1, r2⟩ := hv
    refine ⟨x, xs, e, ?_, ib h.2 r2⟩
    rcases r1 with ⟨e1, y, e2, r1⟩ | ⟨e1, r1⟩
    · by_cases ha : a.isPr = true
      · exact .inl ⟨ha, y, e2, ia h.1 r1⟩
      · have : a = .dead := by
          cases c <;> simp [AV.isPr] at e1
          cases a <;> first | rfl | exact h.1.elim | exact absurd rfl ha
        subst this
        exact .inr ⟨rfl, trivial⟩
    · refine .inr ⟨?_, ia h.1 r1⟩
      cases a <;> first | rfl | skip
      cases c <;> first | exact h.1.elim | (simp [AV.isPr] at e1)
  | nil => intro v cs h hv; cases v <;> first | exact h.elim | exact hv
  | gd c u iu => intro v cs h hv; cases v <;> exact h.elim
theorem RepV.rename {rR rB : List (Nat × Nat)} (hr : Ren st st' g g' w rR rB) {u v : AV} {x : Value} (h : u.eqP (ren rR) (ren rB) st.r st.b v) (hv : RepV st g w v x) : RepV st' g' w u x := by
  cases u with
  | dead => exact trivial
  | pr a b =>
    cases v <;> first | exact h.elim | skip
    obtain ⟨c, e, h1⟩ := hv
    exact ⟨c, e, Rep.rename hr (u := .pr a b) h h1⟩
  | cons a b =>
    cases v <;> first | exact h.elim | skip
    obtain ⟨c, e, h1⟩ := hv
    exact ⟨c, e, Rep.rename hr (u := .cons a b) h h1⟩
  | nil =>
    cases v <;> first | exact h.elim | skip
    obtain ⟨c, e, h1⟩ := hv
    exact ⟨c, e, Rep.rename hr (u := .nil) h h1⟩
  | gd c u => cases v <;> exact h.elim
  | _ => cases v <;> first | exact h.elim | exact Rep.rename hr h hv
theorem Sim.weak (hS : Sim S st g w a) (h : Weak st st') : ∃ g', Sim S st' g' w a := by
  unfold Weak at h
  generalize renOf st st' = r at h
  obtain ⟨rR, rB⟩ := r
  obtain ⟨h1, h2, h3, h4⟩ := iffP h
  obtain ⟨h5, h6⟩ := andB_true.1 h1
  obtain ⟨iR, iB⟩ := andB_true.1 h5
  obtain ⟨sR, sB⟩ := andB_true.1 h6
  have stay : ∀ {gen : Nat → Nat} {l : List (Nat × Nat)}, allL (stays gen) l = true → ∀ j i, (j, i) ∈ l → j < 1000 → i = j ∧ gen i = 0 := by
    intro gen l hl j i hm hj
    rcases orB_true.1 (allL_mem hl _ hm) with k | k
    · have k := notB_true.1 k
      have : Nat.blt j 1000 = true := Nat.ble_eq_true_of_le hj
      rw [this] at k; cases k
    · obtain ⟨k1, k2⟩ := andB_true.1 k
      exact ⟨(Nat.eq_of_beq_eq_true k1).symm, Nat.eq_of_beq_eq_true k2⟩
  let g' : Gh := ⟨fun b => (g.ow b).bind (mapC rR rB), fun j => match ren rR j with | some i => g.lay i | none => g.lay j, fun b => match ren rB b with | some i => g.bx i | none => g.bx b⟩
  have how : ∀ b x, g.ow b = some x → g'.ow b = mapC rR rB x := fun b x hx => by show (g.ow b).bind _ = _; rw [hx]; rfl
  have hown : ∀ b x, g'.ow b = some x → ∃ y, g.ow b = some y := fun b x hx => by
    cases e : g.ow b with
    | none => have hx : (g.ow b).bind (mapC rR rB) = some x := hx; rw [e] at hx; cases hx
    | some y => exact ⟨y, rfl⟩
  have hr : Ren st st' g g' w rR rB := by
    refine ⟨fun b hb => ⟨hb.1, by show (g.ow b).bind _ = _; rw [hb.2]; rfl⟩, fun r rc hc => ?_, fun r i e => by show (match ren rR r with | some i => g.lay i | none => g.lay r) = _; rw [e], fun b v hc => ?_,
      fun b i e => by show (match ren rB b with | some i => g.bx i | none => g.bx b) = _; rw [e]⟩
    · rcases look_mem RootV.none (l := st'.roots) (i := r) with e | e
      · have : st'.r r = RootV.none := e
        rw [this] at hc; cases hc
      · have := allP_mem h3 _ e
        unfold weakR at this
        have hc' : (look RootV.none st'.roots r).c = some rc := hc
        simp only [hc'] at this
        split at this
        · exact this.elim
        · rename_i i hi
          split at this
          · rename_i rc' q1 q2 q3
            obtain ⟨k1, k2⟩ := iffP this
            obtain ⟨k3, k4⟩ := andB_true.1 k1
            have e2 := rc_eq k2
            subst e2
            exact ⟨i, hi, q1, q2, q3, Nat.eq_of_beq_eq_true k3, Nat.eq_of_beq_eq_true k4⟩
          · exact this.elim
    · rcases look_mem BoxV.none (l := st'.boxes) (i := b) with e | e
      · have : st'.b b = BoxV.none := e
        rw [this] at hc; cases hc
      · have := allP_mem h4 _ e
        unfold weakB at this
        have hc' : (look BoxV.none st'.boxes b).c = some v := hc
        simp only [hc'] at this
        split at this
        · exact this.elim
        · rename_i i hi
          split at this
          · exact this.elim
          · rename_i u hu
            obtain ⟨k1, k2⟩ := iffP this
            obtain ⟨k3, k4⟩ := andB_true.1 k1
            obtain ⟨k5, k6⟩ := andB_true.1 k3
            refine ⟨i, u, hi, hu, k5, Nat.eq_of_beq_eq_true k6, ?_, k2⟩
            show (look BoxV.none st'.boxes b).ro = _
            revert k4
            cases (look BoxV.none st'.boxes b).ro <;> cases (st.b i).ro <;> simp [iff', notB]
  have rep : ∀ v, RV (g'.U w) w v = RV (g'.U w) w v := fun _ => rfl
  refine ⟨g', hS.size, hS.defers, fun t => ?_, fun r => ?_, fun b => ?_, fun b x hx => ?_, hS.os, hS.tape, hS.output, hS.grow, fun b hlt ho => ?_, fun b x hx hlt => ?_, fun b hb => ?_, fun r rc hr0 hg0 hc => ?_, fun b v hb0 hg0 hc => ?_⟩
  · rcases look_mem AV.dead (l := st'.env) (i := t) with e | e
    · have : st'.s t = .dead := e
      rw [this]; exact trivial
    · have := allP_mem h2 _ e
      exact RepV.rename hr this (hS.slot t)
  · intro rc hc
    obtain ⟨i, q1, q2, q3, q4, q5, q6⟩ := hr.root r rc hc
    have hm := ren_mem q1
    have hR := hS.root i rc q2
    rw [hr.lay r i q1]
    split
    · rename_i hinn
      rw [if_pos hinn] at hR
      obtain ⟨f1, f2, f3, f4⟩ := hR
      refine ⟨f1, f2, fun b c hb _ => ?_, fun h eh => ?_⟩
      · obtain ⟨k1, k2⟩ := f3 b c hb (by rw [q3]; exact fun h => h)
        exact ⟨(how b _ k1).trans (mapC_root iR hm), k2⟩
      · rw [q4] at eh; cases eh
    · rename_i hinn
      rw [if_neg hinn] at hR
      obtain ⟨f1, f2, f3, f4⟩ := hR
      refine ⟨q4, f2, f3, fun b hb => ?_⟩
      obtain ⟨k1, cs, k2, k3, k4, k5⟩ := f4 b hb
      exact ⟨(how b _ k1).trans (mapC_root iR hm), cs, k2, k3, k4, fun j hj => (k5 j hj).mono fun b hb => ⟨hr.U b hb, rfl⟩⟩
  · intro v hv
    obtain ⟨i, u, q1, q2, q3, q4, q5, q6⟩ := hr.box b v hv
    have hm := ren_mem q1
    obtain ⟨k1, k2⟩ := hS.box i u q2
    refine ⟨q3, ?_⟩
    rw [hr.bx b i q1, q5]
    split
    · rename_i e
      rw [if_pos e] at k2
      obtain ⟨k3, cs, k4, k5⟩ := k2
      exact ⟨hr.U _ k3, cs, k4, Rep.rename hr q6 k5⟩
    · rename_i e
      rw [if_neg e] at k2
      obtain ⟨k3, k3', cs, k4, k5⟩ := k2
      exact ⟨k3, (how _ _ k3').trans (mapC_box iB hm), cs, k4, Rep.rename hr q6 k5⟩
  · obtain ⟨y, hy⟩ := hown b x hx
    exact hS.own b y hy
  · obtain ⟨k1, k2⟩ := hS.old b hlt ho
    exact ⟨by show (g.ow b).bind _ = _; rw [k1]; rfl, k2⟩
  · obtain ⟨y, hy⟩ := hown b x hx
    exact hS.was b y hy hlt
  · obtain ⟨k1, k2⟩ := hS.far b hb
    exact ⟨(how b _ k1).trans (mapC_far _ _), k2⟩
  · obtain ⟨i, q1, q2, q3, q4, q5, q6⟩ := hr.root r rc hc
    obtain ⟨e1, e2⟩ := stay sR r i (ren_mem q1) hr0
    subst e1
    rw [hr.lay i i q1]
    exact hS.topr i rc hr0 e2 q2
  · obtain ⟨i, u, q1, q2, q3, q4, q5, q6⟩ := hr.box b v hc
    obtain ⟨e1, e2⟩ := stay sB b i (ren_mem q1) hb0
    subst e1
    rw [hr.bx i i q1]
    exact hS.topb i u hb0 e2 q2
end
end Go.Am
namespace Go.Am
def codeIn (E : Env) (n : Nat) : Code → Bool
  | .region _ ops _ => ops.toList.all (opIn E n)
  | .seq a b => codeIn E n a && codeIn E n b
  | .cond _ a b => codeIn E n a && codeIn E n b
  | .block _ c => codeIn E n c
  | .loop c => codeIn E n c
  | _ => true
section
variable {P : Program} {E : Env} {S : Start} {st st' : St} {g g' : Gh} {w w' : World} {a : Act} {gd : Gd} {o : Oper} {Qx : Exit → Act → World → Prop}
def PostOf (S : Start) (Q : Ex → St → Prop) : Exit → Act → World → Prop
  | .normal, a, w => Good S (Q .normal) a w
  | .exit i, a, w => Good S (Q (.exit i)) a w
  | .ret, a, w => Good S (Q .ret) a w
  | _, _, _ => False
theorem Sim.see {S : Start} {st : St} {g : Gh} {w : World} {a : Act} (h : Sim S st g w a) {d : Nat} {v : AV} (hr : RepV st g w v (a.tmps.getD d undef)) : Sim S (st.ws d v) g w a := by
  refine ⟨h.size, h.defers, fun t => ?_, h.root, fun b => (h.box b).ws, h.own, h.os, h.tape, h.output, h.grow, h.old, h.was, h.far, h.topr, h.topb⟩
  rw [St.s_ws]
  split
  · rename_i e; subst e; exact hr.ws
  · exact (h.slot t).ws
theorem run_sound (T : TabOk P E) (C : CallOk P E) (hm : P.follows .mixedOrders = true) : ∀ (c : Code) (Q : Ex → St → Prop) (st : St) (g : Gh) (w : World) (a : Act), codeIn E S.n c = true → run E c st Q → Sim S st g w a → c.wp P (PostOf S Q) a w := by
  intro c
  induction c with
  | skip => intro Q st g w a _ h hS; exact wp_skip ⟨st, g, h, hS⟩
  | label l => intro Q st g w a _ h hS; exact wp_label ⟨st, g, h, hS⟩
  | exit id => intro Q st g w a _ h hS; exact wp_exit ⟨st, g, h, hS⟩
  | ret => intro Q st g w a _ h hS; exact wp_ret ⟨st, g, h, hS⟩
  | region id ops draw =>
    intro Q st g w a hc h hS
    have hin : ∀ o ∈ ops.toList, OpIn E S.n o := fun o ho => opIn_ok (List.all_eq_true.1 hc o ho)
    cases draw with
    | true =>
      have h : (iff' (drawOk E ops.toList st) (opsRun E ops.toList ops.toList st (Q .normal)) False) := h
      obtain ⟨h1, h2⟩ := iffP h
      exact region_draw T C hm hin h1 h2 hS fun a w h => h
    | false =>
      have h : opsRun E ops.toList ops.toList st (Q .normal) := h
      refine wp_region ?_
      have := ops_sound (Q := Q .normal) (Qx := PostOf S Q) T C hin ops.toList 0 st g w a rfl h hS (fun a w h => h)
      rw [← List.range_eq_range'] at this
      simpa using this
  | seq x y ix iy =>
    intro Q st g w a hc h hS
    obtain ⟨c1, c2⟩ := Bool.and_eq_true_iff.1 (show (codeIn E S.n x && codeIn E S.n y) = true from hc)
    refine wp_seq (wp_mono (ix (thenR Q fun st => run E y st Q) st g w a c1 h hS) fun e a' w' he => ?_)
    cases e with
    | normal =>
      obtain ⟨st1, g1, h1, h2⟩ := he
      exact iy Q st1 g1 w' a' c2 h1 h2
    | exit i => exact he
    | ret => exact he
    | goto l => exact he.elim
    | panic c => exact he.elim
    | outgrown => exact he.elim
  | cond c x y ix iy =>
    intro Q st g w a hc h hS
    obtain ⟨c1, c2⟩ := Bool.and_eq_true_iff.1 (show (codeIn E S.n x && codeIn E S.n y) = true from hc)
    unfold run at h
    split at h
    · rename_i t
      have hslot := hS.slot t
      split at h
      · rename_i b e
        rw [e] at hslot
        refine wp_cond (t := b) (rep_bool hslot) ?_
        cases b with
        | true => exact ix Q _ g w a c1 (h.1 rfl) (hS.see hslot)
        | false => exact iy Q _ g w a c2 (h.2 rfl) (hS.see hslot)
      · rename_i q b e
        rw [e] at hslot
        obtain ⟨hq, h⟩ := h
        refine wp_cond (t := b) (rep_bool (hslot.1 hq)) ?_
        cases b with
        | true => exact ix Q _ g w a c1 (h.1 rfl) (hS.see (hslot.1 hq))
        | false => exact iy Q _ g w a c2 (h.2 rfl) (hS.see (hslot.1 hq))
      · exact h.elim
    · rename_i b
      split at h
      · exact wp_cond (t := true) rfl (ix Q st g w a c1 h hS)
      · exact wp_cond (t := false) rfl (iy Q st g w a c2 h hS)
    · exact h.elim
  | block id c ic =>
    intro Q st g w a hc h hS
    refine wp_block (wp_mono (ic (blockR id Q) st g w a hc h hS) fun e a' w' he => ?_)
    cases e with
    | normal => exact he
    | exit i =>
      show if i = id then PostOf S Q .normal a' w' else PostOf S Q (.exit i) a' w'
      obtain ⟨st1, g1, h1, h2⟩ := he
      have h1 : iff' (Nat.beq i id) (Q .normal st1) (Q (.exit i) st1) := h1
      by_cases hid : i = id
      · rw [if_pos hid]
        subst hid
        rw [Nat.beq_refl] at h1
        exact ⟨st1, g1, h1, h2⟩
      · rw [if_neg hid]
        have : Nat.beq i id = false := by
          rw [Bool.eq_false_iff]; intro e; exact hid (Nat.eq_of_beq_eq_true e)
        rw [this] at h1
        exact ⟨st1, g1, h1, h2⟩
    | ret => exact he
    | goto l => exact he.elim
    | panic c => exact he.elim
    | outgrown => exact he.elim
  | loop c ic =>
    intro Q st g w a hc h hS
    obtain ⟨α, f, m, I, hfirst, hround⟩ := h
    have key : ∀ n x, I x → m x < n → ∀ g w a, Sim S (f x) g w a → Code.rounds P c (PostOf S Q) n a w := by
      intro n
      induction n with
      | zero => intro x _ h; omega
      | succ n ih =>
        intro x hx hm' g w a hS
        refine wp_mono (ic _ (f x) g w a hc (hround x hx) hS) fun e a' w' he => ?_
        cases e with
        | normal =>
          obtain ⟨st1, g1, ⟨x', ⟨hx', hlt⟩, hw⟩, h2⟩ := he
          obtain ⟨g2, h3⟩ := h2.weak hw
          exact ih x' hx' (by omega) g2 w' a' h3
        | exit i => exact he
        | ret => exact he
        | goto l => exact he.elim
        | panic c => exact he.elim
        | outgrown => exact he.elim
    rcases hfirst with ⟨x0, hI0, hw0⟩ | ⟨B, hrun⟩
    · obtain ⟨g0, hS0⟩ := hS.weak hw0
      exact wp_loop_rounds (m x0 + 1) (key _ x0 hI0 (by omega) g0 w a hS0)
    · refine wp_loop_rounds (B + 1) (wp_mono (ic _ st g w a hc hrun hS) fun e a' w' he => ?_)
      cases e with
      | normal =>
        obtain ⟨st1, g1, ⟨x', ⟨hx', hlt⟩, hw⟩, h2⟩ := he
        obtain ⟨g2, h3⟩ := h2.weak hw
        exact key _ x' hx' (by omega) g2 w' a' h3
      | exit i => exact he
      | ret => exact he
      | goto l => exact he.elim
      | panic c => exact he.elim
      | outgrown => exact he.elim
  | rangeFunc f ps x y => intro Q st g w a _ h; exact h.elim
  | scope c => intro Q st g w a _ h; exact h.elim
  | goto l => intro Q st g w a _ h; exact h.elim
  | refuse s => intro Q st g w a _ h; exact h.elim
end
end Go.Am
namespace Go.Am
def resV : List Value → Value
  | [v] => v
  | vs => .tuple vs.toArray
def rvSem (tmps : Array Value) (r : ResultVar) : Sem Value :=
  match r with
  | .tmp t => pure (tmps.getD t undef)
  | .cell a t => do
    let x ← asAddr (tmps.getD a undef)
    loadVar t x
theorem results_run (fn : Func) (vs : List Value) (tmps : Array Value) (P : Program) (w : World) (h : (fn.results.toList.mapM (rvSem tmps)).run P w = .ok vs w) :
    (results fn tmps).run P w = .ok (resV vs) w := by
  have e : results fn tmps = (do
    let vs ← fn.results.mapM (rvSem tmps)
    pure (if h : vs.size = 1 then vs[0] else Value.tuple vs)) := by
    unfold results
    congr 2
  rw [e, Array.mapM_eq_mapM_toList]
  simp only [Sem.run_bind, map_eq_pure_bind, h, Result.andThen_ok, Sem.run_pure]
  cases vs with
  | nil => simp [resV]
  | cons t ts => cases ts with
    | nil => simp [resV]
    | cons u ts => simp [resV]
section
variable {P : Program} {E : Env} {S : Start} {st st' : St} {g g' : Gh} {w w' : World} {a : Act} {Q : St → Prop} {gd : Gd} {o : Oper} {Qx : Exit → Act → World → Prop}
theorem rv1_run (T : TabOk P E) {r : ResultVar} {c : AV → Prog} (h : (rv1 E r c).run st Q) (hS : Sim S st g w a) :
    ∃ x v, (rvSem a.tmps r).run P w = .ok x w ∧ RepV st g w v x ∧ (c v).run st Q := by
  cases r with
  | tmp t => exact ⟨a.tmps.getD t undef, st.s t, by simp [rvSem, Sem.run_pure], hS.slot t, h⟩
  | cell t ty =>
    unfold rv1 at h
    simp only [Prog.run] at h
    have h1 := hS.slot t
    split at h
    · rename_i b gen p e
      rw [e] at h1
      simp only [Prog.run] at h
      split at h
      · rename_i u hu
        obtain ⟨h3, h4⟩ := iff'_fail h
        obtain ⟨h5, h6⟩ := andB_true.1 h3
        have hgen := Nat.eq_of_beq_eq_true h5
        obtain ⟨ht, hk⟩ := shape_kind h6
        obtain ⟨_, _, hv⟩ := (show Rep st g w (.pb b gen p) [_] from h1)
        obtain ⟨r1, r2⟩ := hv u hu hgen
        have e1 := (List.cons.inj r2).1
        obtain ⟨b1, b2⟩ := hS.box b u hu
        have key : ∃ cs, Cells w (g.bx b).1 (g.bx b).2 cs ∧ Rep st g w u cs := by
          split at b2
          · exact b2.2
          · obtain ⟨b3, b4, cs, b5, b6⟩ := b2
            refine ⟨cs, ?_, b6⟩
            rw [b3]
            have : Blk w (g.bx b).1 ([] ++ cs ++ []) := by simpa using b5
            exact this.cells
        obtain ⟨cs, c1, c2⟩ := key
        obtain ⟨A, c', B, d1, d2, d3, d4⟩ := c2.sub b1 r1
        rw [d1] at c1
        obtain ⟨lw, lp⟩ := likeK_w hk
        refine ⟨_, u.sub p, ?_, repV_cells d3 d4, h4⟩
        have lr := load_run (P := P) (w := w) T ht (b := (g.bx b).1) (of := (g.bx b).2 + u.off p) (cs := c') (by rw [← d2]; exact c1.left.right) (by rw [(Rep.plain d4 d3).1, lw])
        have ea : (asAddr (a.tmps.getD t undef)).run P w = .ok ⟨(g.bx b).1, (g.bx b).2 + u.off p, none⟩ w := by rw [e1]; rfl
        simp only [rvSem, Sem.run_bind, ea, Result.andThen_ok, lr, lp]
      · exact h.elim
    · exact h.elim
theorem rvs_run (T : TabOk P E) : ∀ {l : List ResultVar} {c : AV → Prog}, (rvs E l c).run st Q → Sim S st g w a →
    ∃ (xs : List Value) (v : AV), (l.mapM (rvSem a.tmps)).run P w = .ok xs w ∧ xs.length = l.length ∧ Rep st g w v xs ∧ v.isList = true ∧ (c v).run st Q
  | [], c, h, hS => ⟨[], .nil, by simp, rfl, rfl, rfl, h⟩
  | r :: l, c, h, hS => by
    obtain ⟨x, u, e1, r1, h⟩ := rv1_run T h hS
    obtain ⟨h1, h2⟩ := iff'_fail h
    obtain ⟨xs, v, e, el, hr, hl, hc⟩ := rvs_run T h2 hS
    refine ⟨x :: xs, .cons u v, ?_, by simp [el], ⟨_, _, rfl, one_cons r1 h1, hr⟩, hl, hc⟩
    simp only [List.mapM_cons, Sem.run_bind, e1, e, Result.andThen_ok, Sem.run_pure]
theorem rvAll_run (T : TabOk P E) {fn : Func} {c : AV → Prog} (h : (rvAll E fn.results.toList c).run st Q) (hS : Sim S st g w a) :
    ∃ v x, (results fn a.tmps).run P w = .ok x w ∧ RepV st g w v x ∧ (c v).run st Q := by
  unfold rvAll at h
  split at h
  · rename_i r e
    obtain ⟨x, v, e1, r1, h⟩ := rv1_run T h hS
    exact ⟨v, x, results_run fn [x] a.tmps P w (by rw [e]; simp only [List.mapM_cons, List.mapM_nil, Sem.run_bind, e1, Result.andThen_ok, Sem.run_pure]), r1, h⟩
  · rename_i hne
    obtain ⟨xs, v, e, el, hr, hl, hc⟩ := rvs_run T h hS
    have hts : ∀ t, xs ≠ [t] := fun t ht => by
      rw [ht] at el
      cases hq : fn.results.toList with
      | nil => rw [hq] at el; simp at el
      | cons r l => cases l with
        | nil => exact hne _ hq
        | cons r' l => rw [hq] at el; simp at el
    refine ⟨v, _, results_run fn xs a.tmps P w e, ?_, hc⟩
    have : resV xs = Value.tuple xs.toArray := by
      unfold resV
      split
      · exact absurd rfl (hts _)
      · rfl
    rw [this]
    cases v with
    | cons u v => exact ⟨_, rfl, by simpa using hr⟩
    | nil => exact ⟨_, rfl, by simpa using hr⟩
    | _ => simp [AV.isList] at hl
/-- What holds behind a call, told of the callee's own store. -/
def Ended (S0 : Start) (S : FSpec) (xs : Cont) (e : Ending) (w' : World) : Prop :=
  ∃ v st' g' a' rv, e = .returned v ∧ Sim S0 st' g' w' a' ∧ RepV st' g' w' rv v ∧
    (res (S.alt xs).rp rv (S.alt xs).res fun ys => match ys with | [] => fins S.ps (S.alt xs).upd 0 0 .ret | _ => .fail).run st' fun _ => True
/-- What is known of a function. -/
def Ctr (P : Program) (f : FuncId) (S : FSpec) : Prop :=
  (∃ fn, P.funcs[f]? = some fn ∧ (fn.name == "runtime.NumGoroutine") = false ∧ fn.body.isNone = false) ∧ ∃ n, S.ps.length ≤ n ∧
  ∀ (xs : Cont), S.pre xs → ∃ i, inis S.ps xs ⟨[], 0, 0, [], []⟩ = some i ∧ ∀ (S0 : Start) (g0 : Gh) (w : World) (vs : List Value), vs.length = S.ps.length → S0.n = n →
    Sim S0 (St.init i) g0 w { tmps := vs.toArray ++ Array.replicate (n - vs.length) undef, defers := [] } → Calls P f vs.toArray w (Ended S0 S xs)
theorem ctr_of {f : FuncId} {fn : Func} {S : FSpec} (T : TabOk P E) (C : CallOk P E) (hm : P.follows .mixedOrders = true) (hf : P.funcs[f]? = some fn) (hn : (fn.name == "runtime.NumGoroutine") = false)
    (hin : (match fn.body with | some c => codeIn E fn.ntmps c | none => false) = true) (hl : Nat.ble S.ps.length fn.ntmps = true) (h : FOk E fn S) : Ctr P f S := by
  cases hb : fn.body with
  | none => rw [hb] at hin; cases hin
  | some c =>
    rw [hb] at hin
    refine ⟨⟨fn, hf, hn, by rw [hb]; rfl⟩, fn.ntmps, Nat.le_of_ble_eq_true hl, fun xs hp => ?_⟩
    have h := h xs hp
    rw [hb] at h
    cases hi : inis S.ps xs ⟨[], 0, 0, [], []⟩ with
    | none => rw [hi] at h; exact h.elim
    | some i =>
    rw [hi] at h
    refine ⟨i, rfl, fun S0 g0 w vs hv hS0 hS => ?_⟩
    refine calls_of_wp hf hb (wp_mono (run_sound T C hm c _ _ g0 w _ (by rw [hS0]; exact hin) h (by simpa using hS)) fun e a' w' he => ?_)
    have key : ∀ e, (e = Ex.normal ∨ e = Ex.ret) → Good S0 (finQ E fn S xs e) a' w' → a'.defers = [] ∧ ∃ v, (results fn a'.tmps).run P w' = .ok v w' ∧ Ended S0 S xs (.returned v) w' := by
      intro e hex hg
      obtain ⟨st', g', h1, h2⟩ := hg
      have h1 : altE E fn S st' (S.alt xs) := by
        rcases hex with rfl | rfl <;> exact h1
      obtain ⟨rv, v, h3, h4, h5⟩ := rvAll_run (P := P) T h1 h2
      exact ⟨h2.defers, v, h3, v, st', g', a', rv, rfl, h2, h4, h5⟩
    cases e with
    | normal => exact key _ (.inl rfl) he
    | ret => exact key _ (.inr rfl) he
    | exit i => obtain ⟨st', g', h1, h2⟩ := he; exact h1.elim
    | goto l => exact he.elim
    | panic c => exact he.elim
    | outgrown => exact he.elim
end
end Go.Am
namespace Go.Am
theorem iniO_idx : ∀ (k : K) (x : k.T) (j : Nat), (iniO k x j).2.2 = j + k.nsl
  | .int _, _, _ => rfl
  | .bool, _, _ => rfl
  | .pair a b, x, j => by
    show (iniO b x.2 (iniO a x.1 j).2.2).2.2 = j + (a.nsl + b.nsl)
    rw [iniO_idx b, iniO_idx a]; omega
  | .sl _, _, _ => rfl
/-- A store has a value's roots. -/
def HasR (st : St) : (k : K) → k.T → Nat → Prop
  | .int _, _, _ => True
  | .bool, _, _ => True
  | .pair a b, x, j => HasR st a x.1 j ∧ HasR st b x.2 (j + a.nsl)
  | .sl k, xs, j => st.r j = ⟨0, 0, some ⟨k, xs, true⟩, none⟩
/-- A ghost has a value's places. -/
def Plc (g : Gh) : (k : K) → k.T → k.L → Nat → Prop
  | .int _, _, _, _ => True
  | .bool, _, _, _ => True
  | .pair a b, x, l, j => Plc g a x.1 l.1 j ∧ Plc g b x.2 l.2 (j + a.nsl)
  | .sl k, xs, l, j => g.lay j (.sl k) = l ∧ ∀ b c, (b, c) ∈ rows (.sl k) xs l → g.ow b = some (2 * j)
/-- Its blocks and their owners. -/
def ownL : (k : K) → k.T → k.L → Nat → List (Nat × Nat)
  | .int _, _, _, _ => []
  | .bool, _, _, _ => []
  | .pair a b, x, l, j => ownL a x.1 l.1 j ++ ownL b x.2 l.2 (j + a.nsl)
  | .sl k, xs, l, j => (rows (.sl k) xs l).map fun y => (y.1, 2 * j)
theorem ownL_fst : ∀ (k : K) (x : k.T) (l : k.L) (j : Nat), (ownL k x l j).map Prod.fst = (rows k x l).map Prod.fst
  | .int _, _, _, _ => rfl
  | .bool, _, _, _ => rfl
  | .pair a b, x, l, j => by simp only [ownL, rows, List.map_append, ownL_fst a, ownL_fst b]
  | .sl k, xs, l, j => by simp [ownL]
def Lays (g : Gh) : (k : K) → k.L → Nat → Prop
  | .int _, _, _ => True
  | .bool, _, _ => True
  | .pair a b, l, j => Lays g a l.1 j ∧ Lays g b l.2 (j + a.nsl)
  | .sl k, l, j => g.lay j (.sl k) = l
theorem plc_of {g : Gh} : ∀ {k : K} {x : k.T} {l : k.L} {j : Nat}, Lays g k l j → (∀ b c, (b, c) ∈ ownL k x l j → g.ow b = some c) → Plc g k x l j
  | .int _, _, _, _, _, _ => trivial
  | .bool, _, _, _, _, _ => trivial
  | .pair _ _, _, _, _, h, ho => ⟨plc_of h.1 fun b c hb => ho b c (List.mem_append_left _ hb), plc_of h.2 fun b c hb => ho b c (List.mem_append_right _ hb)⟩
  | .sl _, _, _, j, h, ho => ⟨h, fun b c hb => ho b (2 * j) (List.mem_map.2 ⟨(b, c), hb, rfl⟩)⟩
/-- Layouts laid. -/
noncomputable def setLs : (k : K) → k.L → Nat → Gh → Gh
  | .int _, _, _, g => g
  | .bool, _, _, g => g
  | .pair a b, l, j, g => setLs b l.2 (j + a.nsl) (setLs a l.1 j g)
  | .sl k, l, j, g => g.setL j (.sl k) l
theorem setLs_ow : ∀ (k : K) (l : k.L) (j : Nat) (g : Gh), (setLs k l j g).ow = g.ow ∧ (setLs k l j g).bx = g.bx
  | .int _, _, _, _ => ⟨rfl, rfl⟩
  | .bool, _, _, _ => ⟨rfl, rfl⟩
  | .pair a b, l, j, g => by
    obtain ⟨h1, h2⟩ := setLs_ow a l.1 j g
    obtain ⟨h3, h4⟩ := setLs_ow b l.2 (j + a.nsl) (setLs a l.1 j g)
    exact ⟨h3.trans h1, h4.trans h2⟩
  | .sl _, _, _, _ => ⟨rfl, rfl⟩
theorem setLs_out : ∀ (k : K) (l : k.L) (j : Nat) (g : Gh) (i : Nat), (i < j ∨ j + k.nsl ≤ i) → (setLs k l j g).lay i = g.lay i
  | .int _, _, _, _, _, _ => rfl
  | .bool, _, _, _, _, _ => rfl
  | .pair a b, l, j, g, i, h => by
    have h : i < j ∨ j + (a.nsl + b.nsl) ≤ i := h
    show (setLs b l.2 (j + a.nsl) (setLs a l.1 j g)).lay i = _
    rw [setLs_out b _ _ _ i (by omega), setLs_out a _ _ _ i (by omega)]
  | .sl k, l, j, g, i, h => by
    have h : i < j ∨ j + 1 ≤ i := h
    exact Gh.lay_other _ _ _ _ (by omega)
theorem Lays.mono {g g' : Gh} : ∀ {k : K} {l : k.L} {j : Nat}, Lays g k l j → (∀ i, j ≤ i → i < j + k.nsl → g'.lay i = g.lay i) → Lays g' k l j
  | .int _, _, _, _, _ => trivial
  | .bool, _, _, _, _ => trivial
  | .pair a b, l, j, h, hh => by
    have hh : ∀ i, j ≤ i → i < j + (a.nsl + b.nsl) → g'.lay i = g.lay i := hh
    exact ⟨h.1.mono fun i h1 h2 => hh i h1 (by omega), h.2.mono fun i h1 h2 => hh i (by omega) (by omega)⟩
  | .sl k, l, j, h, hh => by
    have hh : ∀ i, j ≤ i → i < j + 1 → g'.lay i = g.lay i := hh
    show g'.lay j (.sl k) = l
    rw [hh j (Nat.le_refl _) (by omega)]; exact h
theorem setLs_has : ∀ (k : K) (l : k.L) (j : Nat) (g : Gh), Lays (setLs k l j g) k l j
  | .int _, _, _, _ => trivial
  | .bool, _, _, _ => trivial
  | .pair a b, l, j, g => ⟨(setLs_has a l.1 j g).mono fun i _ h2 => setLs_out b _ _ _ i (.inl h2), setLs_has b l.2 (j + a.nsl) _⟩
  | .sl _, _, _, _ => Gh.lay_same ..
section
variable {P : Program} {E : Env} {S : Start} {st st' : St} {g g' : Gh} {w w' : World} {a : Act} {Q : St → Prop} {gd : Gd} {o : Oper} {Qx : Exit → Act → World → Prop}
theorem reg_root : ∀ {k : K} {x : k.T} {l : k.L} {j : Nat}, Fit k x l → ((rows k x l).map Prod.fst).Nodup → (∀ b c, (b, c) ∈ rows k x l → Blk w b c) → Plc g k x l j → HasR st k x j →
    (∀ i, j ≤ i → i < j + k.nsl → RootM g w i (st.r i)) ∧ Rep st g w (iniO k x j).1 (hdr k x l) ∧ (iniO k x j).1.ok = true ∧ likeK k (iniO k x j).1 = true
  | .int _, _, _, j, _, _, _, _, _ => ⟨fun i h1 h2 => by simp [K.nsl] at h2; omega, rfl, rfl, rfl⟩
  | .bool, _, _, j, _, _, _, _, _ => ⟨fun i h1 h2 => by simp [K.nsl] at h2; omega, rfl, rfl, rfl⟩
  | .pair p q, x, l, j, hf, hn, hb, hp, hr => by
    simp only [rows, List.map_append, List.nodup_append] at hn
    obtain ⟨h1, h2, h3, h4⟩ := reg_root hf.1 hn.1 (fun b c h => hb b c (List.mem_append_left _ h)) hp.1 hr.1
    obtain ⟨g1, g2, g3, g4⟩ := reg_root hf.2 hn.2.1 (fun b c h => hb b c (List.mem_append_right _ h)) hp.2 hr.2
    refine ⟨fun i k1 k2 => ?_, ?_, ?_, ?_⟩
    · have k2 : i < j + (p.nsl + q.nsl) := k2
      by_cases hi : i < j + p.nsl
      · exact h1 i k1 hi
      · exact g1 i (by omega) (by omega)
    · refine ⟨_, _, rfl, h2, ?_⟩
      show Rep st g w (iniO q x.2 (iniO p x.1 j).2.2).1 _
      rw [iniO_idx]; exact g2
    · refine andB_true.2 ⟨h3, ?_⟩
      show (iniO q x.2 (iniO p x.1 j).2.2).1.ok = true
      rw [iniO_idx]; exact g3
    · refine andB_true.2 ⟨h4, ?_⟩
      show likeK q (iniO q x.2 (iniO p x.1 j).2.2).1 = true
      rw [iniO_idx]; exact g4
  | .sl k, xs, l, j, hf, hn, hb, hp, hr => by
    have hr : st.r j = ⟨0, 0, some ⟨k, xs, true⟩, none⟩ := hr
    refine ⟨fun i k1 k2 => ?_, ⟨⟨_, _, _, rfl⟩, ⟨Nat.zero_le _, fun _ => Nat.zero_le _⟩, fun rc hv => ?_⟩, rfl, rfl⟩
    · have k2 : i < j + 1 := k2
      have e : i = j := by omega
      subst e
      rw [hr]
      intro rc hrc
      have e : rc = ⟨k, xs, true⟩ := (Option.some.inj hrc).symm
      subst e
      rw [if_pos rfl, hp.1]
      exact ⟨hf, hn, fun b c h _ => ⟨hp.2 b c h, hb b c h⟩, fun h eh => by cases eh⟩
    · have hc := hv.1
      rw [hr] at hc
      have e : rc = ⟨k, xs, true⟩ := (Option.some.inj hc).symm
      subst e
      refine ⟨trivial, ⟨_, rfl⟩, ?_⟩
      show _ = hdr (.sl k) xs (g.lay j (.sl k))
      rw [hp.1]
/-- A place in a caller's root. -/
def Place (st : St) (g : Gh) (r : Nat) (p : Pth) (k : K) (x : k.T) (l : k.L) : Prop :=
  ∃ rc, (st.r r).c = some rc ∧ (st.r r).hole = none ∧ rc.inn = true ∧ Okp (.sl rc.k) p rc.xs ∧ ∃ e : (K.sl rc.k).at p = k, e ▸ (K.sl rc.k).get p rc.xs = x ∧ e ▸ (K.sl rc.k).getL p (g.lay r (.sl rc.k)) = l
theorem Place.facts {r : Nat} {p : Pth} {k : K} {x : k.T} {l : k.L} (h : Place st g r p k x l) (hS : Sim S st g w a) :
    Fit k x l ∧ ((rows k x l).map Prod.fst).Nodup ∧ ∀ b c, (b, c) ∈ rows k x l → g.ow b = some (2 * r) ∧ Blk w b c := by
  obtain ⟨rc, h1, h2, h3, h4, e, h5, h6⟩ := h
  subst e
  subst h5
  subst h6
  have hR := hS.root r rc h1
  rw [if_pos h3] at hR
  obtain ⟨f1, f2, f3, f4⟩ := hR
  have hs := rows_sub f1 h4
  exact ⟨Fit_get f1 h4, f2.sublist (hs.map _), fun b c hb => f3 b c (hs.subset hb) (by rw [h2]; exact fun h => h)⟩
/-- An owned value's places. -/
def OwnA (st : St) (g : Gh) : (k : K) → AV → k.T → k.L → Prop
  | .int _, _, _, _ => True
  | .bool, _, _, _ => True
  | .pair a b, v, x, l => ∃ u t, v = .pr u t ∧ OwnA st g a u x.1 l.1 ∧ OwnA st g b t x.2 l.2
  | .sl k, v, xs, l => ∃ r gen hc p, v = .rf r gen hc p ∧ gen = (st.r r).gen ∧ hc ≤ (st.r r).hc ∧ Place st g r p (.sl k) xs l
theorem ownRd_run : ∀ {k : K} {v : AV} {c : k.T → Prog} {cs : List Value}, (ownRd k v c).run st Q → Rep st g w v cs →
    ∃ x l, (c x).run st Q ∧ OwnA st g k v x l ∧ cs = hdr k x l ∧ likeK k v = true ∧ v.ok = true := by
  intro k
  induction k with
  | int ik =>
    intro v c cs h hr
    cases v <;> first | exact h.elim | skip
    obtain ⟨h1, h2⟩ := iff'_fail h
    have e := eqIK_eq h1
    subst e
    exact ⟨_, (), h2, trivial, hr, rfl, rfl⟩
  | bool =>
    intro v c cs h hr
    cases v <;> first | exact h.elim | skip
    exact ⟨_, (), h, trivial, hr, rfl, rfl⟩
  | pair p q ip iq =>
    intro v c cs h hr
    cases v <;> first | exact h.elim | skip
    rename_i u t
    obtain ⟨c1, c2, e, r1, r2⟩ := hr
    have h : (ownRd p u fun x => ownRd q t fun y => c (x, y)).run st Q := h
    obtain ⟨x, l, h1, a1, e1, k1, o1⟩ := ip h r1
    obtain ⟨y, m, h2, a2, e2, k2, o2⟩ := iq h1 r2
    exact ⟨(x, y), (l, m), h2, ⟨u, t, rfl, a1, a2⟩, by rw [e, e1, e2]; rfl, andB_true.2 ⟨k1, k2⟩, andB_true.2 ⟨o1, o2⟩⟩
  | sl k ih =>
    intro v c cs h hr
    cases v <;> first | exact h.elim | skip
    rename_i r gen hc p
    have h : (live gen (st.r r) fun rc => iff' rc.inn (fresh hc p (st.r r) rc.inn 1 (match K.same ((K.sl rc.k).at p) (.sl k) with | some ⟨h⟩ => c (h ▸ (K.sl rc.k).get p rc.xs) | none => .fail)) .fail).run st Q := h
    obtain ⟨rc, h1, h2, h3, h4⟩ := live_run h
    obtain ⟨hinn, h5⟩ := iff'_fail h4
    obtain ⟨h6, h7⟩ := fresh_run h5
    split at h7
    · rename_i e _
      obtain ⟨r1, r2, r3⟩ := hr
      obtain ⟨q1, _, q3⟩ := r3 rc ⟨h1, h2, h6⟩
      have key : ∀ {k0 : K} (e : k0 = .sl k) (x : k0.T) (l : k0.L), hdr k0 x l = hdr (.sl k) (e ▸ x) (e ▸ l) := by
        intro k0 e x l; subst e; rfl
      refine ⟨_, _, h7, ⟨r, gen, hc, p, rfl, h2, r2.2 h2, rc, h1, h3, hinn, q1, e, rfl, rfl⟩, ?_, rfl, rfl⟩
      rw [q3]; exact key e _ _
    · exact h7.elim
theorem OwnA.facts (hS : Sim S st g w a) : ∀ {k : K} {v : AV} {x : k.T} {l : k.L}, OwnA st g k v x l → (roots v).Nodup →
    Fit k x l ∧ ((rows k x l).map Prod.fst).Nodup ∧ ∀ b c, (b, c) ∈ rows k x l → (∃ r, r ∈ roots v ∧ g.ow b = some (2 * r)) ∧ Blk w b c
  | .int _, _, _, _, _, _ => ⟨trivial, by simp [rows], fun _ _ h => by simp [rows] at h⟩
  | .bool, _, _, _, _, _ => ⟨trivial, by simp [rows], fun _ _ h => by simp [rows] at h⟩
  | .pair p q, v, x, l, h, hn => by
    obtain ⟨u, t, e, h1, h2⟩ := h
    subst e
    have hn : (cat (roots u) (roots t)).Nodup := hn
    rw [cat_eq, List.nodup_append] at hn
    obtain ⟨f1, f2, f3⟩ := h1.facts hS hn.1
    obtain ⟨g1, g2, g3⟩ := h2.facts hS hn.2.1
    refine ⟨⟨f1, g1⟩, ?_, fun b c hb => ?_⟩
    · simp only [rows, List.map_append, List.nodup_append]
      refine ⟨f2, g2, fun b hb b' hb' e => ?_⟩
      subst e
      obtain ⟨y, hy, ey⟩ := List.mem_map.1 hb
      obtain ⟨y', hy', ey'⟩ := List.mem_map.1 hb'
      obtain ⟨⟨r, hr, o1⟩, _⟩ := f3 y.1 y.2 hy
      obtain ⟨⟨r', hr', o2⟩, _⟩ := g3 y'.1 y'.2 hy'
      rw [ey] at o1
      rw [ey', o1] at o2
      have e : r = r' := by have := Option.some.inj o2; omega
      subst e
      exact hn.2.2 r hr r hr' rfl
    · show (∃ r, r ∈ cat (roots u) (roots t) ∧ _) ∧ _
      rw [cat_eq]
      rcases List.mem_append.1 hb with hb | hb
      · obtain ⟨⟨r, hr, o1⟩, o2⟩ := f3 b c hb
        exact ⟨⟨r, List.mem_append_left _ hr, o1⟩, o2⟩
      · obtain ⟨⟨r, hr, o1⟩, o2⟩ := g3 b c hb
        exact ⟨⟨r, List.mem_append_right _ hr, o1⟩, o2⟩
  | .sl k, v, x, l, h, hn => by
    obtain ⟨r, gen, hc, p, e, _, _, hp⟩ := h
    subst e
    obtain ⟨f1, f2, f3⟩ := hp.facts hS
    exact ⟨f1, f2, fun b c hb => ⟨⟨r, by simp [roots], (f3 b c hb).1⟩, (f3 b c hb).2⟩⟩
end
end Go.Am
namespace Go.Am
section
variable {P : Program} {E : Env} {S : Start} {st st' : St} {g g' : Gh} {w w' : World} {a : Act} {Q : St → Prop} {gd : Gd} {o : Oper} {Qx : Exit → Act → World → Prop}
/-- Blocks that may be looked at for a call's time. -/
def Seen (g : Gh) (w : World) (v rb : List Nat) (b : Nat) : Prop :=
  b < w.heap.size ∧ (g.ow b = none ∨ (∃ r, r ∈ v ∧ g.ow b = some (2 * r)) ∨ ∃ c, c ∈ rb ∧ g.ow b = some (2 * c + 3))
theorem Seen.mono {v rb v' rb' : List Nat} {b : Nat} (h : Seen g w v rb b) (h1 : ∀ r, r ∈ v → r ∈ v') (h2 : ∀ r, r ∈ rb → r ∈ rb') : Seen g w v' rb' b := by
  obtain ⟨k0, k⟩ := h
  refine ⟨k0, ?_⟩
  rcases k with k | ⟨r, k1, k2⟩ | ⟨r, k1, k2⟩
  · exact .inl k
  · exact .inr (.inl ⟨r, h1 r k1, k2⟩)
  · exact .inr (.inr ⟨r, h2 r k1, k2⟩)
theorem cellsP {x : Value} (h : plain x) : x.cells.toList = [x] := by cases x <;> first | rfl | exact h.elim
theorem one_cells {v : AV} {x : Value} (h : RepV st g w v x) (h1 : v.one = true) (hd : v ≠ .dead) :
    Rep st g w v x.cells.toList ∧ (v.isPr = true → ∃ c, x = .agg c) ∧ (v.isPr = false → x.cells.toList = [x]) := by
  have key : ∀ {v : AV}, v.isPr = false → Rep st g w v [x] → plain x → Rep st g w v x.cells.toList ∧ (v.isPr = true → ∃ c, x = .agg c) ∧ (v.isPr = false → x.cells.toList = [x]) := by
    intro v hp h hx
    rw [cellsP hx]
    exact ⟨h, fun h => (by rw [hp] at h; cases h), fun _ => rfl⟩
  cases v with
  | dead => exact absurd rfl hd
  | cons a b => simp [AV.one] at h1
  | nil => simp [AV.one] at h1
  | gd c u => simp [AV.one] at h1
  | pr a b =>
    obtain ⟨c, e, h⟩ := h
    subst e
    exact ⟨h, fun _ => ⟨c, rfl⟩, fun h => (by simp [AV.isPr] at h)⟩
  | cut r gen hc p lo hi =>
    have h : Rep st g w (.cut r gen hc p lo hi) [x] := h
    obtain ⟨⟨A, c, e⟩, _⟩ := id h
    exact key rfl h (by rw [(List.cons.inj e).1]; trivial)
  | fn f a b =>
    have h : Rep st g w (.fn f a b) [x] := h
    obtain ⟨va, vb, e, _⟩ := id h
    exact key rfl h (by rw [(List.cons.inj e).1]; trivial)
  | _ =>
    refine key rfl h ?_
    exact (Rep.plain (by rfl) h).2 x (by simp)
theorem of_cells {u : AV} {x : Value} (h : Rep st g w u x.cells.toList) (h1 : u.one = true) (h2 : u.isPr = true → ∃ c, x = .agg c) (h3 : u.isPr = false → x.cells.toList = [x]) : RepV st g w u x := by
  cases u with
  | cons a b => simp [AV.one] at h1
  | nil => simp [AV.one] at h1
  | gd c u => simp [AV.one] at h1
  | pr a b =>
    obtain ⟨c, e⟩ := h2 rfl
    subst e
    exact ⟨c, rfl, h⟩
  | dead => exact trivial
  | _ => rw [h3 rfl] at h; exact h
theorem ok_one {v : AV} (h : v.ok = true) : v.one = true ∧ v ≠ .dead := by
  cases v <;> first | (simp [AV.ok] at h; done) | exact ⟨rfl, by simp⟩
/-- A slice in a root, seen; whose blocks it lies in. -/
theorem root_seen (hS : Sim S st g w a) {r gen hc : Nat} {p : Pth} {rc : RC} {k : K} (hh : (st.r r).hole = none) (hv : valid (st.r r) gen hc 1 p rc) (hp : Okp (.sl rc.k) p rc.xs) (e : (K.sl rc.k).at p = .sl k) :
    RV (Seen g w [r] []) w (.sl k) (cast (congrArg K.T e) ((K.sl rc.k).get p rc.xs)) (hdr _ ((K.sl rc.k).get p rc.xs) ((K.sl rc.k).getL p (g.lay r (.sl rc.k)))) := by
  have hR := hS.root r rc hv.1
  have key : ∀ {k0 : K} (e : k0 = .sl k) (x : k0.T) (l : k0.L), RV (Seen g w [r] []) w k0 x (hdr k0 x l) → RV (Seen g w [r] []) w (.sl k) (cast (congrArg K.T e) x) (hdr k0 x l) := by
    intro k0 e x l h
    subst e; exact h
  by_cases hinn : rc.inn = true
  · rw [if_pos hinn] at hR
    obtain ⟨f1, f2, f3, f4⟩ := hR
    have hsub := rows_sub f1 hp
    exact key e _ _ (RV.own (Fit_get f1 hp) fun b c hb => by
      obtain ⟨h1, h2⟩ := f3 b c (hsub.subset hb) (by rw [hh]; exact fun h => h)
      exact ⟨h2, h2.lt, .inr (.inl ⟨r, by simp, h1⟩)⟩)
  · rw [if_neg hinn] at hR
    obtain ⟨f1, f2, f3, f4⟩ := hR
    have hi : ix p < 1 := hv.2.2.resolve_right fun h => hinn h.1
    obtain rfl := ok_nil hp hi
    refine key e _ _ ⟨_, _, rfl, f2, fun ad hA => ?_, fun i hi' => ?_⟩
    · cases ha : (g.lay r (.sl rc.k)).a with
      | none =>
        have hA : (g.lay r (.sl rc.k)).a.map _ = some ad := hA
        rw [ha] at hA; cases hA
      | some b =>
        have hA : (g.lay r (.sl rc.k)).a.map _ = some ad := hA
        rw [ha] at hA; cases hA; exact fun _ => rfl
    · cases ha : (g.lay r (.sl rc.k)).a with
      | none =>
        have := f3 ha
        have hi' : i < List.length rc.xs := hi'
        omega
      | some b =>
        obtain ⟨g0, cs, g1, g2, _, g3⟩ := f4 b ha
        have hi' : i < List.length rc.xs := hi'
        refine ⟨⟨b, (g.lay r (.sl rc.k)).pre.length, none⟩, cs.getD i [], by show (g.lay r (.sl rc.k)).a.map _ = _; rw [ha]; rfl, ⟨g2.lt, .inr (.inl ⟨r, by simp, g0⟩)⟩, chunk_cells g2 (fun j hj => (g3 j (by omega)).length) (by omega), ?_⟩
        exact (g3 i hi').mono (fun b hb => ⟨⟨hb.1, .inl hb.2⟩, rfl⟩)
theorem vw_seen : ∀ {k : K} {v : AV} {c : k.T → Prog} {cs : List Value}, (vw k v c).run st Q → Rep st g w v cs → Sim S st g w a →
    ∃ x, (c x).run st Q ∧ RV (Seen g w (roots v) []) w k x cs ∧ v.isPr = k.isPair ∧ v.one = true ∧ v ≠ .dead ∧ (k.flat = true → roots v = []) := by
  intro k
  induction k with
  | int ik =>
    intro v c cs h hr hS
    cases v <;> first | exact h.elim | skip
    obtain ⟨h1, h2⟩ := iff'_fail h
    have e := eqIK_eq h1
    subst e
    exact ⟨_, h2, hr, rfl, rfl, by simp, fun _ => rfl⟩
  | bool =>
    intro v c cs h hr hS
    cases v <;> first | exact h.elim | skip
    exact ⟨_, h, hr, rfl, rfl, by simp, fun _ => rfl⟩
  | pair p q ip iq =>
    intro v c cs h hr hS
    cases v <;> first | exact h.elim | skip
    rename_i u v
    obtain ⟨c1, c2, e, r1, r2⟩ := hr
    have h : (vw p u fun x => vw q v fun y => c (x, y)).run st Q := h
    obtain ⟨x, h1, rv1, _, _, _, f1⟩ := ip h r1 hS
    obtain ⟨y, h2, rv2, _, _, _, f2⟩ := iq h1 r2 hS
    have m1 : ∀ r, r ∈ roots u → r ∈ roots (.pr u v) := fun r hr => by
      show r ∈ cat (roots u) (roots v)
      rw [cat_eq]; exact List.mem_append_left _ hr
    have m2 : ∀ r, r ∈ roots v → r ∈ roots (.pr u v) := fun r hr => by
      show r ∈ cat (roots u) (roots v)
      rw [cat_eq]; exact List.mem_append_right _ hr
    refine ⟨(x, y), h2, ⟨c1, c2, e, rv1.mono fun b hb => ⟨hb.mono m1 (fun _ h => h), rfl⟩, rv2.mono fun b hb => ⟨hb.mono m2 (fun _ h => h), rfl⟩⟩, rfl, rfl, by simp, fun hf => ?_⟩
    · obtain ⟨h1, h2⟩ := andB_true.1 (show andB p.flat q.flat = true from hf)
      show cat (roots u) (roots v) = []
      rw [cat_eq, f1 h1, f2 h2]; rfl
  | sl k ih =>
    intro v c cs h hr hS
    cases v with
    | nils => exact ⟨([] : List k.T), h, ⟨none, 0, hr, Nat.le_refl _, fun _ h => (by cases h), fun i hi => (by simp at hi)⟩, rfl, rfl, by simp, fun hf => (by simp [K.flat] at hf)⟩
    | vsl k' xs =>
      have h : (match K.same k' k with | some ⟨h⟩ => c (h ▸ xs) | none => .fail).run st Q := h
      split at h
      · rename_i hk _
        have hk : k' = k := hk
        subst hk
        exact ⟨xs, h, (show RV (g.U w) w (.sl k') xs cs from hr).mono fun b hb => ⟨⟨hb.1, .inl hb.2⟩, rfl⟩, rfl, rfl, by simp, fun hf => (by simp [K.flat] at hf)⟩
      · exact h.elim
    | rf r gen hc p =>
      have h : (rdSl r gen hc p fun k' xs => match K.same k' k with | some ⟨h⟩ => c (h ▸ xs) | none => .fail).run st Q := h
      obtain ⟨rc, k', q1, q2, e, q3⟩ := rdSl_run h
      split at q3
      · rename_i hk _
        have hk : k' = k := hk
        subst hk
        obtain ⟨p1, _, p3⟩ := hr.2.2 rc q2
        have := root_seen hS q1 q2 p1 e
        rw [← p3] at this
        exact ⟨_, q3, this, rfl, rfl, by simp, fun hf => (by simp [K.flat] at hf)⟩
      · exact q3.elim
    | cut r gen hc p lo hi =>
      have h : (rdSl r gen hc p fun k' xs => match K.same k' k with | some ⟨h⟩ => c (h ▸ ((List.take hi xs).drop lo)) | none => .fail).run st Q := h
      obtain ⟨rc, k', q1, q2, e, q3⟩ := rdSl_run h
      split at q3
      · rename_i hk _
        have hk : k' = k := hk
        subst hk
        obtain ⟨p1, k'', e', hlo, hhi, A, n, cap, p4, p5⟩ := hr.2.2 rc q2
        have ek : k'' = k' := by rw [e] at e'; cases e'; rfl
        subst ek
        have hv := root_seen hS q1 q2 p1 e
        rw [p4] at hv
        have hv := hv.cut hlo hhi
        rw [← p5] at hv
        exact ⟨_, q3, hv, rfl, rfl, by simp, fun hf => (by simp [K.flat] at hf)⟩
      · exact q3.elim
    | _ => exact h.elim
theorem vwS_run : ∀ {k : K} {v : AV} {c : k.T → Prog} {cs : List Value}, (vwS k v c).run st Q → Rep st g w v cs →
    ∃ x, (c x).run st Q ∧ RV (g.U w) w k x cs ∧ v.isPr = k.isPair ∧ v.one = true ∧ v ≠ .dead ∧ likeK k v = true := by
  intro k
  induction k with
  | int ik =>
    intro v c cs h hr
    cases v <;> first | exact h.elim | skip
    obtain ⟨h1, h2⟩ := iff'_fail h
    have e := eqIK_eq h1
    subst e
    exact ⟨_, h2, hr, rfl, rfl, by simp, rfl⟩
  | bool =>
    intro v c cs h hr
    cases v <;> first | exact h.elim | skip
    exact ⟨_, h, hr, rfl, rfl, by simp, rfl⟩
  | pair p q ip iq =>
    intro v c cs h hr
    cases v <;> first | exact h.elim | skip
    rename_i u v
    obtain ⟨c1, c2, e, r1, r2⟩ := hr
    have h : (vwS p u fun x => vwS q v fun y => c (x, y)).run st Q := h
    obtain ⟨x, h1, rv1, _, _, _, l1⟩ := ip h r1
    obtain ⟨y, h2, rv2, _, _, _, l2⟩ := iq h1 r2
    exact ⟨(x, y), h2, ⟨c1, c2, e, rv1, rv2⟩, rfl, rfl, by simp, andB_true.2 ⟨l1, l2⟩⟩
  | sl k ih =>
    intro v c cs h hr
    cases v with
    | nils => exact ⟨([] : List k.T), h, ⟨none, 0, hr, Nat.le_refl _, fun _ h => (by cases h), fun i hi => (by simp at hi)⟩, rfl, rfl, by simp, rfl⟩
    | vsl k' xs =>
      have h : (match K.same k' k with | some ⟨h⟩ => c (h ▸ xs) | none => .fail).run st Q := h
      split at h
      · rename_i hk _
        have hk : k' = k := hk
        subst hk
        exact ⟨xs, h, hr, rfl, rfl, by simp, rfl⟩
      · exact h.elim
    | _ => exact h.elim
/-- A box of a callee's start. -/
structure BI where
  nb : Nat
  u : AV
  ro : Bool
  ad : Nat × Nat
def BI.ent (i : BI) : Nat × BoxV := (i.nb, ⟨0, some i.u, i.ro⟩)
theorem all2_get {α β : Type} {f : α → β → Prop} : ∀ {l : List α} {m : List β} (n : Nat) {y : β}, All2 f l m → m[n]? = some y → ∃ x, l[n]? = some x ∧ f x y
  | [], [], n, y, _, h => by simp at h
  | a :: l, b :: m, 0, y, h, e => by simp at e; subst e; exact ⟨a, rfl, h.1⟩
  | a :: l, b :: m, n + 1, y, h, e => by
    obtain ⟨x, h1, h2⟩ := all2_get (l := l) (m := m) n h.2 (by simpa using e)
    exact ⟨x, by simpa using h1, h2⟩
  | [], _ :: _, _, _, h, _ => h.elim
  | _ :: _, [], _, _, h, _ => h.elim
theorem nthA_get : ∀ {l : List AV} {n : Nat}, nthA l n = l[n]?.getD .dead
  | [], n => by cases n <;> rfl
  | v :: l, 0 => rfl
  | v :: l, n + 1 => by simpa [nthA] using nthA_get (l := l) (n := n)
theorem mtq_run {args : List AV} {vals : List Value} (hA : All2 (RepV st g w) args vals) (hS : Sim S st g w a) : ∀ {q : QPat} {v : AV} {c : MR → Prog} {xv : Value}, (mtq args q v c).run st Q → RepV st g w v xv →
    ∃ m : MR, (c m).run st Q ∧ m.o = [] ∧ m.b = [] ∧ (q.lax = false → m.v = [] ∧ m.rb = []) ∧
      ∀ (rest : Cont) (s : Ini) (u : AV) (r' : Cont) (s' : Ini), iniq q (cat m.xs rest) s = some (u, r', s') → r' = rest ∧ s'.avs = s.avs ∧ s'.nr = s.nr ∧ s'.roots = s.roots ∧ s'.nb = s.nb + q.nb ∧
        ∃ bl : List BI, s'.boxes = s.boxes ++ bl.map BI.ent ∧ (∀ i, i ∈ bl → i.ro = true ∧ s.nb ≤ i.nb ∧ i.nb < s'.nb) ∧ (bl.map BI.nb).Nodup ∧
          ∀ (g0 : Gh) (st0 : St), (∀ b, Seen g w m.v m.rb b → g0.U w b) → (∀ i, i ∈ bl → g0.bx i.nb = i.ad ∧ st0.b i.nb = ⟨0, some i.u, i.ro⟩) → (∀ n x, vals[n]? = some x → RepV st0 g0 w (nthA s.avs n) x) →
            RepV st0 g0 w u xv ∧ ∀ i, i ∈ bl → BoxM st0 g0 w i.nb ⟨0, some i.u, i.ro⟩ := by
  intro q
  induction q with
  | val k =>
    intro v c xv h hv
    have hone : v.one = true ∧ v ≠ .dead := by
      cases v <;> first | (refine ⟨rfl, ?_⟩; simp; done) | (cases k <;> exact h.elim)
    obtain ⟨c1, c2, c3⟩ := one_cells hv hone.1 hone.2
    replace h : (vw k v fun x => c ⟨[⟨k, x⟩], [], roots v, [], []⟩).run st Q := h
    obtain ⟨x, h1, rv, hp, _, _, hf⟩ := vw_seen h c1 hS
    refine ⟨_, h1, rfl, rfl, fun hl => ⟨hf (by have : notB k.flat = false := hl; revert this; cases k.flat <;> simp [notB]), rfl⟩, fun rest s u r' s' hi => ?_⟩
    simp only [iniq, cat] at hi
    split at hi
    · cases hi
      refine ⟨rfl, rfl, rfl, rfl, rfl, [], by simp, fun i hi => (by simp at hi), by simp, fun g0 st0 hU _ _ => ⟨?_, fun i hi => (by simp at hi)⟩⟩
      obtain ⟨o1, o2, o3⟩ := opnV_rep (st := st0) (g := g0) (RV.mono (fun b hb => ⟨hU b hb, rfl⟩) rv)
      have e1 := (likeK_w o2).2
      exact of_cells o1 (ok_one o3).1 (fun h => c2 (by rw [hp, ← e1]; exact h)) (fun h => c3 (by rw [hp, ← e1]; exact h))
    · cases hi
  | vs k =>
    intro v c xv h hv
    have hone : v.one = true ∧ v ≠ .dead := by
      cases v <;> first | (refine ⟨rfl, ?_⟩; simp; done) | (cases k <;> exact h.elim)
    obtain ⟨c1, c2, c3⟩ := one_cells hv hone.1 hone.2
    replace h : (vwS k v fun x => c ⟨[⟨k, x⟩], [], [], [], []⟩).run st Q := h
    obtain ⟨x, h1, rv, hp, _⟩ := vwS_run h c1
    refine ⟨_, h1, rfl, rfl, fun _ => ⟨rfl, rfl⟩, fun rest s u r' s' hi => ?_⟩
    simp only [iniq, cat] at hi
    split at hi
    · cases hi
      refine ⟨rfl, rfl, rfl, rfl, rfl, [], by simp, fun i hi => (by simp at hi), by simp, fun g0 st0 hU _ _ => ⟨?_, fun i hi => (by simp at hi)⟩⟩
      obtain ⟨o1, o2, o3⟩ := opnV_rep (st := st0) (g := g0) (RV.mono (fun b hb => ⟨hU b ⟨hb.1, .inl hb.2⟩, rfl⟩) rv)
      have e1 := (likeK_w o2).2
      exact of_cells o1 (ok_one o3).1 (fun h => c2 (by rw [hp, ← e1]; exact h)) (fun h => c3 (by rw [hp, ← e1]; exact h))
    · cases hi
  | same n =>
    intro v c xv h hv
    replace h : (match v, nthA args n with
      | .pb b gen [], .pb b' gen' [] => Prog.rdB b fun bv => match bv.c with
        | some _ => iff' (andB (Nat.beq gen bv.gen) (andB (Nat.beq b b') (Nat.beq gen gen'))) (c .nil) .fail
        | none => .fail
      | _, _ => Prog.fail).run st Q := h
    split at h
    · rename_i b gen b' gen' e
      replace h : (match (st.b b).c with | some _ => iff' (andB (Nat.beq gen (st.b b).gen) (andB (Nat.beq b b') (Nat.beq gen gen'))) (c .nil) .fail | none => Prog.fail).run st Q := h
      split at h
      · rename_i u0 hu0
        obtain ⟨h1, h2⟩ := iff'_fail h
        obtain ⟨h3, h4⟩ := andB_true.1 h1
        obtain ⟨h5, h6⟩ := andB_true.1 h4
        have e1 := Nat.eq_of_beq_eq_true h5
        have e2 := Nat.eq_of_beq_eq_true h6
        have e3 := Nat.eq_of_beq_eq_true h3
        subst e1 e2
        refine ⟨_, h2, rfl, rfl, fun _ => ⟨rfl, rfl⟩, fun rest s u r' s' hi => ?_⟩
        replace hi : some (nthA s.avs n, rest, s) = some (u, r', s') := hi
        cases hi
        refine ⟨rfl, rfl, rfl, rfl, rfl, [], by simp, fun i hi => (by simp at hi), by simp, fun g0 st0 _ _ hvals => ⟨?_, fun i hi => (by simp at hi)⟩⟩
        rw [nthA_get] at e
        cases hn : args[n]? with
        | none => rw [hn] at e; cases e
        | some v0 =>
          rw [hn] at e
          have e : v0 = .pb b gen [] := e
          subst e
          have hex : ∃ x, vals[n]? = some x ∧ RepV st g w (.pb b gen []) x := by
            have hlen := all2_len hA
            have hlt : n < vals.length := by rw [← hlen]; exact (List.getElem?_eq_some_iff.1 hn).1
            obtain ⟨v1, q1, q2⟩ := all2_get n hA (List.getElem?_eq_getElem hlt)
            rw [hn] at q1
            cases q1
            exact ⟨_, List.getElem?_eq_getElem hlt, q2⟩
          obtain ⟨x, hx1, hx2⟩ := hex
          obtain ⟨_, _, k1⟩ := (show Rep st g w (.pb b gen []) [x] from hx2)
          obtain ⟨_, _, k2⟩ := (show Rep st g w (.pb b gen []) [xv] from hv)
          have ex : x = xv := by
            have a1 := (List.cons.inj (k1 u0 hu0 e3).2).1
            have a2 := (List.cons.inj (k2 u0 hu0 e3).2).1
            rw [a1, a2]
          rw [← ex]
          exact hvals n x hx1
      · exact h.elim
    · exact h.elim
  | rbx q iq =>
    intro v c xv h hv
    replace h : (match v with
      | .pb b gen [] => Prog.rdB b fun bv => match bv.c with
        | some u => iff' (Nat.beq gen bv.gen) (mtq args q u fun m => c (m.join ⟨[], [], [], [], [b]⟩)) .fail
        | none => .fail
      | _ => Prog.fail).run st Q := h
    split at h
    · rename_i b gen
      replace h : (match (st.b b).c with | some u => iff' (Nat.beq gen (st.b b).gen) (mtq args q u fun m => c (m.join ⟨[], [], [], [], [b]⟩)) .fail | none => Prog.fail).run st Q := h
      split at h
      · rename_i u0 hu0
        obtain ⟨h1, h2⟩ := iff'_fail h
        have e1 := Nat.eq_of_beq_eq_true h1
        obtain ⟨b1, b2⟩ := hS.box b u0 hu0
        obtain ⟨cs, hcs, hrep, hblk⟩ : ∃ cs, Cells w (g.bx b).1 (g.bx b).2 cs ∧ Rep st g w u0 cs ∧ Seen g w [] [b] (g.bx b).1 := by
          by_cases hro : (st.b b).ro = true
          · rw [if_pos hro] at b2
            obtain ⟨k1, cs, k2, k3⟩ := b2
            exact ⟨cs, k2, k3, k1.1, .inl k1.2⟩
          · rw [if_neg hro] at b2
            obtain ⟨k0, k1, cs, k2, k3⟩ := b2
            refine ⟨cs, ?_, k3, k2.lt, .inr (.inr ⟨b, by simp, k1⟩)⟩
            rw [k0]
            have : Blk w (g.bx b).1 ([] ++ cs ++ []) := by simpa using k2
            exact this.cells
        obtain ⟨m, h3, m1, m2, m3, h4⟩ := iq h2 (repV_cells hrep b1)
        refine ⟨_, h3, ?_, ?_, fun hl => (by simp [QPat.lax] at hl), fun rest s u r' s' hi => ?_⟩
        · show cat m.o [] = []
          rw [m1]; rfl
        · show cat m.b [] = []
          rw [m2]; rfl
        · replace hi : (match iniq q (cat (cat m.xs []) rest) s with
            | some (v, r, s') => iff' (notB v.ok) none <| some (.pb s'.nb 0 [], r, { s' with nb := s'.nb + 1, boxes := cat s'.boxes [(s'.nb, ⟨0, some v, true⟩)] })
            | none => none) = some (u, r', s') := hi
          rw [cat_eq m.xs [], List.append_nil] at hi
          split at hi
          · rename_i v1 r1 s1 hi1
            cases hok : v1.ok with
            | false => rw [hok] at hi; cases hi
            | true =>
              rw [hok] at hi
              replace hi : some (AV.pb s1.nb 0 [], r1, ({ s1 with nb := s1.nb + 1, boxes := cat s1.boxes [(s1.nb, ⟨0, some v1, true⟩)] } : Ini)) = some (u, r', s') := hi
              cases hi
              obtain ⟨i1, i2, i3, i4, i5, bl, i6, i7, i8, i9⟩ := h4 rest s v1 r' s1 hi1
              refine ⟨i1, i2, i3, i4, ?_, bl ++ [⟨s1.nb, v1, true, g.bx b⟩], ?_, fun i hi => ?_, ?_, fun g0 st0 hU hB hvals => ?_⟩
              · show s1.nb + 1 = s.nb + (q.nb + 1)
                omega
              · show cat s1.boxes _ = _
                rw [cat_eq, i6]; simp [BI.ent]
              · rcases List.mem_append.1 hi with hi | hi
                · obtain ⟨k1, k2, k3⟩ := i7 i hi
                  exact ⟨k1, k2, Nat.lt_succ_of_lt k3⟩
                · simp at hi
                  subst hi
                  exact ⟨rfl, by show s.nb ≤ s1.nb; omega, Nat.lt_succ_self _⟩
              · rw [List.map_append, List.nodup_append]
                refine ⟨i8, by simp, fun n hn n' hn' e => ?_⟩
                subst e
                obtain ⟨i, hi, ei⟩ := List.mem_map.1 hn
                have := (i7 i hi).2.2
                simp at hn'
                omega
              · have hU' : ∀ b, Seen g w m.v m.rb b → g0.U w b := fun b hb => hU b (hb.mono (fun r hr => by show r ∈ cat m.v []; rw [cat_eq]; simpa using hr) (fun r hr => by show r ∈ cat m.rb _; rw [cat_eq]; exact List.mem_append_left _ hr))
                obtain ⟨j1, j2⟩ := i9 g0 st0 hU' (fun i hi => hB i (List.mem_append_left _ hi)) hvals
                obtain ⟨p1, p2⟩ := hB ⟨s1.nb, v1, true, g.bx b⟩ (by simp)
                have hrc : Rep st0 g0 w v1 cs := by
                  have := repV_toCells j1 hok
                  have ec : (if u0.isPr = true then Value.agg cs.toArray else cs.getD 0 undef).cells.toList = cs := by
                    by_cases hpr : u0.isPr = true
                    · rw [if_pos hpr]; rfl
                    · rw [if_neg hpr]
                      obtain ⟨q1, q2⟩ := Rep.plain b1 hrep
                      have hw1 : u0.w = 1 := by cases u0 <;> first | rfl | exact absurd rfl hpr
                      rw [hw1] at q1
                      obtain ⟨x, rfl⟩ := List.length_eq_one_iff.1 q1
                      exact cellsP (q2 x (by simp))
                  rw [ec] at this
                  exact this
                refine ⟨?_, fun i hi => ?_⟩
                · obtain ⟨⟨A, eA⟩, _, kk⟩ := (show Rep st g w (.pb b gen []) [xv] from hv)
                  obtain ⟨_, k2⟩ := kk u0 hu0 e1
                  refine ⟨⟨A, eA⟩, by rw [p2]; exact Nat.zero_le _, fun v' hv' _ => ?_⟩
                  refine ⟨(av_nil _).2.2, ?_⟩
                  rw [k2, (av_nil _).2.1, (av_nil _).2.1, p1]
                · rcases List.mem_append.1 hi with hi | hi
                  · exact j2 i hi
                  · simp at hi
                    subst hi
                    intro v' hv'
                    have e : v' = v1 := (Option.some.inj hv').symm
                    subst e
                    refine ⟨hok, ?_⟩
                    rw [if_pos rfl]
                    rw [p1]
                    exact ⟨hU _ (hblk.mono (fun r hr => (by simp at hr)) (fun r hr => by show r ∈ cat m.rb _; rw [cat_eq]; exact List.mem_append_right _ hr)), cs, hcs, hrc⟩
          · cases hi
      · exact h.elim
    · exact h.elim
  | nil =>
    intro v c xv h hv
    replace h : (match v with | .nil => c .nil | _ => Prog.fail).run st Q := h
    split at h
    · refine ⟨_, h, rfl, rfl, fun _ => ⟨rfl, rfl⟩, fun rest s u r' s' hi => ?_⟩
      replace hi : some (AV.nil, rest, s) = some (u, r', s') := hi
      cases hi
      exact ⟨rfl, rfl, rfl, rfl, rfl, [], by simp, fun i hi => (by simp at hi), by simp, fun g0 st0 _ _ _ => ⟨hv, fun i hi => (by simp at hi)⟩⟩
    · exact h.elim
  | cons p q ip iq =>
    intro v c xv h hv
    replace h : (match v with | .cons a b => iff' (andB a.one b.isList) (mtq args p a fun x => mtq args q b fun y => c (x.join y)) .fail | _ => Prog.fail).run st Q := h
    split at h
    · rename_i va vb
      obtain ⟨h1, h2⟩ := iff'_fail h
      obtain ⟨o1, o2⟩ := andB_true.1 h1
      obtain ⟨vs, ev, x, xs, e, hx, hxs⟩ := hv
      subst ev
      have hvb : RepV st g w vb (.tuple xs.toArray) := by
        cases vb <;> first | (simp [AV.isList] at o2; done) | exact ⟨xs.toArray, rfl, by simpa using hxs⟩
      obtain ⟨m, h3, m1, m2, m3, h4⟩ := ip h2 (of_one o1 hx)
      obtain ⟨n, h5, n1, n2, n3, h6⟩ := iq h3 hvb
      refine ⟨_, h5, ?_, ?_, fun hl => ?_, fun rest s u r' s' hi => ?_⟩
      · show cat m.o n.o = []
        rw [m1, n1]; rfl
      · show cat m.b n.b = []
        rw [m2, n2]; rfl
      · have hl : orB p.lax q.lax = false := hl
        have l1 : p.lax = false := by revert hl; cases p.lax <;> simp [orB]
        have l2 : q.lax = false := by revert hl; rw [l1]; exact fun h => h
        show cat m.v n.v = [] ∧ cat m.rb n.rb = []
        rw [(m3 l1).1, (m3 l1).2, (n3 l2).1, (n3 l2).2]; exact ⟨rfl, rfl⟩
      · replace hi : (match iniq p (cat (cat m.xs n.xs) rest) s with
          | some (a, r, s') => match iniq q r s' with
            | some (b, r', s'') => iff' (andB a.one b.isList) (some (.cons a b, r', s'')) none
            | none => none
          | none => none) = some (u, r', s') := hi
        have ec : cat (cat m.xs n.xs) rest = cat m.xs (cat n.xs rest) := by simp only [cat_eq, List.append_assoc]
        rw [ec] at hi
        split at hi
        · rename_i ua r1 s1 hi1
          obtain ⟨i1, i2, i3, i4, i5, bl, i6, i7, i8, i9⟩ := h4 _ s ua r1 s1 hi1
          subst i1
          split at hi
          · rename_i ub r2 s2 hi2
            obtain ⟨k1, k2, k3, k4, k5, bl', k6, k7, k8, k9⟩ := h6 _ s1 ub r2 s2 hi2
            obtain ⟨t1, t2⟩ := iffS hi
            obtain ⟨t3, t4⟩ := andB_true.1 t1
            cases t2
            refine ⟨k1, k2.trans i2, k3.trans i3, k4.trans i4, ?_, bl ++ bl', ?_, fun i hi => ?_, ?_, fun g0 st0 hU hB hvals => ?_⟩
            · show _ = s.nb + (p.nb + q.nb)
              omega
            · rw [k6, i6]; simp
            · rcases List.mem_append.1 hi with hi | hi
              · obtain ⟨j1, j2, j3⟩ := i7 i hi; exact ⟨j1, j2, by omega⟩
              · obtain ⟨j1, j2, j3⟩ := k7 i hi; exact ⟨j1, by omega, j3⟩
            · rw [List.map_append, List.nodup_append]
              refine ⟨i8, k8, fun n hn n' hn' e => ?_⟩
              subst e
              obtain ⟨i, hi, ei⟩ := List.mem_map.1 hn
              obtain ⟨i', hi', ei'⟩ := List.mem_map.1 hn'
              have := (i7 i hi).2.2
              have := (k7 i' hi').2.1
              omega
            · have hU1 : ∀ b, Seen g w m.v m.rb b → g0.U w b := fun b hb => hU b (hb.mono (fun r hr => by show r ∈ cat m.v _; rw [cat_eq]; exact List.mem_append_left _ hr) (fun r hr => by show r ∈ cat m.rb _; rw [cat_eq]; exact List.mem_append_left _ hr))
              have hU2 : ∀ b, Seen g w n.v n.rb b → g0.U w b := fun b hb => hU b (hb.mono (fun r hr => by show r ∈ cat m.v _; rw [cat_eq]; exact List.mem_append_right _ hr) (fun r hr => by show r ∈ cat m.rb _; rw [cat_eq]; exact List.mem_append_right _ hr))
              obtain ⟨j1, j2⟩ := i9 g0 st0 hU1 (fun i hi => hB i (List.mem_append_left _ hi)) hvals
              obtain ⟨j3, j4⟩ := k9 g0 st0 hU2 (fun i hi => hB i (List.mem_append_right _ hi)) (by rw [i2]; exact hvals)
              refine ⟨⟨vs, rfl, x, xs, e, one_cons j1 t3, ?_⟩, fun i hi => ?_⟩
              · cases ub <;> first | (simp [AV.isList] at t4; done) | (obtain ⟨ys, ey, hr⟩ := j3; cases ey; simpa using hr)
              · rcases List.mem_append.1 hi with hi | hi
                · exact j2 i hi
                · exact j4 i hi
          · cases hi
        · cases hi
    · exact h.elim
  | fn f p q ip iq =>
    intro v c xv h hv
    replace h : (match v with | .fn h a b => iff' (andB (Nat.beq f h) (andB a.isList b.isList)) (mtq args p a fun x => mtq args q b fun y => c (x.join y)) .fail | _ => Prog.fail).run st Q := h
    split at h
    · rename_i f' va vb
      obtain ⟨h1, h2⟩ := iff'_fail h
      obtain ⟨o0, o12⟩ := andB_true.1 h1
      have e0 := Nat.eq_of_beq_eq_true o0
      subst e0
      obtain ⟨o1, o2⟩ := andB_true.1 o12
      obtain ⟨xa, xb, e, hxa, hxb⟩ := (show Rep st g w (.fn f va vb) [xv] from hv)
      have hva : RepV st g w va (.tuple xa) := by
        cases va <;> first | (simp [AV.isList] at o1; done) | exact ⟨xa, rfl, hxa⟩
      have hvb : RepV st g w vb (.tuple xb) := by
        cases vb <;> first | (simp [AV.isList] at o2; done) | exact ⟨xb, rfl, hxb⟩
      obtain ⟨m, h3, m1, m2, m3, h4⟩ := ip h2 hva
      obtain ⟨n, h5, n1, n2, n3, h6⟩ := iq h3 hvb
      refine ⟨_, h5, ?_, ?_, fun hl => ?_, fun rest s u r' s' hi => ?_⟩
      · show cat m.o n.o = []
        rw [m1, n1]; rfl
      · show cat m.b n.b = []
        rw [m2, n2]; rfl
      · have hl : orB p.lax q.lax = false := hl
        have l1 : p.lax = false := by revert hl; cases p.lax <;> simp [orB]
        have l2 : q.lax = false := by revert hl; rw [l1]; exact fun h => h
        show cat m.v n.v = [] ∧ cat m.rb n.rb = []
        rw [(m3 l1).1, (m3 l1).2, (n3 l2).1, (n3 l2).2]; exact ⟨rfl, rfl⟩
      · replace hi : (match iniq p (cat (cat m.xs n.xs) rest) s with
          | some (a, r, s') => match iniq q r s' with
            | some (b, r', s'') => iff' (andB a.isList b.isList) (some (.fn f a b, r', s'')) none
            | none => none
          | none => none) = some (u, r', s') := hi
        have ec : cat (cat m.xs n.xs) rest = cat m.xs (cat n.xs rest) := by simp only [cat_eq, List.append_assoc]
        rw [ec] at hi
        split at hi
        · rename_i ua r1 s1 hi1
          obtain ⟨i1, i2, i3, i4, i5, bl, i6, i7, i8, i9⟩ := h4 _ s ua r1 s1 hi1
          subst i1
          split at hi
          · rename_i ub r2 s2 hi2
            obtain ⟨k1, k2, k3, k4, k5, bl', k6, k7, k8, k9⟩ := h6 _ s1 ub r2 s2 hi2
            obtain ⟨t1, t2⟩ := iffS hi
            obtain ⟨t3, t4⟩ := andB_true.1 t1
            cases t2
            refine ⟨k1, k2.trans i2, k3.trans i3, k4.trans i4, ?_, bl ++ bl', ?_, fun i hi => ?_, ?_, fun g0 st0 hU hB hvals => ?_⟩
            · show _ = s.nb + (p.nb + q.nb)
              omega
            · rw [k6, i6]; simp
            · rcases List.mem_append.1 hi with hi | hi
              · obtain ⟨j1, j2, j3⟩ := i7 i hi; exact ⟨j1, j2, by omega⟩
              · obtain ⟨j1, j2, j3⟩ := k7 i hi; exact ⟨j1, by omega, j3⟩
            · rw [List.map_append, List.nodup_append]
              refine ⟨i8, k8, fun n hn n' hn' e => ?_⟩
              subst e
              obtain ⟨i, hi, ei⟩ := List.mem_map.1 hn
              obtain ⟨i', hi', ei'⟩ := List.mem_map.1 hn'
              have := (i7 i hi).2.2
              have := (k7 i' hi').2.1
              omega
            · have hU1 : ∀ b, Seen g w m.v m.rb b → g0.U w b := fun b hb => hU b (hb.mono (fun r hr => by show r ∈ cat m.v _; rw [cat_eq]; exact List.mem_append_left _ hr) (fun r hr => by show r ∈ cat m.rb _; rw [cat_eq]; exact List.mem_append_left _ hr))
              have hU2 : ∀ b, Seen g w n.v n.rb b → g0.U w b := fun b hb => hU b (hb.mono (fun r hr => by show r ∈ cat m.v _; rw [cat_eq]; exact List.mem_append_right _ hr) (fun r hr => by show r ∈ cat m.rb _; rw [cat_eq]; exact List.mem_append_right _ hr))
              obtain ⟨j1, j2⟩ := i9 g0 st0 hU1 (fun i hi => hB i (List.mem_append_left _ hi)) hvals
              obtain ⟨j3, j4⟩ := k9 g0 st0 hU2 (fun i hi => hB i (List.mem_append_right _ hi)) (by rw [i2]; exact hvals)
              have r1 : Rep st0 g0 w ua xa.toList := by
                cases ua <;> first | (simp [AV.isList] at t3; done) | (obtain ⟨ys, ey, hr⟩ := j1; cases ey; exact hr)
              have r2 : Rep st0 g0 w ub xb.toList := by
                cases ub <;> first | (simp [AV.isList] at t4; done) | (obtain ⟨ys, ey, hr⟩ := j3; cases ey; exact hr)
              refine ⟨⟨xa, xb, e, r1, r2⟩, fun i hi => ?_⟩
              rcases List.mem_append.1 hi with hi | hi
              · exact j2 i hi
              · exact j4 i hi
          · cases hi
        · cases hi
    · exact h.elim
end
end Go.Am
namespace Go.Am
structure RI where
  k : K
  x : k.T
  l : k.L
def RI.none : RI := ⟨.bool, false, ()⟩
def Pat.nb : Pat → Nat
  | .q x => x.nb
  | .own _ => 0
  | .take _ => 0
  | .ro _ => 1
  | .box _ _ => 1
  | .bp _ => 2
def ownRoots (st : St) : Pat → AV → List Nat
  | .own _, v => roots v
  | .take _, v => roots v
  | .ro _, .rp r _ _ _ => [r]
  | .ro _, .pb b _ _ => match (st.b b).c with | some u => roots u | none => []
  | .box true _, .pb b _ _ => match (st.b b).c with | some u => roots u | none => []
  | .bp _, .pb b _ _ => match (st.b b).c with | some (.pb b2 _ _) => (match (st.b b2).c with | some u => roots u | none => []) | _ => []
  | _, _ => []
def ownBoxes (st : St) : Pat → AV → List Nat
  | .box _ _, .pb b _ _ => [b]
  | .bp _, .pb b _ _ => match (st.b b).c with | some (.pb b2 _ _) => [b2] | _ => []
  | _, _ => []
def roBoxes : Pat → AV → List Nat
  | .ro _, .pb b _ _ => [b]
  | .bp _, .pb b _ _ => [b]
  | _, _ => []
def takeRoots : Pat → AV → List Nat
  | .take _, v => roots v
  | _, _ => []
section
variable {P : Program} {E : Env} {S : Start} {st st1 st' : St} {g g' : Gh} {w w' : World} {a : Act} {Q : St → Prop} {gd : Gd} {o : Oper} {Qx : Exit → Act → World → Prop}
/-- How what is handed over comes back. -/
def BackOk (st : St) (g : Gh) : Pat → AV → RI → Prop
  | .q _, _, d => d = .none
  | .take k, _, d => d.k = k
  | .own k, v, d => ∃ x l, d = ⟨k, x, l⟩ ∧ OwnA st g k v x l
  | .ro k, v, d => (∃ r gen hc p x l, v = .rp r gen hc p ∧ d = ⟨k, x, l⟩ ∧ Place st g r p k x l ∧ 0 < ix p) ∨
      ∃ b gen u x l, v = .pb b gen [] ∧ (st.b b).c = some u ∧ d = ⟨k, x, l⟩ ∧ OwnA st g k u x l
  | .box own k, v, d => ∃ b gen u, v = .pb b gen [] ∧ (st.b b).c = some u ∧ gen = (st.b b).gen ∧ (st.b b).ro = false ∧ likeK k u = true ∧
      (own = true → ∃ x l, d = ⟨k, x, l⟩ ∧ OwnA st g k u x l) ∧ (own = false → d = .none)
  | .bp k, v, d => ∃ b gen b2 gen2 u x l, v = .pb b gen [] ∧ (st.b b).c = some (.pb b2 gen2 []) ∧ (st.b b2).c = some u ∧ (st.b b2).ro = false ∧ likeK k u = true ∧ d = ⟨k, x, l⟩ ∧ OwnA st g k u x l
def BoxLink (st : St) (g g0 : Gh) : Pat → AV → Nat → Prop
  | .box _ _, .pb b _ _, nb => g0.bx nb = g.bx b
  | .bp _, .pb b _ _, nb => ∀ b2 gen2, (st.b b).c = some (.pb b2 gen2 []) → g0.bx (nb + 1) = g.bx b2
  | _, _, _ => True
theorem place_ad {r gen hc : Nat} {p : Pth} {rc : RC} {xv : Value} (hv : valid (st.r r) gen hc 2 p rc) (hr : Rep st g w (.rp r gen hc p) [xv]) :
    Okp (.sl rc.k) p rc.xs ∧ 0 < ix p ∧ ∃ b o, ad (.sl rc.k) p (g.lay r (.sl rc.k)) none = some (b, o) ∧ xv = .pointer (some ⟨b, o, none⟩) := by
  obtain ⟨_, _, h⟩ := hr
  obtain ⟨h1, h2, b, o, h3, h4⟩ := h rc hv
  exact ⟨h1, h2, b, o, h3, (List.cons.inj h4).1⟩
theorem used_b (h : st1.boxes = st.boxes) (b : Nat) : st1.b b = st.b b := by simp only [St.b, h]
theorem mt_run {args : List AV} {vals : List Value} (hA : All2 (RepV st g w) args vals) (hS : Sim S st g w a) {p : Pat} {v : AV} {c : MR → Prog} {xv : Value} (h : (mt args p v c).run st Q) (hv : RepV st g w v xv) :
    ∃ (m : MR) (st1 : St) (d : RI), (c m).run st1 Q ∧ Sim S st1 g w a ∧ (∀ v x, RepV st g w v x → RepV st1 g w v x) ∧ (st1.env = st.env ∧ st1.boxes = st.boxes ∧ ∀ r, st1.r r = st.r r ∨ (r ∈ takeRoots p v ∧ (st1.r r).c = none ∧ (st.r r).gen < (st1.r r).gen)) ∧
      m.o = ownRoots st p v ∧ m.b = ownBoxes st p v ∧ ((p.lax = false → m.v = [] ∧ m.rb = []) ∧ ∀ b, b ∈ roBoxes p v → b ∈ m.rb) ∧ BackOk st g p v d ∧ (∀ k, p = .take k → ∀ b c, (b, c) ∈ rows d.k d.x d.l → ∃ r, g.ow b = some (2 * r) ∧ (st1.r r).c = none) ∧
      (m.o.Nodup → Fit d.k d.x d.l ∧ ((rows d.k d.x d.l).map Prod.fst).Nodup ∧ (∀ b c, (b, c) ∈ rows d.k d.x d.l → (∃ r, r ∈ m.o ∧ g.ow b = some (2 * r)) ∧ Blk w b c) ∧
        ∃ eb : List Nat, (∀ b, b ∈ eb → b < w.heap.size ∧ (∃ r, r ∈ m.o ∧ g.ow b = some (2 * r)) ∧ b ∉ (rows d.k d.x d.l).map Prod.fst) ∧ (p.lax = false → eb = []) ∧
        ∀ (rest : Cont) (s : Ini) (u : AV) (r' : Cont) (s' : Ini), ini p (cat m.xs rest) s = some (u, r', s') → r' = rest ∧ s'.avs = s.avs ∧ s'.nr = s.nr + d.k.nsl ∧ s'.nb = s.nb + p.nb ∧ s'.roots = s.roots ++ (iniO d.k d.x s.nr).2.1 ∧
          ∃ bl : List BI, s'.boxes = s.boxes ++ bl.map BI.ent ∧ (∀ i, i ∈ bl → s.nb ≤ i.nb ∧ i.nb < s'.nb ∧ (i.ro = false → i.ad.1 < w.heap.size ∧ ∃ c, c ∈ m.b ∧ g.ow i.ad.1 = some (2 * c + 3))) ∧ (bl.map BI.nb).Nodup ∧
            ((bl.filter fun i => !i.ro).map fun i => i.ad.1).Nodup ∧
            ∀ (g0 : Gh) (st0 : St), (∀ b, Seen g w m.v m.rb b → g0.U w b) → (∀ b, b ∈ eb → g0.U w b) → (∀ i, i ∈ bl → g0.bx i.nb = i.ad ∧ st0.b i.nb = ⟨0, some i.u, i.ro⟩ ∧ (i.ro = false → g0.ow i.ad.1 = some (2 * i.nb + 3))) →
              Plc g0 d.k d.x d.l s.nr → HasR st0 d.k d.x s.nr → (∀ n x, vals[n]? = some x → RepV st0 g0 w (nthA s.avs n) x) →
              RepV st0 g0 w u xv ∧ (∀ i, i ∈ bl → BoxM st0 g0 w i.nb ⟨0, some i.u, i.ro⟩) ∧ BoxLink st g g0 p v s.nb) := by
  cases p with
  | q q =>
    obtain ⟨m, h1, m1, m2, m3, h4⟩ := mtq_run hA hS (q := q) h hv
    refine ⟨m, st, .none, h1, hS, fun _ _ h => h, ⟨rfl, rfl, fun _ => .inl rfl⟩, m1, m2, ⟨m3, fun b hb => (by simp [roBoxes] at hb)⟩, rfl, fun _ h => (by cases h), fun _ => ⟨trivial, by simp [RI.none, rows], fun b c hb => (by simp [RI.none, rows] at hb), [], fun b hb => (by simp at hb), fun _ => rfl, fun rest s u r' s' hi => ?_⟩⟩
    obtain ⟨i1, i2, i3, i4, i5, bl, i6, i7, i8, i9⟩ := h4 rest s u r' s' hi
    have hf : (bl.filter fun i => !i.ro) = [] := by
      rw [List.filter_eq_nil_iff]
      intro i hi
      simp [(i7 i hi).1]
    refine ⟨i1, i2, i3, i5, by rw [i4]; simp [RI.none, iniO], bl, i6, fun i hi => ⟨(i7 i hi).2.1, (i7 i hi).2.2, fun hr => (by rw [(i7 i hi).1] at hr; cases hr)⟩, i8, by rw [hf]; simp, fun g0 st0 hU _ hB _ _ hvals => ?_⟩
    obtain ⟨j1, j2⟩ := i9 g0 st0 hU (fun i hi => ⟨(hB i hi).1, (hB i hi).2.1⟩) hvals
    exact ⟨j1, j2, trivial⟩
  | own k =>
    have hone : v.one = true ∧ v ≠ .dead := by
      cases v <;> first | (refine ⟨rfl, ?_⟩; simp; done) | (cases k <;> exact h.elim)
    obtain ⟨c1, c2, c3⟩ := one_cells hv hone.1 hone.2
    obtain ⟨x, l, h1, oa, eh, lk, ok⟩ := ownRd_run (k := k) h c1
    refine ⟨_, st, ⟨k, x, l⟩, h1, hS, fun _ _ h => h, ⟨rfl, rfl, fun _ => .inl rfl⟩, rfl, by cases v <;> rfl, ⟨fun _ => ⟨rfl, rfl⟩, fun b hb => (by simp [roBoxes] at hb)⟩, ⟨x, l, rfl, oa⟩, fun _ h => (by cases h), fun hn => ?_⟩
    obtain ⟨f1, f2, f3⟩ := oa.facts hS hn
    refine ⟨f1, f2, f3, [], fun b hb => (by simp at hb), fun _ => rfl, fun rest s u r' s' hi => ?_⟩
    simp only [ini, cat] at hi
    split at hi
    · cases hi
      refine ⟨rfl, rfl, iniO_idx _ _ _, rfl, by rw [cat_eq], [], by simp, fun i hi => (by simp at hi), by simp, by simp, fun g0 st0 _ _ _ hp hr _ => ?_⟩
      obtain ⟨_, r2, r3, r4⟩ := reg_root f1 f2 (fun b c hb => (f3 b c hb).2) hp hr
      have e1 := (likeK_w r4).2
      have e2 := (likeK_w lk).2
      refine ⟨of_cells (by rw [eh]; exact r2) (ok_one r3).1 (fun h => c2 (by rw [e2, ← e1]; exact h)) (fun h => c3 (by rw [e2, ← e1]; exact h)), fun i hi => (by simp at hi), ?_⟩
      cases v <;> trivial
    · cases hi
  | take k =>
    have hone : v.one = true ∧ v ≠ .dead := by
      cases v <;> first | (refine ⟨rfl, ?_⟩; simp; done) | (cases k <;> exact h.elim)
    obtain ⟨c1, c2, c3⟩ := one_cells hv hone.1 hone.2
    obtain ⟨x, l, st1, s1, u1, m1, f1, e1, p1, h1⟩ := cls_run (k := k) h hS Pool.nil c1
    rw [List.nil_append] at p1
    have hrep : ∀ v x, RepV st g w v x → RepV st1 g w v x := by
      intro v x hv
      refine RepV.step (fun _ hb => ⟨hb, rfl⟩) (fun r => ?_) (fun b => ?_) hv
      · rcases u1.1.root r with e | ⟨e, e'⟩
        · rw [e]; exact RStep.refl _ _
        · exact .inl e'
      · rw [used_b u1.1.boxes]; exact BStep.refl _ _
    have hlk := u1.2.2.1
    have hown := u1.2.2.2
    refine ⟨_, st1, ⟨k, x, l⟩, h1, s1, hrep, ⟨u1.1.env, u1.1.boxes, fun r => ?_⟩, rfl, by cases v <;> rfl, ⟨fun _ => ⟨rfl, rfl⟩, fun b hb => (by simp [roBoxes] at hb)⟩, rfl, fun _ _ b c hb => (p1.row b c hb).2, fun _ => ?_⟩
    · by_cases hr : r ∈ roots v
      · exact (u1.1.root r).imp id fun ⟨k1, k2⟩ => ⟨hr, k1, k2⟩
      · refine .inl (u1.2.1 r ?_)
        have : ∀ v : AV, r ∉ roots v → v.has r = false := by
          intro v
          induction v with
          | pr a b ia ib =>
            intro h
            have h : r ∉ cat (roots a) (roots b) := h
            rw [cat_eq] at h
            simp only [List.mem_append, not_or] at h
            show orB (a.has r) (b.has r) = false
            rw [ia h.1, ib h.2]; rfl
          | rf r' gen hc p =>
            intro h
            have h : r ∉ [r'] := h
            simp at h
            show Nat.beq r' r = false
            rw [Bool.eq_false_iff]; intro e; exact h (Nat.eq_of_beq_eq_true e).symm
          | _ => intro _; rfl
        exact this v hr
    refine ⟨f1, p1.nodup, fun b c hb => ⟨hown b c hb, (p1.row b c hb).1⟩, [], fun b hb => (by simp at hb), fun _ => rfl, fun rest s u r' s' hi => ?_⟩
    simp only [ini, cat] at hi
    split at hi
    · cases hi
      refine ⟨rfl, rfl, iniO_idx _ _ _, rfl, by rw [cat_eq], [], by simp, fun i hi => (by simp at hi), by simp, by simp, fun g0 st0 _ _ _ hp hr _ => ?_⟩
      obtain ⟨_, r2, r3, r4⟩ := reg_root f1 p1.nodup (fun b c hb => (p1.row b c hb).1) hp hr
      have e3 := (likeK_w r4).2
      have e2 := (likeK_w hlk).2
      refine ⟨of_cells (by rw [e1]; exact r2) (ok_one r3).1 (fun h => c2 (by rw [e2, ← e3]; exact h)) (fun h => c3 (by rw [e2, ← e3]; exact h)), fun i hi => (by simp at hi), ?_⟩
      cases v <;> trivial
    · cases hi
  | ro k =>
    replace h : (match v with
      | .rp r gen hc p => Prog.rdR r fun rv => live gen rv fun rc => fresh hc p rv rc.inn 2 <| iff' rc.inn
        (match K.same ((K.sl rc.k).at p) k with | some ⟨h⟩ => c ⟨[⟨k, h ▸ (K.sl rc.k).get p rc.xs⟩], [r], [], [], []⟩ | none => .fail) .fail
      | .pb b gen [] => Prog.rdB b fun bv => match bv.c with
        | some u => iff' (Nat.beq gen bv.gen) (ownRd k u fun x => c ⟨[⟨k, x⟩], roots u, [], [], [b]⟩) .fail
        | none => .fail
      | _ => .fail).run st Q := h
    split at h
    rotate_left
    · rename_i b gen
      replace h : (match (st.b b).c with
        | some u => iff' (Nat.beq gen (st.b b).gen) (ownRd k u fun x => c ⟨[⟨k, x⟩], roots u, [], [], [b]⟩) .fail
        | none => Prog.fail).run st Q := h
      split at h
      · rename_i u0 hu0
        obtain ⟨h1, h2⟩ := iff'_fail h
        have e1 := Nat.eq_of_beq_eq_true h1
        obtain ⟨b1, b2⟩ := hS.box b u0 hu0
        obtain ⟨cs, hcs, hrep, hblk⟩ : ∃ cs, Cells w (g.bx b).1 (g.bx b).2 cs ∧ Rep st g w u0 cs ∧ Seen g w [] [b] (g.bx b).1 := by
          by_cases hro : (st.b b).ro = true
          · rw [if_pos hro] at b2
            obtain ⟨k1, cs, k2, k3⟩ := b2
            exact ⟨cs, k2, k3, k1.1, .inl k1.2⟩
          · rw [if_neg hro] at b2
            obtain ⟨k0, k1, cs, k2, k3⟩ := b2
            refine ⟨cs, ?_, k3, k2.lt, .inr (.inr ⟨b, by simp, k1⟩)⟩
            rw [k0]
            have : Blk w (g.bx b).1 ([] ++ cs ++ []) := by simpa using k2
            exact this.cells
        obtain ⟨x, l, h5, oa, eh, lk, ok⟩ := ownRd_run (k := k) h2 hrep
        refine ⟨_, st, ⟨k, x, l⟩, h5, hS, fun _ _ h => h, ⟨rfl, rfl, fun _ => .inl rfl⟩, by simp only [ownRoots, hu0], rfl, ⟨fun hl => (by simp [Pat.lax] at hl), fun b' hb => hb⟩, .inr ⟨b, gen, u0, x, l, rfl, hu0, rfl, oa⟩, fun _ h => (by cases h), fun hn => ?_⟩
        obtain ⟨f1, f2, f3⟩ := oa.facts hS hn
        refine ⟨f1, f2, f3, [], fun b hb => (by simp at hb), fun _ => rfl, fun rest s u r' s' hi => ?_⟩
        simp only [ini, cat] at hi
        split at hi
        · cases hi
          refine ⟨rfl, rfl, iniO_idx _ _ _, rfl, by rw [cat_eq], [⟨s.nb, _, true, g.bx b⟩], (cat_eq _ _), fun i hi => ?_, by simp, by simp, fun g0 st0 hU _ hB hp hr _ => ?_⟩
          · simp at hi
            subst hi
            exact ⟨Nat.le_refl _, Nat.lt_succ_self _, fun h => (by cases h)⟩
          · obtain ⟨_, r2, r3, r4⟩ := reg_root f1 f2 (fun b c hb => (f3 b c hb).2) hp hr
            obtain ⟨p1, p2, _⟩ := hB _ (List.mem_singleton.2 rfl)
            refine ⟨?_, fun i hi => ?_, trivial⟩
            · obtain ⟨⟨A, eA⟩, _, kk⟩ := (show Rep st g w (.pb b gen []) [xv] from hv)
              obtain ⟨_, k2⟩ := kk u0 hu0 e1
              refine ⟨⟨A, eA⟩, by rw [p2]; exact Nat.zero_le _, fun v' hv' _ => ?_⟩
              refine ⟨(av_nil _).2.2, ?_⟩
              rw [k2, (av_nil _).2.1, (av_nil _).2.1, p1]
            · simp at hi
              subst hi
              intro v' hv'
              have e' : v' = _ := (Option.some.inj hv').symm
              subst e'
              refine ⟨r3, ?_⟩
              rw [if_pos rfl, p1]
              exact ⟨hU _ (hblk.mono (fun r hr => (by simp at hr)) (fun r hr => hr)), cs, hcs, by rw [eh]; exact r2⟩
        · cases hi
      · exact h.elim
    · exact h.elim
    rename_i r gen hc p
    replace h : (live gen (st.r r) fun rc => fresh hc p (st.r r) rc.inn 2 <| iff' rc.inn
        (match K.same ((K.sl rc.k).at p) k with | some ⟨h⟩ => c ⟨[⟨k, h ▸ (K.sl rc.k).get p rc.xs⟩], [r], [], [], []⟩ | none => .fail) .fail).run st Q := h
    obtain ⟨rc, h1, h2, h3, h4⟩ := live_run h
    obtain ⟨h5, h6⟩ := fresh_run h4
    obtain ⟨hinn, h7⟩ := iff'_fail h6
    split at h7
    · rename_i e _
      obtain ⟨q1, q2, b, o, q3, q4⟩ := place_ad ⟨h1, h2, h5⟩ (show Rep st g w (.rp r gen hc p) [xv] from hv)
      have hpl : Place st g r p k (e ▸ (K.sl rc.k).get p rc.xs) (e ▸ (K.sl rc.k).getL p (g.lay r (.sl rc.k))) := ⟨rc, h1, h3, hinn, q1, e, rfl, rfl⟩
      have hR := hS.root r rc h1
      rw [if_pos hinn] at hR
      obtain ⟨f1, f2, f3, f4⟩ := hR
      have f3 : ∀ b c, (b, c) ∈ rows (.sl rc.k) rc.xs (g.lay r (.sl rc.k)) → g.ow b = some (2 * r) ∧ Blk w b c := fun b c hb => f3 b c hb (by rw [h3]; exact fun h => h)
      obtain ⟨A, b0, c1, c2, R, B, d1, d2, d3⟩ := rows_deep f1 q1 q2 none
      have eb : b0 = b ∧ c1.length = o := by rw [q3] at d2; cases d2; exact ⟨rfl, rfl⟩
      obtain ⟨rfl, rfl⟩ := eb
      have hrow := f3 b0 (c1 ++ hdr _ ((K.sl rc.k).get p rc.xs) ((K.sl rc.k).getL p (g.lay r (.sl rc.k))) ++ c2) (by rw [d1]; simp)
      have hnot : b0 ∉ (rows _ ((K.sl rc.k).get p rc.xs) ((K.sl rc.k).getL p (g.lay r (.sl rc.k)))).map Prod.fst := by
        rw [d1] at f2
        simp only [List.map_append, List.map_cons, List.nodup_append, List.nodup_cons, List.mem_append] at f2
        exact fun hm => f2.2.1.1 (.inl (.inr hm))
      have hnot' : b0 ∉ (rows k (e ▸ (K.sl rc.k).get p rc.xs) (e ▸ (K.sl rc.k).getL p (g.lay r (.sl rc.k)))).map Prod.fst := by
        clear hpl h7 d3
        revert hnot
        generalize (K.sl rc.k).get p rc.xs = x0
        generalize (K.sl rc.k).getL p (g.lay r (.sl rc.k)) = l0
        subst e
        exact fun h => h
      have hhdr : hdr _ ((K.sl rc.k).get p rc.xs) ((K.sl rc.k).getL p (g.lay r (.sl rc.k))) = hdr k (e ▸ (K.sl rc.k).get p rc.xs) (e ▸ (K.sl rc.k).getL p (g.lay r (.sl rc.k))) := by
        clear hpl h7 d3 hnot hnot' hrow d1
        generalize (K.sl rc.k).get p rc.xs = x0
        generalize (K.sl rc.k).getL p (g.lay r (.sl rc.k)) = l0
        subst e; rfl
      refine ⟨_, st, ⟨k, _, _⟩, h7, hS, fun _ _ h => h, ⟨rfl, rfl, fun _ => .inl rfl⟩, rfl, rfl, ⟨fun hl => (by simp [Pat.lax] at hl), fun b hb => (by simp [roBoxes] at hb)⟩, .inl ⟨r, gen, hc, p, _, _, rfl, rfl, hpl, q2⟩, fun _ h => (by cases h), fun hn => ?_⟩
      obtain ⟨k1, k2, k3⟩ := hpl.facts hS
      refine ⟨k1, k2, fun b c hb => ⟨⟨r, by simp, (k3 b c hb).1⟩, (k3 b c hb).2⟩, [b0], fun b hb => ?_, fun hl => (by simp [Pat.lax] at hl), fun rest s u r' s' hi => ?_⟩
      · simp at hb
        subst hb
        exact ⟨hrow.2.lt, ⟨r, by simp, hrow.1⟩, hnot'⟩
      · simp only [ini, cat] at hi
        split at hi
        · cases hi
          refine ⟨rfl, rfl, iniO_idx _ _ _, rfl, by rw [cat_eq], [⟨s.nb, _, true, (b0, c1.length)⟩], (cat_eq _ _), fun i hi => ?_, by simp, by simp, fun g0 st0 _ hU hB hp hr _ => ?_⟩
          · simp at hi
            subst hi
            exact ⟨Nat.le_refl _, Nat.lt_succ_self _, fun h => (by cases h)⟩
          · obtain ⟨_, r2, r3, r4⟩ := reg_root k1 k2 (fun b c hb => (k3 b c hb).2) hp hr
            obtain ⟨b1, b2, _⟩ := hB _ (List.mem_singleton.2 rfl)
            refine ⟨?_, fun i hi => ?_, trivial⟩
            · show Rep st0 g0 w (.pb s.nb 0 []) [xv]
              rw [q4]
              refine ⟨⟨_, rfl⟩, by rw [b2]; exact Nat.zero_le _, fun v' _ _ => ⟨(av_nil _).2.2, ?_⟩⟩
              rw [(av_nil _).2.1, b1]; rfl
            · simp at hi
              subst hi
              intro v' hv'
              have e' : v' = _ := (Option.some.inj hv').symm
              subst e'
              refine ⟨r3, ?_⟩
              rw [if_pos rfl, b1]
              refine ⟨hU b0 (by simp), _, ?_, r2⟩
              rw [← hhdr]
              exact hrow.2.cells
        · cases hi
    · exact h7.elim
  | box own k =>
    replace h : (match v with
      | .pb b gen [] => Prog.rdB b fun bv => match bv.c with
        | some u => iff' (andB (Nat.beq gen bv.gen) (notB bv.ro)) (iff' own (ownRd k u fun x => c ⟨[⟨k, x⟩], roots u, [], [b], []⟩) (vwS k u fun x => c ⟨[⟨k, x⟩], [], [], [b], []⟩)) .fail
        | none => .fail
      | _ => .fail).run st Q := h
    split at h
    · rename_i b gen
      replace h : (match (st.b b).c with
        | some u => iff' (andB (Nat.beq gen (st.b b).gen) (notB (st.b b).ro)) (iff' own (ownRd k u fun x => c ⟨[⟨k, x⟩], roots u, [], [b], []⟩) (vwS k u fun x => c ⟨[⟨k, x⟩], [], [], [b], []⟩)) .fail
        | none => Prog.fail).run st Q := h
      split at h
      · rename_i u0 hu0
        obtain ⟨h1, h2⟩ := iff'_fail h
        obtain ⟨h3, h4⟩ := andB_true.1 h1
        have e3 := Nat.eq_of_beq_eq_true h3
        have h4 := notB_true.1 h4
        obtain ⟨b1, b2⟩ := hS.box b u0 hu0
        rw [if_neg (by rw [h4]; simp)] at b2
        obtain ⟨b3, b4, cs, b5, b6⟩ := b2
        obtain ⟨⟨A, eA⟩, _, kk⟩ := (show Rep st g w (.pb b gen []) [xv] from hv)
        obtain ⟨_, k2⟩ := kk u0 hu0 e3
        have exv : xv = .pointer (some ⟨(g.bx b).1, 0, none⟩) := by
          rw [(av_nil _).2.1, b3] at k2
          exact (List.cons.inj k2).1
        have hpb : ∀ (g0 : Gh) (st0 : St) (nb : Nat) (uc : AV), g0.bx nb = g.bx b → st0.b nb = ⟨0, some uc, false⟩ → RepV st0 g0 w (.pb nb 0 []) xv := by
          intro g0 st0 nb uc e1 e2
          show Rep st0 g0 w (.pb nb 0 []) [xv]
          rw [exv]
          refine ⟨⟨_, rfl⟩, by rw [e2]; exact Nat.zero_le _, fun v' _ _ => ⟨(av_nil _).2.2, ?_⟩⟩
          rw [(av_nil _).2.1, e1, b3]
        cases own with
        | true =>
          obtain ⟨x, l, h5, oa, eh, lk, ok⟩ := ownRd_run (k := k) h2 b6
          refine ⟨_, st, ⟨k, x, l⟩, h5, hS, fun _ _ h => h, ⟨rfl, rfl, fun _ => .inl rfl⟩, by simp only [ownRoots, hu0], rfl, ⟨fun _ => ⟨rfl, rfl⟩, fun b hb => (by simp [roBoxes] at hb)⟩, ⟨b, gen, u0, rfl, hu0, e3, h4, lk, fun _ => ⟨x, l, rfl, oa⟩, fun h => (by cases h)⟩, fun _ h => (by cases h), fun hn => ?_⟩
          obtain ⟨f1, f2, f3⟩ := oa.facts hS hn
          refine ⟨f1, f2, f3, [], fun b hb => (by simp at hb), fun _ => rfl, fun rest s u r' s' hi => ?_⟩
          simp only [ini, cat] at hi
          split at hi
          · simp only [iff'] at hi
            cases hi
            refine ⟨rfl, rfl, iniO_idx _ _ _, rfl, by rw [cat_eq], [⟨s.nb, _, false, g.bx b⟩], (cat_eq _ _), fun i hi => ?_, by simp, by simp, fun g0 st0 _ _ hB hp hr _ => ?_⟩
            · simp at hi
              subst hi
              exact ⟨Nat.le_refl _, Nat.lt_succ_self _, fun _ => ⟨b5.lt, b, by simp, b4⟩⟩
            · obtain ⟨_, r2, r3, r4⟩ := reg_root f1 f2 (fun b c hb => (f3 b c hb).2) hp hr
              obtain ⟨p1, p2, p3⟩ := hB _ (List.mem_singleton.2 rfl)
              refine ⟨hpb g0 st0 s.nb _ p1 p2, fun i hi => ?_, p1⟩
              simp at hi
              subst hi
              intro v' hv'
              have e' : v' = _ := (Option.some.inj hv').symm
              subst e'
              refine ⟨r3, ?_⟩
              rw [if_neg (by simp), p1]
              exact ⟨b3, p3 rfl, cs, b5, by rw [eh]; exact r2⟩
          · cases hi
        | false =>
          obtain ⟨x, h5, rv, hp, _, _, lk⟩ := vwS_run (k := k) h2 b6
          refine ⟨_, st, .none, h5, hS, fun _ _ h => h, ⟨rfl, rfl, fun _ => .inl rfl⟩, rfl, rfl, ⟨fun _ => ⟨rfl, rfl⟩, fun b hb => (by simp [roBoxes] at hb)⟩, ⟨b, gen, u0, rfl, hu0, e3, h4, lk, fun h => (by cases h), fun _ => rfl⟩, fun _ h => (by cases h), fun hn => ?_⟩
          refine ⟨trivial, by simp [RI.none, rows], fun b c hb => (by simp [RI.none, rows] at hb), [], fun b hb => (by simp at hb), fun _ => rfl, fun rest s u r' s' hi => ?_⟩
          simp only [ini, cat] at hi
          split at hi
          · simp only [iff'] at hi
            cases hi
            refine ⟨rfl, rfl, rfl, rfl, by simp [RI.none, iniO], [⟨s.nb, _, false, g.bx b⟩], (cat_eq _ _), fun i hi => ?_, by simp, by simp, fun g0 st0 hU _ hB _ _ _ => ?_⟩
            · simp at hi
              subst hi
              exact ⟨Nat.le_refl _, Nat.lt_succ_self _, fun _ => ⟨b5.lt, b, by simp, b4⟩⟩
            · obtain ⟨p1, p2, p3⟩ := hB _ (List.mem_singleton.2 rfl)
              refine ⟨hpb g0 st0 s.nb _ p1 p2, fun i hi => ?_, p1⟩
              simp at hi
              subst hi
              intro v' hv'
              have e' : v' = _ := (Option.some.inj hv').symm
              subst e'
              obtain ⟨o1, o2, o3⟩ := opnV_rep (st := st0) (g := g0) (RV.mono (fun b hb => ⟨hU b ⟨hb.1, .inl hb.2⟩, rfl⟩) rv)
              refine ⟨o3, ?_⟩
              rw [if_neg (by simp), p1]
              exact ⟨b3, p3 rfl, cs, b5, o1⟩
          · cases hi
      · exact h.elim
    · exact h.elim
  | bp k =>
    replace h : (match v with
      | .pb b gen [] => Prog.rdB b fun bv => match bv.c with
        | some (.pb b2 gen2 []) => iff' (Nat.beq gen bv.gen) (Prog.rdB b2 fun bv2 => match bv2.c with
          | some u => iff' (andB (Nat.beq gen2 bv2.gen) (notB bv2.ro)) (ownRd k u fun x => c ⟨[⟨k, x⟩], roots u, [], [b2], [b]⟩) .fail
          | none => Prog.fail) Prog.fail
        | _ => Prog.fail
      | _ => Prog.fail).run st Q := h
    split at h
    · rename_i b gen
      replace h : (match (st.b b).c with
        | some (.pb b2 gen2 []) => iff' (Nat.beq gen (st.b b).gen) (Prog.rdB b2 fun bv2 => match bv2.c with
          | some u => iff' (andB (Nat.beq gen2 bv2.gen) (notB bv2.ro)) (ownRd k u fun x => c ⟨[⟨k, x⟩], roots u, [], [b2], [b]⟩) .fail
          | none => Prog.fail) Prog.fail
        | _ => Prog.fail).run st Q := h
      split at h
      · rename_i b2 gen2 hu1
        obtain ⟨h1, h2⟩ := iff'_fail h
        have e1 := Nat.eq_of_beq_eq_true h1
        replace h2 : (match (st.b b2).c with
          | some u => iff' (andB (Nat.beq gen2 (st.b b2).gen) (notB (st.b b2).ro)) (ownRd k u fun x => c ⟨[⟨k, x⟩], roots u, [], [b2], [b]⟩) .fail
          | none => Prog.fail).run st Q := h2
        split at h2
        · rename_i u0 hu0
          obtain ⟨h3, h4⟩ := iff'_fail h2
          obtain ⟨h5, h6⟩ := andB_true.1 h3
          have e5 := Nat.eq_of_beq_eq_true h5
          have h6 := notB_true.1 h6
          obtain ⟨a1, a2⟩ := hS.box b _ hu1
          obtain ⟨cs1, hcs1, hrep1, hblk1⟩ : ∃ cs, Cells w (g.bx b).1 (g.bx b).2 cs ∧ Rep st g w (.pb b2 gen2 []) cs ∧ Seen g w [] [b] (g.bx b).1 := by
            by_cases hro : (st.b b).ro = true
            · rw [if_pos hro] at a2
              obtain ⟨k1, cs, k2, k3⟩ := a2
              exact ⟨cs, k2, k3, k1.1, .inl k1.2⟩
            · rw [if_neg hro] at a2
              obtain ⟨k0, k1, cs, k2, k3⟩ := a2
              refine ⟨cs, ?_, k3, k2.lt, .inr (.inr ⟨b, by simp, k1⟩)⟩
              rw [k0]
              have : Blk w (g.bx b).1 ([] ++ cs ++ []) := by simpa using k2
              exact this.cells
          obtain ⟨_, b2'⟩ := hS.box b2 u0 hu0
          rw [if_neg (by rw [h6]; simp)] at b2'
          obtain ⟨b3, b4, cs, b5, b6⟩ := b2'
          obtain ⟨A1, _, kk1⟩ := (show Rep st g w (.pb b2 gen2 []) cs1 from hrep1)
          obtain ⟨_, q1⟩ := kk1 u0 hu0 e5
          rw [(av_nil _).2.1] at q1
          obtain ⟨A0, _, kk0⟩ := (show Rep st g w (.pb b gen []) [xv] from hv)
          obtain ⟨_, q0⟩ := kk0 _ hu1 e1
          rw [(av_nil _).2.1] at q0
          obtain ⟨x, l, h7, oa, eh, lk, ok⟩ := ownRd_run (k := k) h4 b6
          refine ⟨_, st, ⟨k, x, l⟩, h7, hS, fun _ _ h => h, ⟨rfl, rfl, fun _ => .inl rfl⟩, by simp only [ownRoots, hu1, hu0], by simp only [ownBoxes, hu1], ⟨fun hl => (by simp [Pat.lax] at hl), fun b' hb => hb⟩, ⟨b, gen, b2, gen2, u0, x, l, rfl, hu1, hu0, h6, lk, rfl, oa⟩, fun _ h => (by cases h), fun hn => ?_⟩
          obtain ⟨f1, f2, f3⟩ := oa.facts hS hn
          refine ⟨f1, f2, f3, [], fun b hb => (by simp at hb), fun _ => rfl, fun rest s u r' s' hi => ?_⟩
          simp only [ini, cat] at hi
          split at hi
          · cases hi
            refine ⟨rfl, rfl, iniO_idx _ _ _, rfl, by rw [cat_eq], [⟨s.nb, .pb (s.nb + 1) 0 [], true, g.bx b⟩, ⟨s.nb + 1, (iniO k x s.nr).1, false, g.bx b2⟩], (cat_eq _ _), fun i hi => ?_, by simp, by simp, fun g0 st0 hU _ hB hp hr _ => ?_⟩
            · simp at hi
              rcases hi with hi | hi
              · subst hi
                exact ⟨Nat.le_refl _, by show s.nb < s.nb + 2; omega, fun h => (by cases h)⟩
              · subst hi
                exact ⟨by show s.nb ≤ s.nb + 1; omega, by show s.nb + 1 < s.nb + 2; omega, fun _ => ⟨b5.lt, b2, by simp, b4⟩⟩
            · obtain ⟨_, r2, r3, r4⟩ := reg_root f1 f2 (fun b c hb => (f3 b c hb).2) hp hr
              obtain ⟨p1, p2, _⟩ := hB ⟨s.nb, .pb (s.nb + 1) 0 [], true, g.bx b⟩ (by simp)
              obtain ⟨p3, p4, p5⟩ := hB ⟨s.nb + 1, (iniO k x s.nr).1, false, g.bx b2⟩ (by simp)
              refine ⟨?_, fun i hi => ?_, fun b2' gen2' he => ?_⟩
              · refine ⟨A0, by rw [p2]; exact Nat.zero_le _, fun v' hv' _ => ⟨(av_nil _).2.2, ?_⟩⟩
                rw [(av_nil _).2.1, p1]; exact q0
              · simp at hi
                rcases hi with hi | hi
                · subst hi
                  intro v' hv'
                  have e' : v' = _ := (Option.some.inj hv').symm
                  subst e'
                  refine ⟨rfl, ?_⟩
                  rw [if_pos rfl, p1]
                  refine ⟨hU _ (hblk1.mono (fun r hr => (by simp at hr)) (fun r hr => hr)), cs1, hcs1, A1, by rw [p4]; exact Nat.zero_le _, fun v' hv' _ => ⟨(av_nil _).2.2, ?_⟩⟩
                  rw [(av_nil _).2.1, p3]; exact q1
                · subst hi
                  intro v' hv'
                  have e' : v' = _ := (Option.some.inj hv').symm
                  subst e'
                  refine ⟨r3, ?_⟩
                  rw [if_neg (by simp), p3]
                  exact ⟨b3, p5 rfl, cs, b5, by rw [eh]; exact r2⟩
              · rw [hu1] at he
                cases he
                exact p3
          · cases hi
        · exact h2.elim
      · exact h.elim
    · exact h.elim
end
end Go.Am
