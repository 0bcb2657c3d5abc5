/-
  Parts of the proof: Sx4. Conditions: none.
-/
import Derived.Test.YtagjblkfgjcmnaaM3
set_option linter.unusedVariables false
set_option linter.unusedSimpArgs false
set_option linter.unusedSectionVars false
namespace Go.Sx
open Go.RowKit
section
variable {P : Program} {C : Cx} {st : St} {ρ : Env} {a : Act} {w : World}

theorem Keeps.trans {M : Nat → Prop} {x y z : World} (h : Keeps M x y) (k : Below y.heap.size y z) : Keeps M x z :=
  ⟨k.os.trans h.os, k.tape.trans h.tape, k.output.trans h.output, Nat.le_trans h.size k.size, fun i hi hm => (k.block i (Nat.lt_of_lt_of_le hi h.size)).trans (h.block i hi hm)⟩

theorem lt_of_heap {w : World} {k : Nat} {o : Obj} (h : w.heap[k]? = some o) : k < w.heap.size := (Array.getElem?_eq_some_iff.1 h).1

theorem Blk.holds_of_same {b : Blk} {n : Nat} {w w' : World} (h : b.holds C ρ n w) (hs : ∀ k, k ∈ b.foot ρ n → w'.heap[k]? = w.heap[k]?)
    (hi : ∀ k, k < C.w0.heap.size → ¬ C.M k → w'.heap[k]? = w.heap[k]?) (hz : w.heap.size ≤ w'.heap.size) : b.holds C ρ n w' := by
  cases b with
  | cells ty cs => obtain ⟨h0, h1, h2⟩ := h; exact ⟨h0, by rw [hs _ (by simp [Blk.foot])]; exact h1, h2⟩
  | rows ty e m c r => obtain ⟨h0, h1, ⟨arr, h3, h4⟩, h2⟩ := h; exact ⟨h0, h1, ⟨arr, h3.same (hs _ (by simp [Blk.foot])), h4⟩, h2⟩
  | obj o => obtain ⟨h0, h1, h2⟩ := h; exact ⟨h0, by rw [hs _ (by simp [Blk.foot])]; exact h1, h2⟩
  | pred fp R => obtain ⟨h0, h1, h2, h3⟩ := h; exact ⟨h1 _ _ h0 fun k hk => hs k hk, h1, h2, fun k hk => ⟨Nat.lt_of_lt_of_le (h3 k hk).1 hz, (h3 k hk).2⟩⟩
  | imm e m r =>
    obtain ⟨h0, h1, h2⟩ := h
    refine ⟨h0, fun i him => ⟨(h1 i him).1, fun k hk => ?_⟩, h2⟩
    have h3 := h2 (Nat.lt_of_le_of_lt (Nat.zero_le i) him)
    rw [World.cell?_of_block (w := w) (hi _ h3.1 h3.2)]
    exact (h1 i him).2 k hk

theorem Blk.foot_lt {b : Blk} {n : Nat} {w : World} (h : b.holds C ρ n w) : ∀ k, k ∈ b.foot ρ n → k < w.heap.size ∧ C.own k := by
  intro k hk
  cases b with
  | cells ty cs => simp [Blk.foot] at hk; subst hk; exact ⟨lt_of_heap h.2.1, h.2.2.1⟩
  | rows ty e m c r => simp [Blk.foot] at hk; subst hk; obtain ⟨h0, h1, ⟨arr, h3, h4⟩, h2⟩ := h; exact ⟨h3.lt, h2⟩
  | obj o => simp [Blk.foot] at hk; subst hk; exact ⟨lt_of_heap h.2.1, h.2.2⟩
  | pred fp R => exact h.2.2.2 k hk
  | imm e m r => simp [Blk.foot] at hk

theorem foot_mem {hp : List (Nat × Blk)} {n : Nat} {b : Blk} (h : (n, b) ∈ hp) {k : Nat} (hk : k ∈ b.foot ρ n) : k ∈ footL ρ hp := by
  induction hp with
  | nil => cases h
  | cons x r ih =>
    obtain ⟨m, c⟩ := x
    simp only [footL, List.mem_append]
    rcases List.mem_cons.1 h with h | h
    · injection h with h1 h2; subst h1; subst h2; exact .inl hk
    · exact .inr (ih h)

theorem footL_out {hp : List (Nat × Blk)} {k : Nat} (hk : k ∈ footL ρ hp) : ∃ n b, (n, b) ∈ hp ∧ k ∈ b.foot ρ n := by
  induction hp with
  | nil => simp [footL] at hk
  | cons x r ih =>
    obtain ⟨m, c⟩ := x
    simp only [footL, List.mem_append] at hk
    rcases hk with hk | hk
    · exact ⟨m, c, by simp, hk⟩
    · obtain ⟨n, b, hm, hb⟩ := ih hk; exact ⟨n, b, by simp [hm], hb⟩

theorem Sat0.foot_lt (h : Sat0 C st ρ a w) {k : Nat} (hk : k ∈ footL ρ st.hp) : k < w.heap.size ∧ C.own k := by
  obtain ⟨n, b, hm, hb⟩ := footL_out hk
  exact Blk.foot_lt (h.hp n b hm) k hb
theorem Sat.below (h : Sat C st ρ a w) {w' : World} (hb : Below w.heap.size w w') : Sat C st ρ a w' := fun ρ' hρ => by
  have h0 := h ρ' hρ
  refine ⟨h0.fr, h0.defers, h0.size, h0.keeps.trans hb, fun n b hm => ?_, h0.nodup, h0.names, h0.once, h0.n0le⟩
  exact Blk.holds_of_same (h0.hp n b hm) (fun k hk => hb.block k (Blk.foot_lt (h0.hp n b hm) k hk).1) (fun k hk hM => hb.block k (Nat.lt_of_lt_of_le hk h0.keeps.size)) hb.size

theorem Sat.drew (h : Sat C st ρ a w) : Sat C st ρ a { w with drawn := w.drawn + 1 } := h.below ((Below.refl _ _).drew)

def envSet (ρ : Env) (n : Nat) (m : Nm) : Env := fun k => if k = n then m else ρ k
theorem Sat.add (h : Sat C st ρ a w) (e : Blk) (nm : Nm) (fs : List Nat) (he : ∀ ρ' : Env, (∀ n, n < st.nx → ρ' n = ρ n) → ρ' st.nx = nm → e.holds C ρ' st.nx w)
    (hf : ∀ ρ' : Env, ρ' st.nx = nm → e.foot ρ' st.nx = fs) (hd : ∀ k ∈ fs, k ∉ footL ρ st.hp) (hn : fs.Nodup) :
    Sat C ⟨st.fr, (st.nx, e) :: st.hp, st.nx + 1⟩ (envSet ρ st.nx nm) a w := fun ρ' hρ => by
  have h1 : ∀ n, n < st.nx → ρ' n = ρ n := fun n hn => by rw [hρ n (by simp; omega)]; simp [envSet, Nat.ne_of_lt hn]
  have h2 : ρ' st.nx = nm := by rw [hρ st.nx (by simp)]; simp [envSet]
  have h0 := h ρ' h1
  have hfe : footL ρ' st.hp = footL ρ st.hp := by
    have : ∀ hp : List (Nat × Blk), (∀ n b, (n, b) ∈ hp → n < st.nx) → footL ρ' hp = footL ρ hp := fun hp => by
      induction hp with
      | nil => intro _; rfl
      | cons x r ih =>
        obtain ⟨m, c⟩ := x
        intro hm
        simp only [footL]
        rw [ih (fun n b hb => hm n b (by simp [hb]))]
        have := h1 m (hm m c (by simp))
        cases c <;> simp [Blk.foot, this]
    exact this _ h0.names
  refine ⟨h0.fr, h0.defers, h0.size, h0.keeps, fun n b hm => ?_, ?_, fun n b hm => ?_, ?_, Nat.le_succ_of_le h0.n0le⟩
  · rcases List.mem_cons.1 hm with hm | hm
    · injection hm with h3 h4; subst h3; subst h4; exact he ρ' h1 h2
    · exact h0.hp n b hm
  · simp only [footL]
    rw [hf ρ' h2, hfe]
    rw [List.nodup_append]
    exact ⟨hn, by rw [← hfe]; exact h0.nodup, fun x hx y hy hxy => hd x hx (hxy ▸ hy)⟩
  · rcases List.mem_cons.1 hm with hm | hm
    · injection hm with h3 h4; subst h3; simp
    · have := h0.names n b hm; simp; omega
  · simp only [List.map_cons, List.nodup_cons]
    refine ⟨fun hm => ?_, h0.once⟩
    obtain ⟨⟨n, b⟩, hm, he⟩ := List.mem_map.1 hm
    exact absurd (h0.names n b hm) (by simp at he; omega)

theorem heap_push_new (w : World) (o : Obj) : (w.alloc o).heap[w.heap.size]? = some o := by
  show (w.heap.push o)[w.heap.size]? = some o
  simp
theorem Sat.alloc (h : Sat C st ρ a w) {t : TypeId} {cs : List CV} {cells : Array Value} {d : Tmp} (hd : d < C.N) (hc : ∀ ρ' : Env, (∀ n, n < st.nx → ρ' n = ρ n) → cells = (cs.map (CV.den ρ')).toArray) :
    Sat C ⟨(d, .c (.p st.nx 0 0)) :: st.fr, (st.nx, .cells t cs) :: st.hp, st.nx + 1⟩ (envSet ρ st.nx ⟨w.heap.size, 0, 1⟩) (a.put (some d) (.pointer (some ⟨w.heap.size, 0, none⟩))) (w.alloc (.cells cells t)) := by
  have hb : Below w.heap.size w (w.alloc (.cells cells t)) := (Below.refl _ _).alloc (Nat.le_refl _) _
  have h1 := (h.below hb).add (.cells t cs) ⟨w.heap.size, 0, 1⟩ [w.heap.size] (fun ρ' hρ hn => by
      refine ⟨by rw [hn], by rw [hn, heap_push_new, ← hc ρ' hρ], by rw [hn]; exact .inl h.now.keeps.size, by rw [hn]⟩)
    (fun ρ' hn => by simp [Blk.foot, hn]) (fun k hk hm => by
      simp at hk; subst hk; exact absurd (h.now.foot_lt hm).1 (Nat.lt_irrefl _)) (by simp)
  refine Sat.put (st := ⟨st.fr, _, _⟩) (d := some d) h1 hd fun _ ρ' hρ => ?_
  have := hρ st.nx (by simp)
  simp [SV.den, CV.den, this, envSet]
theorem Sat.allocArr (h : Sat C st ρ a w) {t : TypeId} {e m : Nat} {r : Nat → List CV} {cells : Array Value} {d : Tmp} (hd : d < C.N) (hcz : m * e ≤ cells.size)
    (hc : ∀ ρ' : Env, (∀ n, n < st.nx → ρ' n = ρ n) → ∀ i, i < m → (r i).length = e ∧ ∀ k, k < e → cells[i * e + k]? = ((r i)[k]?).map (CV.den ρ')) :
    Sat C ⟨(d, .c (.p st.nx 0 0)) :: st.fr, (st.nx, .rows t e m m r) :: st.hp, st.nx + 1⟩ (envSet ρ st.nx ⟨w.heap.size, 0, e⟩) (a.put (some d) (.pointer (some ⟨w.heap.size, 0, none⟩))) (w.alloc (.cells cells t)) := by
  have hb : Below w.heap.size w (w.alloc (.cells cells t)) := (Below.refl _ _).alloc (Nat.le_refl _) _
  have h1 := (h.below hb).add (.rows t e m m r) ⟨w.heap.size, 0, e⟩ [w.heap.size] (fun ρ' hρ hn => by
      refine ⟨by rw [hn], by rw [hn], ⟨cells, by rw [hn]; exact .of (heap_push_new _ _), hcz, hc ρ' hρ⟩, by rw [hn]; exact .inl h.now.keeps.size⟩)
    (fun ρ' hn => by simp [Blk.foot, hn]) (fun k hk hm => by
      simp at hk; subst hk; exact absurd (h.now.foot_lt hm).1 (Nat.lt_irrefl _)) (by simp)
  refine Sat.put (st := ⟨st.fr, _, _⟩) (d := some d) h1 hd fun _ ρ' hρ => ?_
  have := hρ st.nx (by simp)
  simp [SV.den, CV.den, this, envSet]
theorem Sat.allocRows (h : Sat C st ρ a w) {t : TypeId} {e m c cap : Nat} {r : Nat → List CV} {cells : Array Value} {d : Tmp} (hd : d < C.N) (hcz : c * e ≤ cells.size)
    (hc : ∀ ρ' : Env, (∀ n, n < st.nx → ρ' n = ρ n) → ∀ i, i < m → (r i).length = e ∧ ∀ k, k < e → cells[i * e + k]? = ((r i)[k]?).map (CV.den ρ')) {l : Nat} :
    Sat C ⟨(d, .c (.s st.nx 0 l cap)) :: st.fr, (st.nx, .rows t e m c r) :: st.hp, st.nx + 1⟩ (envSet ρ st.nx ⟨w.heap.size, 0, e⟩) (a.put (some d) (.slice (some ⟨w.heap.size, 0, none⟩) l cap)) (w.alloc (.cells cells t)) := by
  have hb : Below w.heap.size w (w.alloc (.cells cells t)) := (Below.refl _ _).alloc (Nat.le_refl _) _
  have h1 := (h.below hb).add (.rows t e m c r) ⟨w.heap.size, 0, e⟩ [w.heap.size] (fun ρ' hρ hn => by
      refine ⟨by rw [hn], by rw [hn], ⟨cells, by rw [hn]; exact .of (heap_push_new _ _), hcz, hc ρ' hρ⟩, by rw [hn]; exact .inl h.now.keeps.size⟩)
    (fun ρ' hn => by simp [Blk.foot, hn]) (fun k hk hm => by
      simp at hk; subst hk; exact absurd (h.now.foot_lt hm).1 (Nat.lt_irrefl _)) (by simp)
  refine Sat.put (st := ⟨st.fr, _, _⟩) (d := some d) h1 hd fun _ ρ' hρ => ?_
  have := hρ st.nx (by simp)
  simp [SV.den, CV.den, this, envSet]

theorem hset_mem {hp : List (Nat × Blk)} {b : Nat} {old new : Blk} (hg : hget hp b = some old) (hnd : (hp.map (·.1)).Nodup) {n : Nat} {x : Blk} (h : (n, x) ∈ hset hp b new) : (n = b ∧ x = new) ∨ (n ≠ b ∧ (n, x) ∈ hp) := by
  induction hp with
  | nil => simp [hset] at h
  | cons y r ih =>
    obtain ⟨m, c⟩ := y
    simp only [hset] at h
    simp only [hget] at hg
    simp only [List.map_cons, List.nodup_cons] at hnd
    cases hb : Nat.beq m b with
    | true =>
      have hmb := Nat.eq_of_beq_eq_true hb
      subst hmb
      simp only [hb, cond_true] at h
      rcases List.mem_cons.1 h with h' | h'
      · injection h' with h1 h2; exact .inl ⟨h1, h2⟩
      · exact .inr ⟨fun e => hnd.1 (List.mem_map.2 ⟨(n, x), h', e⟩), List.mem_cons_of_mem _ h'⟩
    | false =>
      simp only [hb, cond_false] at h hg
      rcases List.mem_cons.1 h with h | h
      · injection h with h1 h2; subst h1; subst h2
        refine .inr ⟨fun e => ?_, by simp⟩
        subst e; simp at hb
      · rcases ih hg hnd.2 h with h | h
        · exact .inl h
        · exact .inr ⟨h.1, by simp [h.2]⟩


theorem hset_names : ∀ (hp : List (Nat × Blk)) (b : Nat) (new : Blk), (hset hp b new).map (·.1) = hp.map (·.1)
  | [], _, _ => rfl
  | (m, c) :: r, b, new => by
    simp only [hset]
    cases Nat.beq m b <;> simp [hset_names r b new]

theorem hset_foot {ρ : Env} : ∀ (hp : List (Nat × Blk)) (b : Nat) (old new : Blk), hget hp b = some old → old.foot ρ b = new.foot ρ b → footL ρ (hset hp b new) = footL ρ hp
  | [], _, _, _, h, _ => by simp [hget] at h
  | (m, c) :: r, b, old, new, h, hf => by
    simp only [hset, hget] at h ⊢
    cases hb : Nat.beq m b with
    | true =>
      have := Nat.eq_of_beq_eq_true hb; subst this
      simp only [hb, cond_true, Option.some.injEq] at h ⊢
      subst h; simp [footL, hf]
    | false =>
      simp only [hb, cond_false] at h ⊢
      simp only [footL, hset_foot r b old new h hf]

theorem foot_disj {hp : List (Nat × Blk)} (hnd : (footL ρ hp).Nodup) {n m : Nat} {x y : Blk} (hx : (n, x) ∈ hp) (hy : (m, y) ∈ hp) (hne : n ≠ m) {k : Nat} (h1 : k ∈ x.foot ρ n) (h2 : k ∈ y.foot ρ m) : False := by
  induction hp with
  | nil => cases hx
  | cons z r ih =>
    obtain ⟨q, c⟩ := z
    simp only [footL, List.nodup_append] at hnd
    rcases List.mem_cons.1 hx with hx' | hx' <;> rcases List.mem_cons.1 hy with hy' | hy'
    · injection hx' with e1 e2; injection hy' with e3 e4; exact hne (e1.trans e3.symm)
    · injection hx' with e1 e2; subst e1; subst e2; exact hnd.2.2 _ h1 _ (foot_mem hy' h2) rfl
    · injection hy' with e1 e2; subst e1; subst e2; exact hnd.2.2 _ h2 _ (foot_mem hx' h1) rfl
    · exact ih hnd.2.1 hx' hy'
theorem Sat.set (h : Sat C st ρ a w) {b : Nat} {old new : Blk} (hg : hget st.hp b = some old) {w' : World} (hw : Keeps C.M C.w0 w') (hz : w.heap.size ≤ w'.heap.size) (hsame : ∀ ρ' : Env, (∀ n, n < st.nx → ρ' n = ρ n) → ∀ k, k ∉ old.foot ρ' b → w'.heap[k]? = w.heap[k]?)
    (hnew : ∀ ρ' : Env, (∀ n, n < st.nx → ρ' n = ρ n) → old.foot ρ' b = new.foot ρ' b ∧ new.holds C ρ' b w') :
    Sat C ⟨st.fr, hset st.hp b new, st.nx⟩ ρ a w' := fun ρ' hρ => by
  have h0 := h ρ' hρ
  refine ⟨h0.fr, h0.defers, h0.size, hw, fun n x hm => ?_, ?_, fun n x hm => ?_, by rw [hset_names]; exact h0.once, h0.n0le⟩
  · rcases hset_mem hg h0.once hm with ⟨rfl, rfl⟩ | ⟨hne, hm⟩
    · exact (hnew ρ' hρ).2
    · refine Blk.holds_of_same (h0.hp n x hm) (fun k hk => hsame ρ' hρ k fun hk' => foot_disj h0.nodup hm (mem_hget hg) hne hk hk') (fun k hk hM => hsame ρ' hρ k fun hk' => ?_) hz
      have := (Blk.foot_lt (h0.hp b old (mem_hget hg)) k hk').2
      rcases this with h1 | h1
      · omega
      · exact hM h1
  · rw [hset_foot _ _ _ _ hg (hnew ρ' hρ).1]; exact h0.nodup
  · rcases hset_mem hg h0.once hm with ⟨rfl, rfl⟩ | ⟨hne, hm⟩
    · exact h0.names _ _ (mem_hget hg)
    · exact h0.names _ _ hm

theorem one1_den {x : CV} (h : one1 x = true) (ρ : Env) : (x.den ρ).oneCell' = true := by
  cases x with
  | v z => cases z <;> simp_all [one1, CV.den, Value.oneCell']
  | _ => simp [CV.den, Value.oneCell']

theorem Keeps.setRow {M : Nat → Prop} {w0 w : World} (h : Keeps M w0 w) (g : Nat) (cs : Array Value) (hg : w0.heap.size ≤ g ∨ M g) : Keeps M w0 (w.setRow g cs) :=
  ⟨h.os, h.tape, h.output, by simpa using h.size, fun k hk hM => by
    rw [setRow_other _ _ _ _ (fun e => by subst e; rcases hg with h1 | h1; omega; exact hM h1)]; exact h.block k hk hM⟩

theorem HeapAt.setRow {w : World} {b : Nat} {arr cs : Array Value} {ty : TypeId} {e : Nat} (h : HeapAt w b arr ty e) (hs : cs.size = arr.size) : HeapAt (w.setRow b cs) b cs ty e := by
  obtain ⟨fz, h1, h2⟩ := h
  exact ⟨fz, setRow_heap _ _ _ _ _ _ h1, by rw [hs]; exact h2⟩
theorem storeCells_fz (g o : Nat) (t : TypeId) (fz : Nat × Nat) : ∀ (vs : List Value) (i : Nat) (cur : Array Value) (w : World), w.heap[g]? = some (.cells cur t fz) → (fz = (0, 0) ∨ cur.size ≤ fz.1) → o + i + vs.length ≤ cur.size → (∀ v ∈ vs, v.oneCell' = true) →
    (storeCells ⟨g, o, none⟩ vs i).run P w = .ok () (w.setRow g (cur.toList.take (o + i) ++ vs ++ cur.toList.drop (o + i + vs.length)).toArray)
  | [], i, cur, w, hg, _, _, _ => by
    simp only [storeCells, List.append_nil, List.length_nil, Nat.add_zero, List.take_append_drop, Array.toArray_toList]
    rw [setRow_self w g cur t fz hg]
    rfl
  | v :: rest, i, cur, w, hg, hfz, hl, h1 => by
    have hi : o + i < cur.size := by simp at hl; omega
    have hcell : w.cell? ⟨g, o + i, none⟩ = some cur[o + i] := by simp [World.cell?, hg, hi]
    have hfro : w.frozen? ⟨g, o + i, none⟩ = false := by
      obtain ⟨lo, hi'⟩ := fz
      rcases hfz with hfz | hfz
      · injection hfz with e1 e2; subst e1; subst e2; simp [World.frozen?, hg]
      · simp only [World.frozen?, hg, Bool.and_eq_false_iff, decide_eq_false_iff_not]
        left
        simp only at hfz
        omega
    have hst : (store ((⟨g, o, none⟩ : Addr).add i) v).run P w = .ok () (w.setRow g (cur.setIfInBounds (o + i) v)) := by
      rw [addr_add _ _ rfl, run_store P w _ v _ (h1 v (by simp)), hcell]
      simp [hfro, setCell_eq_setRow w g (o + i) cur t fz v hg]
    have ih := storeCells_fz g o t fz rest (i + 1) (cur.setIfInBounds (o + i) v) (w.setRow g (cur.setIfInBounds (o + i) v)) (setRow_heap w g cur _ t _ hg) (by simpa using hfz) (by simp at hl ⊢; omega) (fun x hx => h1 x (by simp [hx]))
    simp only [storeCells, Sem.run_bind, hst, Result.andThen_ok, ih, setRow_setRow]
    congr 3
    have e := list_seg_step cur.toList (o + i) v rest (by simp at hl ⊢; omega)
    simpa [Nat.add_assoc, Nat.add_comm, Nat.add_left_comm] using e
theorem HeapAt.store {w : World} {g o : Nat} {cur : Array Value} {t : TypeId} {e : Nat} (h : HeapAt w g cur t e) (vs : List Value) (hl : o + vs.length ≤ cur.size) (h1 : ∀ v ∈ vs, v.oneCell' = true) :
    (storeCells ⟨g, o, none⟩ vs).run P w = .ok () (w.setRow g (cur.toList.take o ++ vs ++ cur.toList.drop (o + vs.length)).toArray) := by
  obtain ⟨fz, h2, h3⟩ := h
  have := storeCells_fz (P := P) g o t fz vs 0 cur w h2 (h3.imp id (·.1)) (by omega) h1
  simpa using this
theorem store_of (h : Sat C st ρ a w) {t : TypeId} {n : Nat} (hn : tsz P t = some n) {cs : List CV} (hl : cs.length = n) (h1 : cs.all one1 = true) {b i f : Nat} {G : Blk → Prop} (hw : wrB (hget st.hp b) i f cs G)
    {v : Value} (hv : ∀ ρ' : Env, (∀ n, n < st.nx → ρ' n = ρ n) → v.cells.toList = cs.map (CV.den ρ')) :
    ∃ bl w', G bl ∧ Sat C ⟨st.fr, hset st.hp b bl, st.nx⟩ ρ a w' ∧ (storeVar t ⟨(ρ b).blk, (ρ b).base + i * (ρ b).esz + f, none⟩ v).run P w = .ok () w' := by
  have hv0 := hv ρ fun _ _ => rfl
  have hone : ∀ u ∈ v.cells.toList, u.oneCell' = true := fun u hu => by
    rw [hv0] at hu
    simp only [List.mem_map] at hu
    obtain ⟨x, hx, rfl⟩ := hu
    exact one1_den (List.all_eq_true.1 h1 x hx) ρ
  have hvl : v.cells.toList.length = n := by rw [hv0]; simpa using hl
  have hsz : v.cells.size = n := by simpa using hvl
  unfold wrB at hw
  split at hw
  · rename_i ty old hg
    obtain ⟨rfl, hw⟩ := hw
    obtain ⟨cs', hs, hG⟩ := wO_out hw
    obtain ⟨e1, e2, e3⟩ := spl_eq _ _ _ _ hs
    have hbn := h.now.names _ _ (mem_hget hg)
    obtain ⟨g0, g1, g2⟩ := h.now.hp _ _ (mem_hget hg)
    have key : ∀ ρ' : Env, (∀ n, n < st.nx → ρ' n = ρ n) → (old.map (CV.den ρ)).take f ++ v.cells.toList ++ (old.map (CV.den ρ)).drop (f + cs.length) = cs'.map (CV.den ρ') := fun ρ' hρ => by
      obtain ⟨_, k1, _⟩ := (h ρ' hρ).hp _ _ (mem_hget hg)
      rw [hρ b hbn, g1] at k1
      simp at k1
      rw [List.map_congr_left k1, e3, hv ρ' hρ]; simp [List.map_take, List.map_drop]
    have hrun := run_storeCells_at (P := P) (ρ b).blk f ty v.cells.toList 0 _ w g1 (by rw [hvl]; simp; omega) hone
    rw [Nat.add_zero, hvl, ← hl, List.toList_toArray, key ρ fun _ _ => rfl] at hrun
    refine ⟨_, w.setRow (ρ b).blk ((cs'.map (CV.den ρ)).toArray), hG, h.set hg (h.now.keeps.setRow _ _ g2.1) (by simp) (fun ρ' hρ k hk => setRow_other _ _ _ _ (fun e => hk ?_)) (fun ρ' hρ => ⟨rfl, ?_⟩), ?_⟩
    · simp [Blk.foot, hρ b hbn, e]
    · refine ⟨by rw [hρ b hbn]; exact g0, ?_, by rw [hρ b hbn]; exact g2⟩
      rw [hρ b hbn, setRow_heap _ _ _ _ _ _ g1, ← key ρ fun _ _ => rfl, key ρ' hρ]
    · unfold storeVar
      simp [sizeOf_of hn, hsz, g0]
      exact hrun
  · rename_i ty e m c r hg
    obtain ⟨him, hw⟩ := hw
    obtain ⟨l', hs, hG⟩ := wO_out hw
    obtain ⟨e1, e2, e3⟩ := spl_eq _ _ _ _ hs
    have hbn := h.now.names _ _ (mem_hget hg)
    obtain ⟨g0, ge, ⟨arr, g1, gc, g3⟩, g2⟩ := h.now.hp _ _ (mem_hget hg)
    have hre : (r i).length = e := (g3 i him).1
    have hsize : (i + 1) * e ≤ arr.size := by
      rcases Nat.eq_zero_or_pos e with he | he
      · subst he; simp
      · have h4 := (g3 i him).2 (e - 1) (by omega)
        have h5 : ((r i)[e - 1]?).isSome := by simp [hre]; omega
        have h6 : (arr[i * e + (e - 1)]?).isSome := by rw [h4]; simpa using h5
        simp at h6
        have : (i + 1) * e = i * e + e := by rw [Nat.add_mul]; omega
        omega
    have hie : (i + 1) * e = i * e + e := by rw [Nat.add_mul]; omega
    have hrun := g1.store (P := P) (o := i * e + f) v.cells.toList (by rw [hvl]; omega) hone
    rw [hvl, ← hl] at hrun
    refine ⟨_, w.setRow (ρ b).blk (arr.toList.take (i * e + f) ++ v.cells.toList ++ arr.toList.drop (i * e + f + cs.length)).toArray, hG, h.set hg (h.now.keeps.setRow _ _ g2) (by simp) (fun ρ' hρ k hk => setRow_other _ _ _ _ (fun e => hk ?_)) (fun ρ' hρ => ⟨rfl, ?_⟩), ?_⟩
    · simp [Blk.foot, hρ b hbn, e]
    · obtain ⟨k0, ke, ⟨arr', k1, _, k3⟩, k2⟩ := (h ρ' hρ).hp _ _ (mem_hget hg)
      rw [hρ b hbn] at k1
      have k1 := g1.inj k1
      subst k1
      refine ⟨k0, ke, ⟨_, by rw [hρ b hbn]; exact g1.setRow (by simp; omega), by simp; omega, fun j hj => ?_⟩, k2⟩
      have hvl2 : v.cells.toList.length = cs.length := by rw [hvl, hl]
      have htk : (arr.toList.take (i * e + f)).length = i * e + f := by simp; omega
      unfold rupd
      by_cases hji : j = i
      · subst hji
        refine ⟨by simp [e1, hre], fun k hk => ?_⟩
        simp only [if_true, e3, List.getElem?_toArray]
        by_cases h7 : k < f
        · rw [List.append_assoc, List.getElem?_append_left (by rw [htk]; omega), List.getElem?_take_of_lt (by omega), Array.getElem?_toList, (k3 j hj).2 k hk]
          rw [List.append_assoc, List.getElem?_append_left (by simp; omega), List.getElem?_take_of_lt h7]
        · by_cases h8 : k < f + cs.length
          · rw [List.getElem?_append_left (by simp; omega), List.getElem?_append_right (by rw [htk]; omega), htk, hv ρ' hρ, List.getElem?_map]
            rw [List.getElem?_append_left (by simp; omega), List.getElem?_append_right (by simp; omega)]
            congr 2
            simp; omega
          · rw [List.getElem?_append_right (by simp; omega), List.getElem?_drop, Array.getElem?_toList]
            rw [List.getElem?_append_right (by simp; omega), List.getElem?_drop]
            have h9 := (k3 j hj).2 k hk
            rw [show j * e + f + cs.length + (j * e + k - (arr.toList.take (j * e + f) ++ v.cells.toList).length) = j * e + k by simp; omega, h9]
            congr 2
            simp; omega
      · refine ⟨by simp [hji, (k3 j hj).1], fun k hk => ?_⟩
        simp only [hji, if_false, List.getElem?_toArray]
        rw [← (k3 j hj).2 k hk]
        rcases Nat.lt_or_gt_of_ne hji with hlt | hgt
        · have : (j + 1) * e ≤ i * e := Nat.mul_le_mul_right e hlt
          have h10 : (j + 1) * e = j * e + e := by rw [Nat.add_mul]; omega
          rw [List.append_assoc, List.getElem?_append_left (by rw [htk]; omega), List.getElem?_take_of_lt (by omega), Array.getElem?_toList]
        · have : (i + 1) * e ≤ j * e := Nat.mul_le_mul_right e hgt
          rw [List.getElem?_append_right (by simp; omega), List.getElem?_drop, Array.getElem?_toList]
          congr 1
          simp; omega
    · unfold storeVar
      simp [sizeOf_of hn, hsz, g0, ge]
      rw [List.append_assoc] at hrun
      exact hrun
  · exact hw.elim

end
end Go.Sx
