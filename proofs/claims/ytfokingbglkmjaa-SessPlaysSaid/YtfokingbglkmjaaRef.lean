/-
  The document's own table of sessions: what lies in memory. Conditions: none.
-/
import Derived.Test.YtfokingbglkmjaaSessF
namespace Go.Proofs.Ytfokingbglkmjaa
open Go.RowKit Go.Sx
set_option linter.unusedVariables false
set_option linter.unusedSimpArgs false

/-- A row: what was seen; whether it is open; the snapshot and the writes, or what was left of them. -/
structure RO where
  seen : V4
  op : Bool
  sn : V4
  ws : List Wr
def RO.row (o : RO) (s : Option (Nat × Nat)) : List Value := [vu o.seen.a, vu o.seen.b, vu o.seen.c, vu o.seen.d, .bool o.op, vu o.sn.a, vu o.sn.b, vu o.sn.c, vu o.sn.d, slv s o.ws.length]
theorem rrow_eq (T : Nat → RO) (S : Nat → Option (Nat × Nat)) (k : Nat) : ((T k).row (S k)).map CV.v = [cu (T k).seen.a, cu (T k).seen.b, cu (T k).seen.c, cu (T k).seen.d, .v (.bool (T k).op), cu (T k).sn.a, cu (T k).sn.b, cu (T k).sn.c, cu (T k).sn.d, .v (slv (S k) (T k).ws.length)] := rfl
/-- A session's writes, in memory. -/
def RWrAt (s : Option (Nat × Nat)) (ws : List Wr) (w : World) : Prop := match s with
  | none => ws = []
  | some (b, c) => (ws.length ≤ 8 ∧ ws.length ≤ c ∧ 0 < ws.length) ∧ RowsAt w b 56 4 ws.length c fun j => ((ws[j]?).map Wr.l).getD []
structure RTab (g : Nat) (T : Nat → RO) (S : Nat → Option (Nat × Nat)) (w : World) : Prop where
  row : RowsAt w g 38 10 9 9 fun i => (T i).row (S i)
  wr : ∀ i, i < 9 → RWrAt (S i) (T i).ws w
  dis : Dis g S
def RTabIs (g : Nat) (T : Nat → RO) (fp : List Nat) (w : World) : Prop := ∃ S, RTab g T S w ∧ fp = g :: restf (List.range 9) S

theorem RWrAt.same {s : Option (Nat × Nat)} {ws : List Wr} {w w' : World} (h : RWrAt s ws w) (hs : ∀ b c, s = some (b, c) → w'.heap[b]? = w.heap[b]?) : RWrAt s ws w' := by
  cases s with
  | none => exact h
  | some p => obtain ⟨b, c⟩ := p; exact ⟨h.1, h.2.same (hs b c rfl)⟩

/-- The writes of these sessions. -/
def RWrs (ks : List Nat) (T : Nat → RO) (S : Nat → Option (Nat × Nat)) (w : World) : Prop := ∀ i, i ∈ ks → RWrAt (S i) (T i).ws w
theorem RWrs.stable (ks : List Nat) (T : Nat → RO) (S : Nat → Option (Nat × Nat)) : Stable (restf ks S) (RWrs ks T S) := fun w w' h hs i hi => (h i hi).same fun b c e => hs b (mem_restf.2 ⟨i, c, hi, e⟩)

theorem RTab.fpNodup {g : Nat} {T : Nat → RO} {S : Nat → Option (Nat × Nat)} (h : Dis g S) : (g :: restf (List.range 9) S).Nodup := by
  simp only [List.nodup_cons]
  refine ⟨fun hm => ?_, nodup_restf h _ List.nodup_range (by simp)⟩
  obtain ⟨i, c, hi, hs⟩ := mem_restf.1 hm
  exact h.1 i g c (by simpa using hi) hs rfl

theorem RTabIs.stable {g : Nat} {T : Nat → RO} {fp : List Nat} : Stable fp (RTabIs g T fp) := fun w w' ⟨S, h, hf⟩ hs => by
  subst hf
  exact ⟨S, ⟨h.row.same (hs g (by simp)), fun i hi => (h.wr i hi).same fun b c e => hs b (by simp [mem_restf]; exact .inr ⟨i, hi, ⟨c, e⟩⟩), h.dis⟩, rfl⟩

theorem RWrAt.lt {s : Option (Nat × Nat)} {ws : List Wr} {w : World} (h : RWrAt s ws w) {b c : Nat} (hs : s = some (b, c)) : b < w.heap.size := by subst hs; exact h.2.lt

theorem RTab.lt {g : Nat} {T : Nat → RO} {S : Nat → Option (Nat × Nat)} {w : World} (h : RTab g T S w) : ∀ k, k ∈ (g :: restf (List.range 9) S) → k < w.heap.size := fun k hk => by
  rcases List.mem_cons.1 hk with rfl | hk
  · exact h.row.lt
  · obtain ⟨i, c, hi, hs⟩ := mem_restf.1 hk
    exact (h.wr i (by simpa using hi)).lt hs

/-- What a session's function answers and turns. -/
def RTurns (g : Nat) (fp : List Nat) (v : Value) (T' : Nat → RO) (w : World) (e : Ending) (w' : World) : Prop := ∃ fp', e = .returned v ∧ RTabIs g T' fp' w' ∧ Chg fp fp' w w'

/-- A walk that touches the table's rows alone. -/
theorem rtab_calls {f : FuncId} {fn : Func} {c : Code} {args : Array Value} {w : World} {R : Ending → World → Prop} {g : Nat} {T : Nat → RO} {fp : List Nat} {S : Nat → Option (Nat × Nat)} (hS : RTab g T S w) (hfp : fp = g :: restf (List.range 9) S) (n : Nat) (rs : List ResultVar) (hf : Try.prog.funcs[f]? = some fn) (hb : fn.body = some c) (hn : fn.ntmps = n) (hr : fn.results = rs.toArray)
    (xs : List SV) (hl : xs.length ≤ n) (ha : ∀ ρ' : Env, ρ' 0 = ⟨g, 0, 10⟩ → args.toList = SV.denL ρ' xs)
    (h : X Try.prog ⟨w, (· ∈ fp), n, 2, fun _ => ⟨g, 0, 10⟩⟩ c (retQ Try.prog ⟨w, (· ∈ fp), n, 2, fun _ => ⟨g, 0, 10⟩⟩ rs R) ⟨frOf 0 xs, [(0, .rows 38 10 9 9 fun i => ((T i).row (S i)).map .v), (1, .pred (restf (List.range 9) S) (RWrs (List.range 9) T S))], 2⟩) : Calls Try.prog f args w R := by
  refine calls_of (· ∈ fp) n rs hf hb hn hr xs [(0, .rows 38 10 9 9 fun i => ((T i).row (S i)).map .v), (1, .pred (restf (List.range 9) S) (RWrs (List.range 9) T S))] 2 (fun _ => ⟨g, 0, 10⟩) hl (fun ρ' hρ => ha ρ' (hρ 0 (by omega))) (fun ρ' hρ => ⟨fun m b hm => ?_, ?_⟩) (fun m b hm => ?_) (by simp) h
  · simp only [List.mem_cons, Prod.mk.injEq, List.not_mem_nil, or_false] at hm
    rcases hm with ⟨rfl, rfl⟩ | ⟨rfl, rfl⟩
    · exact hS.row.holds (hρ 0 (by omega)) (.inr (by show g ∈ fp; rw [hfp]; simp)) fun i _ => map_v _ _
    · exact ⟨fun i hi => hS.wr i (by simpa using hi), RWrs.stable _ _ _, nodup_restf hS.dis _ List.nodup_range (by simp), fun k hk => ⟨hS.lt k (by simp [hk]), .inr (by show k ∈ fp; rw [hfp]; simp [hk])⟩⟩
  · simp only [footL, Blk.foot, List.append_nil, hρ 0 (by omega)]
    exact RTab.fpNodup (T := T) hS.dis
  · simp only [List.mem_cons, Prod.mk.injEq, List.not_mem_nil, or_false] at hm
    rcases hm with ⟨rfl, _⟩ | ⟨rfl, _⟩ <;> omega

/-- .. and its end: the rows are of T' and S'. -/
theorem rtab_ends {g n : Nat} {fp : List Nat} {w w' : World} {T T' : Nat → RO} {S S' : Nat → Option (Nat × Nat)} {st : St} {ρ : Env} {a : Act} (hS : RTab g T S w) (hfp : fp = g :: restf (List.range 9) S) (hs : Sat ⟨w, (· ∈ fp), n, 2, fun _ => ⟨g, 0, 10⟩⟩ st ρ a w') (hag : ∀ k, k < 2 → ρ k = ⟨g, 0, 10⟩)
    {r' : Nat → List CV} (h0 : hget st.hp 0 = some (.rows 38 10 9 9 r')) (h1 : hget st.hp 1 = some (.pred (restf (List.range 9) S) (RWrs (List.range 9) T S))) (hr : ∀ i, i < 9 → (r' i).map (CV.den ρ) = (T' i).row (S' i))
    (hT : ∀ i, i < 9 → (S' i = S i ∧ (T' i).ws = (T i).ws) ∨ (S' i = none ∧ (T' i).ws = [])) : RTab g T' S' w' ∧ Chg fp (g :: restf (List.range 9) S') w w' := by
  have k0 := hs.now.hp _ _ (mem_hget h0)
  have k1 := hs.now.hp _ _ (mem_hget h1)
  have sub : ∀ i b c, i < 9 → S' i = some (b, c) → S i = some (b, c) := fun i b c hi h => by
    rcases hT i hi with ⟨h1, _⟩ | ⟨h1, _⟩
    · rw [← h1]; exact h
    · rw [h1] at h; cases h
  have hdis : Dis g S' := ⟨fun i b c hi h => hS.dis.1 i b c hi (sub i b c hi h), fun i j b c b' c' hi hj hne h h' => hS.dis.2 i j b c b' c' hi hj hne (sub i b c hi h) (sub j b' c' hj h')⟩
  have tab : RTab g T' S' w' := by
    refine ⟨rowsAt_of k0 (by rw [hag 0 (by omega)]) hr, fun i hi => ?_, hdis⟩
    rcases hT i hi with ⟨e1, e2⟩ | ⟨e1, e2⟩
    · rw [e1, e2]; exact k1.1 i (by simpa using hi)
    · rw [e1, e2]; exact rfl
  refine ⟨tab, ⟨hs.now.keeps, fun k hk => ⟨?_, tab.lt k hk⟩, RTab.fpNodup (T := T) hdis⟩⟩
  rw [hfp]
  rcases List.mem_cons.1 hk with rfl | hk
  · simp
  · obtain ⟨i, c, hi, h⟩ := mem_restf.1 hk
    exact .inl (by simp only [List.mem_cons]; exact .inr (mem_restf.2 ⟨i, c, hi, sub i k c (by simpa using hi) h⟩))
def fpR (g : Nat) (S : Nat → Option (Nat × Nat)) : List Nat := g :: restf (List.range 9) S
theorem RTab.stable {g : Nat} {T : Nat → RO} {S : Nat → Option (Nat × Nat)} : Stable (fpR g S) (RTab g T S) := fun w w' h hs =>
  ⟨h.row.same (hs g (by simp [fpR])), fun i hi => (h.wr i hi).same fun b c e => hs b (by simp [fpR, mem_restf]; exact .inr ⟨i, hi, ⟨c, e⟩⟩), h.dis⟩
/-- What a call answers that only reads; and one that turns the table. -/
def RKeep (g : Nat) (T : Nat → RO) (S : Nat → Option (Nat × Nat)) (v : Value) (w : World) (e : Ending) (w' : World) : Prop := e = .returned v ∧ RTab g T S w' ∧ Chg (fpR g S) (fpR g S) w w'
def RTurn (g : Nat) (S : Nat → Option (Nat × Nat)) (v : Value) (T' : Nat → RO) (w : World) (e : Ending) (w' : World) : Prop := ∃ S', e = .returned v ∧ RTab g T' S' w' ∧ Chg (fpR g S) (fpR g S') w w'
end Go.Proofs.Ytfokingbglkmjaa
