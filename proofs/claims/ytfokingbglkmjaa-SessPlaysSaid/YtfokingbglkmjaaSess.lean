/-
  The table of sessions: what lies in memory, and what each function answers. Conditions: none.
-/
import Derived.Test.YtfokingbglkmjaaSx12
import Derived.Test.YtfokingbglkmjaaVec
namespace Go.Proofs.Ytfokingbglkmjaa
open Go.RowKit Go.Sx
set_option linter.unusedVariables false
set_option linter.unusedSimpArgs false

structure Wr where
  b : ByteArray
  k : ByteArray
  x : ByteArray
  g : Bool
deriving DecidableEq
def Wr.l (w : Wr) : List Value := [.string w.b, .string w.k, .string w.x, .bool w.g]
def V4.l (x : V4) : List Value := [vu x.a, vu x.b, vu x.c, vu x.d]
structure One where
  seen : V4
  op : Option (V4 × List Wr)
def One.ws (o : One) : List Wr := match o.op with | some p => p.2 | none => []
def slv (s : Option (Nat × Nat)) (n : Nat) : Value := match s with | none => .slice none 0 0 | some (b, c) => .slice (some ⟨b, 0, none⟩) n c
def One.is (o : One) : Bool := o.op.isSome
def One.sn (o : One) : V4 := match o.op with | some p => p.1 | none => ⟨0, 0, 0, 0⟩
def One.sl (o : One) (s : Option (Nat × Nat)) : Value := match o.op with | none => .slice none 0 0 | some p => slv s p.2.length
def One.row (o : One) (s : Option (Nat × Nat)) : List Value := [vu o.seen.a, vu o.seen.b, vu o.seen.c, vu o.seen.d, .bool o.is, vu o.sn.a, vu o.sn.b, vu o.sn.c, vu o.sn.d, o.sl s]
theorem sl_one (o : One) (s : Option (Nat × Nat)) : one1 (.v (o.sl s)) = true := by
  unfold One.sl slv
  cases o.op <;> cases s <;> rfl
theorem row_eq (T : Nat → One) (S : Nat → Option (Nat × Nat)) (k : Nat) : ((T k).row (S k)).map CV.v = [cu (T k).seen.a, cu (T k).seen.b, cu (T k).seen.c, cu (T k).seen.d, .v (.bool (T k).is), cu (T k).sn.a, cu (T k).sn.b, cu (T k).sn.c, cu (T k).sn.d, .v ((T k).sl (S k))] := rfl
/-- A session's writes, in memory. -/
def WrAt (s : Option (Nat × Nat)) (ws : List Wr) (w : World) : Prop := match s with
  | none => ws = []
  | some (b, c) => (ws.length ≤ 8 ∧ ws.length ≤ c ∧ 0 < ws.length) ∧ RowsAt w b 41 4 ws.length c fun j => ((ws[j]?).map Wr.l).getD []
def restf (ks : List Nat) (S : Nat → Option (Nat × Nat)) : List Nat := ks.filterMap fun i => (S i).map (·.1)
/-- No block twice. -/
def Dis (g : Nat) (S : Nat → Option (Nat × Nat)) : Prop := (∀ i b c, i < 9 → S i = some (b, c) → b ≠ g) ∧ ∀ i j b c b' c', i < 9 → j < 9 → i ≠ j → S i = some (b, c) → S j = some (b', c') → b ≠ b'
structure Tab (g : Nat) (T : Nat → One) (S : Nat → Option (Nat × Nat)) (w : World) : Prop where
  row : RowsAt w g 162 10 9 9 fun i => (T i).row (S i)
  wr : ∀ i, i < 9 → WrAt (S i) (T i).ws w
  dis : Dis g S
def TabIs (g : Nat) (T : Nat → One) (fp : List Nat) (w : World) : Prop := ∃ S, Tab g T S w ∧ fp = g :: restf (List.range 9) S

def upd {α : Type} (T : Nat → α) (k : Nat) (o : α) : Nat → α := fun i => if i = k then o else T i
theorem upd_same {α : Type} (T : Nat → α) (k : Nat) (o : α) : upd T k o k = o := by simp [upd]
theorem upd_ne {α : Type} (T : Nat → α) {k i : Nat} (o : α) (h : i ≠ k) : upd T k o i = T i := by simp [upd, h]

theorem mem_restf {ks : List Nat} {S : Nat → Option (Nat × Nat)} {x : Nat} : x ∈ restf ks S ↔ ∃ i c, i ∈ ks ∧ S i = some (x, c) := by
  simp only [restf, List.mem_filterMap, Option.map_eq_some_iff]
  constructor
  · rintro ⟨i, hi, ⟨b, c⟩, h, rfl⟩; exact ⟨i, c, hi, h⟩
  · rintro ⟨i, c, hi, h⟩; exact ⟨i, hi, (x, c), h, rfl⟩

theorem nodup_restf {g : Nat} {S : Nat → Option (Nat × Nat)} (h : Dis g S) : ∀ (ks : List Nat), ks.Nodup → (∀ k ∈ ks, k < 9) → (restf ks S).Nodup
  | [], _, _ => by simp [restf]
  | k :: ks, hn, hl => by
    simp only [List.nodup_cons] at hn
    have ih := nodup_restf h ks hn.2 fun k hk => hl k (by simp [hk])
    simp only [restf, List.filterMap_cons]
    cases hk : S k with
    | none => exact ih
    | some p =>
      obtain ⟨b, c⟩ := p
      simp only [Option.map_some, List.nodup_cons]
      refine ⟨fun hm => ?_, ih⟩
      obtain ⟨i, c', hi, hs⟩ := mem_restf.1 hm
      exact h.2 k i b c b c' (hl k (by simp)) (hl i (by simp [hi])) (fun e => hn.1 (e ▸ hi)) hk hs rfl

theorem WrAt.same {s : Option (Nat × Nat)} {ws : List Wr} {w w' : World} (h : WrAt s ws w) (hs : ∀ b c, s = some (b, c) → w'.heap[b]? = w.heap[b]?) : WrAt s ws w' := by
  cases s with
  | none => exact h
  | some p => obtain ⟨b, c⟩ := p; exact ⟨h.1, h.2.same (hs b c rfl)⟩

/-- The writes of these sessions. -/
def Wrs (ks : List Nat) (T : Nat → One) (S : Nat → Option (Nat × Nat)) (w : World) : Prop := ∀ i, i ∈ ks → WrAt (S i) (T i).ws w
theorem Wrs.stable (ks : List Nat) (T : Nat → One) (S : Nat → Option (Nat × Nat)) : Stable (restf ks S) (Wrs ks T S) := fun w w' h hs i hi => (h i hi).same fun b c e => hs b (mem_restf.2 ⟨i, c, hi, e⟩)

theorem Tab.fpNodup {g : Nat} {T : Nat → One} {S : Nat → Option (Nat × Nat)} (h : Dis g S) : (g :: restf (List.range 9) S).Nodup := by
  simp only [List.nodup_cons]
  refine ⟨fun hm => ?_, nodup_restf h _ List.nodup_range (by simp)⟩
  obtain ⟨i, c, hi, hs⟩ := mem_restf.1 hm
  exact h.1 i g c (by simpa using hi) hs rfl

theorem TabIs.stable {g : Nat} {T : Nat → One} {fp : List Nat} : Stable fp (TabIs g T fp) := fun w w' ⟨S, h, hf⟩ hs => by
  subst hf
  exact ⟨S, ⟨h.row.same (hs g (by simp)), fun i hi => (h.wr i hi).same fun b c e => hs b (by simp [mem_restf]; exact .inr ⟨i, hi, ⟨c, e⟩⟩), h.dis⟩, rfl⟩

theorem WrAt.lt {s : Option (Nat × Nat)} {ws : List Wr} {w : World} (h : WrAt s ws w) {b c : Nat} (hs : s = some (b, c)) : b < w.heap.size := by subst hs; exact h.2.lt

theorem Tab.lt {g : Nat} {T : Nat → One} {S : Nat → Option (Nat × Nat)} {w : World} (h : Tab g T S w) : ∀ k, k ∈ (g :: restf (List.range 9) S) → k < w.heap.size := fun k hk => by
  rcases List.mem_cons.1 hk with rfl | hk
  · exact h.row.lt
  · obtain ⟨i, c, hi, hs⟩ := mem_restf.1 hk
    exact (h.wr i (by simpa using hi)).lt hs

/-- What a session's function answers and turns. -/
def Turns (g : Nat) (fp : List Nat) (v : Value) (T' : Nat → One) (w : World) (e : Ending) (w' : World) : Prop := ∃ fp', e = .returned v ∧ TabIs g T' fp' w' ∧ Chg fp fp' w w'

/-- A walk that touches the table's rows alone. -/
theorem tab_calls {f : FuncId} {fn : Func} {c : Code} {args : Array Value} {w : World} {R : Ending → World → Prop} {g : Nat} {T : Nat → One} {fp : List Nat} (ht : TabIs g T fp w) (n : Nat) (rs : List ResultVar) (hf : Try.prog.funcs[f]? = some fn) (hb : fn.body = some c) (hn : fn.ntmps = n) (hr : fn.results = rs.toArray)
    (xs : List SV) (hl : xs.length ≤ n) (ha : ∀ ρ' : Env, ρ' 0 = ⟨g, 0, 10⟩ → args.toList = SV.denL ρ' xs)
    (h : ∀ S, Tab g T S w → fp = g :: restf (List.range 9) S → X Try.prog ⟨w, (· ∈ fp), n, 2, fun _ => ⟨g, 0, 10⟩⟩ c (retQ Try.prog ⟨w, (· ∈ fp), n, 2, fun _ => ⟨g, 0, 10⟩⟩ rs R) ⟨frOf 0 xs, [(0, .rows 162 10 9 9 fun i => ((T i).row (S i)).map .v), (1, .pred (restf (List.range 9) S) (Wrs (List.range 9) T S))], 2⟩) : Calls Try.prog f args w R := by
  obtain ⟨S, hS, hfp⟩ := ht
  refine calls_of (· ∈ fp) n rs hf hb hn hr xs [(0, .rows 162 10 9 9 fun i => ((T i).row (S i)).map .v), (1, .pred (restf (List.range 9) S) (Wrs (List.range 9) T S))] 2 (fun _ => ⟨g, 0, 10⟩) hl (fun ρ' hρ => ha ρ' (hρ 0 (by omega))) (fun ρ' hρ => ⟨fun m b hm => ?_, ?_⟩) (fun m b hm => ?_) (by simp) (h S hS hfp)
  · simp only [List.mem_cons, Prod.mk.injEq, List.not_mem_nil, or_false] at hm
    rcases hm with ⟨rfl, rfl⟩ | ⟨rfl, rfl⟩
    · exact hS.row.holds (hρ 0 (by omega)) (.inr (by show g ∈ fp; rw [hfp]; simp)) fun i _ => map_v _ _
    · exact ⟨fun i hi => hS.wr i (by simpa using hi), Wrs.stable _ _ _, nodup_restf hS.dis _ List.nodup_range (by simp), fun k hk => ⟨hS.lt k (by simp [hk]), .inr (by show k ∈ fp; rw [hfp]; simp [hk])⟩⟩
  · simp only [footL, Blk.foot, List.append_nil, hρ 0 (by omega)]
    exact Tab.fpNodup (T := T) hS.dis
  · simp only [List.mem_cons, Prod.mk.injEq, List.not_mem_nil, or_false] at hm
    rcases hm with ⟨rfl, _⟩ | ⟨rfl, _⟩ <;> omega

/-- .. and its end: the rows are of T' and S'. -/
theorem tab_ends {g n : Nat} {fp : List Nat} {w w' : World} {T T' : Nat → One} {S S' : Nat → Option (Nat × Nat)} {st : St} {ρ : Env} {a : Act} (hS : Tab g T S w) (hfp : fp = g :: restf (List.range 9) S) (hs : Sat ⟨w, (· ∈ fp), n, 2, fun _ => ⟨g, 0, 10⟩⟩ st ρ a w') (hag : ∀ k, k < 2 → ρ k = ⟨g, 0, 10⟩)
    {r' : Nat → List CV} (h0 : hget st.hp 0 = some (.rows 162 10 9 9 r')) (h1 : hget st.hp 1 = some (.pred (restf (List.range 9) S) (Wrs (List.range 9) T S))) (hr : ∀ i, i < 9 → (r' i).map (CV.den ρ) = (T' i).row (S' i))
    (hT : ∀ i, i < 9 → (S' i = S i ∧ (T' i).ws = (T i).ws) ∨ (S' i = none ∧ (T' i).ws = [])) : ∃ fp', TabIs g T' fp' w' ∧ Chg fp fp' w w' := by
  have k0 := hs.now.hp _ _ (mem_hget h0)
  have k1 := hs.now.hp _ _ (mem_hget h1)
  have sub : ∀ i b c, i < 9 → S' i = some (b, c) → S i = some (b, c) := fun i b c hi h => by
    rcases hT i hi with ⟨h1, _⟩ | ⟨h1, _⟩
    · rw [← h1]; exact h
    · rw [h1] at h; cases h
  have hdis : Dis g S' := ⟨fun i b c hi h => hS.dis.1 i b c hi (sub i b c hi h), fun i j b c b' c' hi hj hne h h' => hS.dis.2 i j b c b' c' hi hj hne (sub i b c hi h) (sub j b' c' hj h')⟩
  have tab : Tab g T' S' w' := by
    refine ⟨rowsAt_of k0 (by rw [hag 0 (by omega)]) hr, fun i hi => ?_, hdis⟩
    rcases hT i hi with ⟨e1, e2⟩ | ⟨e1, e2⟩
    · rw [e1, e2]; exact k1.1 i (by simpa using hi)
    · rw [e1, e2]; exact rfl
  refine ⟨_, ⟨S', tab, rfl⟩, ⟨hs.now.keeps, fun k hk => ⟨?_, tab.lt k hk⟩, Tab.fpNodup (T := T) hdis⟩⟩
  rw [hfp]
  rcases List.mem_cons.1 hk with rfl | hk
  · simp
  · obtain ⟨i, c, hi, h⟩ := mem_restf.1 hk
    exact .inl (by simp only [List.mem_cons]; exact .inr (mem_restf.2 ⟨i, c, hi, sub i k c (by simpa using hi) h⟩))
end Go.Proofs.Ytfokingbglkmjaa
