/-
  The symbolic walk: a slice that is made, of whatever length; strings joined and repeated: sound. Nothing here speaks of one program. Conditions: none.
-/
import Derived.Test.YtbdffcgbleiiaaaSx14
import Derived.Laws.MakeOwn
set_option linter.unusedVariables false
set_option linter.unusedSimpArgs false
namespace Go.Sx
open Go.RowKit
section
variable {P : Program} {C : Cx} {fr : List (Nat × SV)} {hp : List (Nat × Blk)} {nx : Nat}

theorem madeCells_get (z : Array Value) (n i : Nat) (hi : i < n) (hz : 0 < z.size) : (madeCells z n)[i]? = z[i % z.size]? := by
  have : i % z.size < z.size := Nat.mod_lt _ hz
  simp [madeCells, hi, this, getElem!_pos]

/-- 'make' of a slice, its capacity its length. -/
theorem smake {d : Tmp} {x y : Operand} {t E ty : TypeId} {pos : String} {af : Array Edge} {g : Option (Nat × Bool)} {K : St → Prop} {k sz bb : Nat} {zs : List Value}
    (hx : St.ev ⟨fr, hp, nx⟩ x = .c (.v (.int .i64 k))) (hy : St.ev ⟨fr, hp, nx⟩ y = .c (.v (.int .i64 k))) (hk : tkind P t = some (.slc E)) (h1 : tsz P E = some sz) (h2 : tby P E = some bb) (h3 : tzero P E = some zs)
    (hz : (zs.length = sz ∧ 0 < sz) ∧ bb * k ≤ 140737488355328 ∧ k ≤ 9223372036854775807)
    (hK : d < C.N ∧ K ⟨(d, .c (.s nx 0 k k)) :: fr, (nx, .rows E sz k k (fun _ => zs.map .v)) :: hp, nx + 1⟩) :
    SOp P C ⟨some d, .makeSlice t x y, ty, pos, af, g⟩ K ⟨fr, hp, nx⟩ := fun ρ a w hs => by
  obtain ⟨⟨hzl, hsz⟩, hbb, hkk⟩ := hz
  obtain ⟨i, z, hi, rfl, rfl, hiz, hzc⟩ := info_of h1 h2 h3
  obtain ⟨ds, hu, hds⟩ := kind_of hk
  simp only at hds; subst hds
  have hzs : z.cells.size = i.size := by rw [← Array.length_toList, hzc, hzl]
  have hb' : (i.bytes : Int) * (k : Int) ≤ 281474976710656 := by
    have h : ((i.bytes * k : Nat) : Int) ≤ 281474976710656 := by omega
    rwa [Int.natCast_mul] at h
  have hrun : (Instr.makeSlice t (.int .i64 k) (.int .i64 k)).run P w = .ok (.slice (some ⟨w.heap.size, 0, none⟩) k k) (w.alloc (.cells (madeCells z.cells (k * i.size)) E)) := by
    have := run_make (P := P) w t E i z hu hi hiz .i64 .i64 k k (by omega) (by omega) hb' (by omega)
    simpa only [Int.toNat_natCast] using this
  refine wp_value (v := .slice (some ⟨w.heap.size, 0, none⟩) k k) ?_ ⟨_, _, hK.2, hs.allocRows (cells := madeCells z.cells (k * i.size)) (c := k) hK.1 (by rw [size_madeCells]; exact Nat.le_refl _) fun ρ' hρ q hq => ⟨by simpa using hzl, fun u hu => ?_⟩, Nat.le_succ _, fun k hk => by simp [envSet, Nat.ne_of_lt hk]⟩
  · simp only [execOp]
    simp [ev_c hs.fr' hx rfl, ev_c hs.fr' hy rfl, SV.den, CV.den]
    rw [hrun]; rfl
  · have hlt : q * i.size + u < k * i.size := by
      have : (q + 1) * i.size ≤ k * i.size := Nat.mul_le_mul_right _ hq
      rw [Nat.add_mul] at this; omega
    rw [madeCells_get _ _ _ hlt (by omega), hzs, Nat.mul_comm, Nat.mul_add_mod, Nat.mod_eq_of_lt hu]
    rw [← hzc]
    simp
    cases z.cells[u]? <;> rfl

/-- A cell of a block of rows of one cell each. -/
theorem cell_of_rows {ρ : Env} {w : World} {n m c : Nat} {ty : TypeId} {r : Nat → List CV} (h : (Blk.rows ty 1 m c r).holds C ρ n w) {j : Nat} {x : CV} (hj : j < m) (hx : r j = [x]) : w.cell? ⟨(ρ n).blk, 0 + j, none⟩ = some (x.den ρ) := by
  obtain ⟨h1, h2, ⟨arr, h3, h4, h5⟩, h6⟩ := h
  have := (h5 j hj).2 0 (by omega)
  rw [hx] at this
  simp at this
  rw [h3.cell]; simpa using this

def dkB (N : Nat) : Option Tmp → Bool
  | some d => Nat.blt d N
  | none => true
theorem dk_of {N : Nat} {d : Option Tmp} (h : dkB N d = true) : dOk N d := by
  cases d with
  | none => trivial
  | some d => exact Nat.le_of_ble_eq_true h
/-- The pointer to a block of its own. -/
abbrev gptr (b : Nat) : Value := .pointer (some ⟨b, 0, none⟩)
/-- What a call does to what is owned: what it answers, and what is owned behind it. -/
def Turn (g : Nat) (fp : List Nat) (v : Value) (Sh : Nat → List (Nat × Blk) → Prop) (w : World) (e : Ending) (w' : World) : Prop := ∃ fp', e = .returned v ∧ On g Sh fp' w' ∧ Chg fp fp' w w'
/-- A call of a function that works on what is owned. -/
theorem on_call {f : FuncId} {args : List SV} {d : Option Tmp} {K : St → Prop} (n : Nat) {g : Nat} {Sh Sh' : Nat → List (Nat × Blk) → Prop} {fp : List Nat} {v : Value} (vs : List Value) (x : SV)
    (hc : ∀ (v : Array Value) w, (callFunc f v).run P w = .ok (.enter f v) w) (hcall : ∀ w, On g Sh fp w → Calls P f vs.toArray w (Turn g fp v Sh' w))
    (hg : hget hp n = some (.pred fp (On g Sh fp))) (hok : SV.okL args = true) (hv : ∀ ρ, SV.denL ρ args = vs) (hx : ∀ ρ, v = x.den ρ) (hd : dkB C.N d = true) (hK : ∀ fp', kput K ⟨fr, hset hp n (.pred fp' (On g Sh' fp')), nx⟩ d x) :
    SCall P C f args d K ⟨fr, hp, nx⟩ :=
  scall_pred (α := Unit) n fp _ (fun _ fp' => On g Sh' fp') vs (fun _ => x) (fun _ => v) (fun _ => True) hc
    (fun w h => (hcall w h).mono fun e w' ⟨fp', h1, h2, h3⟩ => ⟨(), fp', trivial, h1, h2, h3⟩) (fun _ _ => On.stable) hg hok hv (fun _ ρ => hx ρ) ⟨dk_of hd, fun _ fp' _ => hK fp'⟩
/-- What a reading call does to what is owned: nothing. -/
def TurnK (g : Nat) (fp : List Nat) (v : Value) (Sh : Nat → List (Nat × Blk) → Prop) (w : World) (e : Ending) (w' : World) : Prop := e = .returned v ∧ On g Sh fp w' ∧ Chg fp fp w w'
theorem TurnK.turn {g : Nat} {fp : List Nat} {v : Value} {Sh : Nat → List (Nat × Blk) → Prop} {w : World} {e : Ending} {w' : World} (h : TurnK g fp v Sh w e w') : Turn g fp v Sh w e w' := ⟨fp, h⟩
theorem on_callk {f : FuncId} {args : List SV} {d : Option Tmp} {K : St → Prop} (n : Nat) {g : Nat} {Sh : Nat → List (Nat × Blk) → Prop} {fp : List Nat} {v : Value} (vs : List Value) (x : SV)
    (hc : ∀ (v : Array Value) w, (callFunc f v).run P w = .ok (.enter f v) w) (hcall : ∀ w, On g Sh fp w → Calls P f vs.toArray w (TurnK g fp v Sh w))
    (hg : hget hp n = some (.pred fp (On g Sh fp))) (hok : SV.okL args = true) (hv : ∀ ρ, SV.denL ρ args = vs) (hx : ∀ ρ, v = x.den ρ) (hd : dkB C.N d = true) (hK : kput K ⟨fr, hset hp n (.pred fp (On g Sh fp)), nx⟩ d x) :
    SCall P C f args d K ⟨fr, hp, nx⟩ := by
  refine ⟨hok, fun ρ w a hs _ => .inl ⟨fun v w => hc _ w, ?_⟩⟩
  rw [hv ρ]
  exact (hcall w (hs.now.hp _ _ (mem_hget hg)).1).mono fun e w' ⟨he, hR, hch⟩ => ⟨_, he, _, ρ, hK, (hs.pred hg hch hR On.stable).put (dk_of hd) fun _ ρ' _ => hx ρ', (by cases d <;> simp [St.put]), fun _ _ => rfl⟩
/-- The walk of a function on what is owned; its places are told. -/
theorem on_calls2 {f : FuncId} {fn : Func} {c : Code} {args : Array Value} {w : World} {R : Ending → World → Prop} {g : Nat} {Sh : Nat → List (Nat × Blk) → Prop} {fp : List Nat} (ho : On g Sh fp w) (n : Nat) (rs : List ResultVar) (hf : P.funcs[f]? = some fn) (hb : fn.body = some c) (hn : fn.ntmps = n) (hr : fn.results = rs.toArray)
    (xs : List SV) (hl : xs.length ≤ n) (ha : ∀ ρ' : Env, (ρ' 0).blk = g → (ρ' 0).base = 0 → args.toList = SV.denL ρ' xs)
    (h : ∀ ρ nx hp, Sh nx hp → (ρ 0).blk = g → (ρ 0).base = 0 → (footL ρ hp = fp ∧ fp.Nodup) ∧ 0 < nx ∧ (∀ n b, (n, b) ∈ hp → n < nx ∧ b.bl nx) ∧ (hp.map (·.1)).Nodup → X P ⟨w, (· ∈ fp), n, nx, ρ⟩ c (retQ P ⟨w, (· ∈ fp), n, nx, ρ⟩ rs R) ⟨frOf 0 xs, hp, nx⟩) : Calls P f args w R := by
  obtain ⟨ρ, nx, hp, h1, h2, h3, h4, h5, h6, h7, h8⟩ := ho
  have hfoot : ∀ ρ' : Env, (∀ k, k < nx → ρ' k = ρ k) → ∀ l : List (Nat × Blk), (∀ x, x ∈ l → x ∈ hp) → footL ρ' l = footL ρ l := fun ρ' hρ l => by
    induction l with
    | nil => intro _; rfl
    | cons x r ih =>
      obtain ⟨m, b⟩ := x
      intro hs
      have hm := (h2 m b (hs _ (by simp))).1.1
      simp only [footL]
      rw [ih fun x hx => hs x (by simp [hx])]
      congr 1
      cases b <;> simp [Blk.foot, hρ m hm]
  refine calls_of (· ∈ fp) n rs hf hb hn hr xs hp nx ρ hl (fun ρ' hρ => ha ρ' (by rw [hρ 0 h8]; exact h6) (by rw [hρ 0 h8]; exact h7)) (fun ρ' hρ => ⟨fun m b hm => ?_, ?_⟩) (fun m b hm => (h2 m b hm).1.1) h3 (h ρ nx hp h1 h6 h7 ⟨⟨h4, h5⟩, h8, fun n b hm => (h2 n b hm).1, h3⟩)
  · obtain ⟨⟨hm1, hm2⟩, hm3⟩ := h2 m b hm
    refine Blk.holds_of_lies (Blk.lies_env hm2 hm1 hρ hm3) fun k hk => .inr ?_
    show k ∈ fp
    rw [← h4, ← hfoot ρ' hρ hp fun _ h => h]
    exact foot_mem hm hk
  · rw [hfoot ρ' hρ hp fun _ h => h, h4]; exact h5
/-- .. and its end, where all is as it was. -/
theorem on_same {C : Cx} {fp : List Nat} {w w' : World} {fr : List (Nat × SV)} {hp : List (Nat × Blk)} {nx : Nat} {ρ : Env} {a : Act} {g : Nat} {Sh : Nat → List (Nat × Blk) → Prop} (hw : C.w0 = w) (hM : C.M = (· ∈ fp)) (hs : Sat C ⟨fr, hp, nx⟩ ρ a w') (hag : ∀ k, k < C.n0 → ρ k = C.ρ0 k)
    (hh : (footL C.ρ0 hp = fp ∧ fp.Nodup) ∧ 0 < C.n0 ∧ (∀ n b, (n, b) ∈ hp → n < C.n0 ∧ b.bl C.n0) ∧ (hp.map (·.1)).Nodup) (h2 : hp.all (fun x => x.2.solid) = true) (hsh : Sh C.n0 hp) (hg : (C.ρ0 0).blk = g) (hb : (C.ρ0 0).base = 0) : On g Sh fp w' ∧ Chg fp fp w w' := by
  obtain ⟨⟨hf, hnd⟩, h0, hbl, h1⟩ := hh
  have hfoot : ∀ l : List (Nat × Blk), (∀ x, x ∈ l → x ∈ hp) → footL ρ l = footL C.ρ0 l := fun l => by
    induction l with
    | nil => intro _; rfl
    | cons x r ih =>
      obtain ⟨m, b⟩ := x
      intro hs
      have hm := (hbl m b (hs _ (by simp))).1
      simp only [footL]
      rw [ih fun x hx => hs x (by simp [hx])]
      congr 1
      cases b <;> simp [Blk.foot, hag m hm]
  have on : On g Sh fp w' := ⟨ρ, C.n0, hp, hsh, fun n b hx => ⟨hbl n b hx, Blk.lies_of_holds (hs.now.hp _ _ hx) (List.all_eq_true.1 h2 _ hx)⟩, h1, (hfoot hp fun _ h => h).trans hf, hnd, (congrArg Nm.blk (hag 0 h0)).trans hg, (congrArg Nm.base (hag 0 h0)).trans hb, h0⟩
  have hkeep := hs.now.keeps
  rw [hw, hM] at hkeep
  exact ⟨on, hkeep, fun k hk => ⟨.inl hk, on.lt k hk⟩, hnd⟩
/-- A call of a function that makes something that is owned. -/
theorem on_new {f : FuncId} {args : List SV} {d : Option Tmp} {K : St → Prop} {Sh : Nat → List (Nat × Blk) → Prop} (vs : List Value) (v : Nat → Value) (x : Nat → SV)
    (hc : ∀ (v : Array Value) w, (callFunc f v).run P w = .ok (.enter f v) w) (hcall : ∀ w, Calls P f vs.toArray w fun e w' => ∃ g fp', e = .returned (v g) ∧ On g Sh fp' w' ∧ Chg [] fp' w w')
    (hok : SV.okL args = true) (hv : ∀ ρ, SV.denL ρ args = vs) (hx : ∀ g ρ, v g = (x g).den ρ) (hd : dkB C.N d = true) (hK : ∀ g fp', kput K ⟨fr, (nx, .pred fp' (On g Sh fp')) :: hp, nx + 1⟩ d (x g)) :
    SCall P C f args d K ⟨fr, hp, nx⟩ :=
  scall_new (α := Nat) (fun g fp' => On g Sh fp') vs x v (fun _ => True) hc
    (fun w => (hcall w).mono fun e w' ⟨g, fp', h1, h2, h3⟩ => ⟨g, fp', trivial, h1, h2, h3⟩) (fun _ _ => On.stable) hok hv hx ⟨dk_of hd, fun g fp' _ => hK g fp'⟩
end
end Go.Sx
