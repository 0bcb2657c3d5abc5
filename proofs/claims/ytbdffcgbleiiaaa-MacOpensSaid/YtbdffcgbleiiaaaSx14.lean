/-
  The symbolic walk: what is owned, by the blocks that it is made of: opened where a function begins, closed where it ends: sound. Nothing here speaks of one program. Conditions: none.
-/
import Derived.Test.YtbdffcgbleiiaaaSx13
set_option linter.unusedVariables false
set_option linter.unusedSimpArgs false
namespace Go.Sx
open Go.RowKit
section
variable {P : Program}

/-- Ways that meet: what is left to be shown is shown once. -/
theorem join {α : Type} (φ : α → Prop) {R : α → Prop} {G : Prop} (hG : (∀ x, φ x → R x) → G) (h : ∀ x, φ x → R x) : G := hG h
/-- What is left of a piece of code, from a state that says less. -/
theorem SCode_ent {C : Cx} {st st' : St} {c : Code} {Q : Exit → St → Prop} (he : Ent C st st') (h : SCode P C c Q st') : SCode P C c Q st := fun ρ a w hs => by
  obtain ⟨ρ', h1, h2⟩ := he ρ a w hs
  exact Code.wp_mono (QQ_to h2) (h ρ' a w h1)
/-- A block as it lies, whoever owns it. -/
def Blk.lies (ρ : Env) (n : Nat) (w : World) : Blk → Prop
  | .cells ty cs => (ρ n).base = 0 ∧ w.heap[(ρ n).blk]? = some (.cells (cs.map (CV.den ρ)).toArray ty (0, 0)) ∧ (ρ n).esz = 1
  | .rows ty e m c r => (ρ n).base = 0 ∧ (ρ n).esz = e ∧ (∃ arr, HeapAt w (ρ n).blk arr ty e ∧ c * e ≤ arr.size ∧
      ∀ i, i < m → (r i).length = e ∧ ∀ k, k < e → arr[i * e + k]? = ((r i)[k]?).map (CV.den ρ))
  | .imm .. => False
  | .obj o => (ρ n).base = 0 ∧ w.heap[(ρ n).blk]? = some o
  | .pred fp R => R w ∧ Stable fp R ∧ fp.Nodup ∧ ∀ k, k ∈ fp → k < w.heap.size
theorem Blk.holds_of_lies {C : Cx} {ρ : Env} {n : Nat} {w : World} {b : Blk} (h : b.lies ρ n w) (ho : ∀ k, k ∈ b.foot ρ n → C.own k) : b.holds C ρ n w := by
  cases b with
  | cells ty cs => exact ⟨h.1, h.2.1, ho _ (by simp [Blk.foot]), h.2.2⟩
  | rows ty e m c r => exact ⟨h.1, h.2.1, h.2.2, ho _ (by simp [Blk.foot])⟩
  | imm => exact h.elim
  | obj o => exact ⟨h.1, h.2, ho _ (by simp [Blk.foot])⟩
  | pred fp R => exact ⟨h.1, h.2.1, h.2.2.1, fun k hk => ⟨h.2.2.2 k hk, ho k hk⟩⟩
def Blk.solid : Blk → Bool
  | .imm .. => false
  | _ => true
theorem Blk.lies_of_holds {C : Cx} {ρ : Env} {n : Nat} {w : World} {b : Blk} (h : b.holds C ρ n w) (hs : b.solid = true) : b.lies ρ n w := by
  cases b with
  | cells ty cs => exact ⟨h.1, h.2.1, h.2.2.2⟩
  | rows ty e m c r => exact ⟨h.1, h.2.1, h.2.2.1⟩
  | imm => cases hs
  | obj o => exact ⟨h.1, h.2.1⟩
  | pred fp R => exact ⟨h.1, h.2.1, h.2.2.1, fun k hk => (h.2.2.2 k hk).1⟩
theorem Blk.lies_same {ρ : Env} {n : Nat} {w w' : World} {b : Blk} (h : b.lies ρ n w) (hs : ∀ k, k ∈ b.foot ρ n → w'.heap[k]? = w.heap[k]?) : b.lies ρ n w' := by
  cases b with
  | cells ty cs => exact ⟨h.1, by rw [hs _ (by simp [Blk.foot])]; exact h.2⟩
  | rows ty e m c r => obtain ⟨h0, h1, arr, h2, h3⟩ := h; exact ⟨h0, h1, arr, h2.same (hs _ (by simp [Blk.foot])), h3⟩
  | imm => exact h.elim
  | obj o => exact ⟨h.1, by rw [hs _ (by simp [Blk.foot])]; exact h.2⟩
  | pred fp R => exact ⟨h.2.1 _ _ h.1 fun k hk => hs k hk, h.2.1, h.2.2.1, fun k hk => by
      have h1 := h.2.2.2 k hk
      have h2 := hs k hk
      rw [Array.getElem?_eq_getElem h1] at h2
      exact (Array.getElem?_eq_some_iff.1 h2).1⟩
theorem Blk.lies_lt {ρ : Env} {n : Nat} {w : World} {b : Blk} (h : b.lies ρ n w) : ∀ k, k ∈ b.foot ρ n → k < w.heap.size := fun k hk => by
  cases b with
  | cells ty cs => simp [Blk.foot] at hk; subst hk; exact lt_of_heap h.2.1
  | rows ty e m c r => simp [Blk.foot] at hk; subst hk; exact h.2.2.choose_spec.1.lt
  | imm => exact h.elim
  | obj o => simp [Blk.foot] at hk; subst hk; exact lt_of_heap h.2
  | pred fp R => exact h.2.2.2 k hk
/-- What a block says does not hang on further names. -/
theorem Blk.lies_env {ρ ρ' : Env} {n m : Nat} {w : World} {b : Blk} (hb : b.bl n) (hm : m < n) (hρ : ∀ k, k < n → ρ' k = ρ k) (h : b.lies ρ m w) : b.lies ρ' m w := by
  have he := hρ m hm
  have hl : ∀ l : List CV, CV.blL n l → l.map (CV.den ρ') = l.map (CV.den ρ) := fun l hl => by
    have := CV.denL_rn id n ρ ρ' hρ l hl
    rw [CV.rnL_id, CV.denL_eq, CV.denL_eq] at this
    exact this.symm
  cases b with
  | cells ty cs => exact ⟨by rw [he]; exact h.1, by rw [he, hl cs hb]; exact h.2.1, by rw [he]; exact h.2.2⟩
  | rows ty e m c r =>
    obtain ⟨h1, h2, arr, h3, h4, h5⟩ := h
    refine ⟨by rw [he]; exact h1, by rw [he]; exact h2, arr, by rw [he]; exact h3, h4, fun i hi => ⟨(h5 i hi).1, fun k hk => ?_⟩⟩
    rw [(h5 i hi).2 k hk, ← List.getElem?_map, ← List.getElem?_map, hl (r i) (hb i hi)]
  | imm => exact h.elim
  | obj o => exact ⟨by rw [he]; exact h.1, by rw [he]; exact h.2⟩
  | pred fp R => exact h

/-- What is owned, made of blocks: 'Sh' tells of which, and of how many names; the first begins block 'g'. -/
def On (g : Nat) (Sh : Nat → List (Nat × Blk) → Prop) (fp : List Nat) (w : World) : Prop :=
  ∃ ρ nx hp, Sh nx hp ∧ (∀ n b, (n, b) ∈ hp → (n < nx ∧ b.bl nx) ∧ b.lies ρ n w) ∧ (hp.map (·.1)).Nodup ∧ footL ρ hp = fp ∧ fp.Nodup ∧ (ρ 0).blk = g ∧ (ρ 0).base = 0 ∧ 0 < nx
theorem On.stable {g : Nat} {Sh : Nat → List (Nat × Blk) → Prop} {fp : List Nat} : Stable fp (On g Sh fp) := fun w w' ⟨ρ, nx, hp, h1, h2, h3, h4, h5⟩ hs =>
  ⟨ρ, nx, hp, h1, fun n b hm => ⟨(h2 n b hm).1, Blk.lies_same (h2 n b hm).2 fun k hk => hs k (by rw [← h4]; exact foot_mem hm hk)⟩, h3, h4, h5⟩
theorem On.lt {g : Nat} {Sh : Nat → List (Nat × Blk) → Prop} {fp : List Nat} {w : World} (h : On g Sh fp w) : ∀ k, k ∈ fp → k < w.heap.size := fun k hk => by
  obtain ⟨ρ, nx, hp, h1, h2, h3, h4, h5⟩ := h
  rw [← h4] at hk
  obtain ⟨n, b, hm, hk⟩ := footL_out hk
  exact Blk.lies_lt (h2 n b hm).2 k hk
theorem On.mono {g : Nat} {Sh Sh' : Nat → List (Nat × Blk) → Prop} {fp : List Nat} {w : World} (h : On g Sh fp w) (hS : ∀ nx hp, Sh nx hp → Sh' nx hp) : On g Sh' fp w := by
  obtain ⟨ρ, nx, hp, h1, h2⟩ := h
  exact ⟨ρ, nx, hp, hS _ _ h1, h2⟩

/-- A walk that works on what is owned. -/
theorem on_calls {f : FuncId} {fn : Func} {c : Code} {args : Array Value} {w : World} {R : Ending → World → Prop} {g : Nat} {Sh : Nat → List (Nat × Blk) → Prop} {fp : List Nat} (ho : On g Sh fp w) (n : Nat) (rs : List ResultVar) (hf : P.funcs[f]? = some fn) (hb : fn.body = some c) (hn : fn.ntmps = n) (hr : fn.results = rs.toArray)
    (xs : List SV) (hl : xs.length ≤ n) (ha : ∀ ρ' : Env, (ρ' 0).blk = g → (ρ' 0).base = 0 → args.toList = SV.denL ρ' xs)
    (h : ∀ ρ nx hp, Sh nx hp → (ρ 0).blk = g → (ρ 0).base = 0 → X P ⟨w, (· ∈ fp), n, nx, ρ⟩ c (retQ P ⟨w, (· ∈ fp), n, nx, ρ⟩ rs R) ⟨frOf 0 xs, hp, nx⟩) : Calls P f args w R := by
  have hlt := ho.lt
  obtain ⟨ρ, nx, hp, h1, h2, h3, h4, h5, h6, h7, h8⟩ := ho
  have hfoot : ∀ ρ' : Env, (∀ k, k < nx → ρ' k = ρ k) → ∀ l : List (Nat × Blk), (∀ x, x ∈ l → x ∈ hp) → footL ρ' l = footL ρ l := fun ρ' hρ l => by
    induction l with
    | nil => intro _; rfl
    | cons x r ih =>
      obtain ⟨m, b⟩ := x
      intro hs
      have hm := (h2 m b (hs _ (by simp))).1.1
      simp only [footL]
      rw [ih fun x hx => hs x (by simp [hx])]
      congr 1
      cases b <;> simp [Blk.foot, hρ m hm]
  refine calls_of (· ∈ fp) n rs hf hb hn hr xs hp nx ρ hl (fun ρ' hρ => ha ρ' (by rw [hρ 0 h8]; exact h6) (by rw [hρ 0 h8]; exact h7)) (fun ρ' hρ => ⟨fun m b hm => ?_, ?_⟩) (fun m b hm => (h2 m b hm).1.1) h3 (h ρ nx hp h1 h6 h7)
  · obtain ⟨⟨hm1, hm2⟩, hm3⟩ := h2 m b hm
    refine Blk.holds_of_lies (Blk.lies_env hm2 hm1 hρ hm3) fun k hk => .inr ?_
    show k ∈ fp
    rw [← h4, ← hfoot ρ' hρ hp fun _ h => h]
    exact foot_mem hm hk
  · rw [hfoot ρ' hρ hp fun _ h => h, h4]; exact h5

/-- .. and its end: some of the blocks, named anew, make up what is owned. -/
theorem on_ends {C : Cx} {fp : List Nat} {w w' : World} {fr : List (Nat × SV)} {hp hp' : List (Nat × Blk)} {nx nx' : Nat} {ρ : Env} {a : Act} {g : Nat} {Sh : Nat → List (Nat × Blk) → Prop} (hw : C.w0 = w) (hM : C.M = (· ∈ fp)) (hs : Sat C ⟨fr, hp, nx⟩ ρ a w') (f : Nat → Nat) (he : hpEnt f nx' hp hp')
    (h1 : (hp'.map fun x => f x.1).Nodup) (h2 : hp'.all (fun x => x.2.solid) = true) (hsh : Sh nx' hp') (hg : (ρ (f 0)).blk = g) (hb : (ρ (f 0)).base = 0) (h0 : 0 < nx') : ∃ fp', On g Sh fp' w' ∧ Chg fp fp' w w' := by
  have hm := hpEnt_mem he
  have hfoot : ∀ l : List (Nat × Blk), (∀ x, x ∈ l → x ∈ hp') → footL (fun k => ρ (f k)) l = footL ρ (l.map fun x => (f x.1, x.2.rn f)) := fun l => by
    induction l with
    | nil => intro _; rfl
    | cons x r ih =>
      obtain ⟨m, b⟩ := x
      intro hs'
      obtain ⟨q1, q2, q3⟩ := hm m b (hs' _ (by simp))
      simp only [footL, List.map_cons]
      rw [ih fun x hx => hs' x (by simp [hx])]
      congr 1
      exact foot_rn (ρ := ρ) (ρ' := fun k => ρ (f k)) (f := f) (n := nx') (fun k _ => rfl) q1 b
  have hsub : ∀ x, x ∈ hp'.map (fun x => (f x.1, x.2.rn f)) → x ∈ hp := fun x hx => by
    obtain ⟨⟨m, b⟩, hx2, he2⟩ := List.mem_map.1 hx
    rw [← he2]
    exact mem_hget (hm m b hx2).2.2
  have hnd : (footL (fun k => ρ (f k)) hp').Nodup := by
    rw [hfoot hp' fun _ h => h]
    exact sub_nodup hs.now.nodup _ hsub (by simpa [List.map_map, Function.comp_def] using h1)
  have hlies : ∀ n b, (n, b) ∈ hp' → (n < nx' ∧ b.bl nx') ∧ b.lies (fun k => ρ (f k)) n w' := fun n b hx => by
    obtain ⟨q1, q2, q3⟩ := hm n b hx
    have hh := hs.now.hp _ _ (mem_hget q3)
    refine ⟨⟨q1, q2⟩, Blk.lies_of_holds (Blk.holds_rn (ρ' := fun k => ρ (f k)) (fun k _ => rfl) q1 q2 hh) ?_⟩
    have := List.all_eq_true.1 h2 _ hx
    exact this
  have on : On g Sh (footL (fun k => ρ (f k)) hp') w' := ⟨fun k => ρ (f k), nx', hp', hsh, hlies, nodup_map (fun x => f x) _ (by simpa [List.map_map, Function.comp_def] using h1), rfl, hnd, hg, hb, h0⟩
  have hkeep := hs.now.keeps
  rw [hw, hM] at hkeep
  refine ⟨_, on, ⟨hkeep, fun k hk => ⟨?_, on.lt k hk⟩, hnd⟩⟩
  rw [hfoot hp' fun _ h => h] at hk
  obtain ⟨n, b, hx, hk⟩ := footL_out hk
  have := (Blk.foot_lt (hs.now.hp _ _ (hsub _ hx)) k hk).2
  unfold Cx.own at this
  rw [hw, hM] at this
  exact this.symm.imp id id
end
end Go.Sx
