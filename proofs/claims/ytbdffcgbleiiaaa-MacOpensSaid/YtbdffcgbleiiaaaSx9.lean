/-
  The symbolic walk: Loops by rounds or by an invariant; renaming of named blocks: sound. Nothing here speaks of one program. Conditions: none.
-/
import Derived.Test.YtbdffcgbleiiaaaSx8
import Derived.LoopTactic
set_option linter.unusedVariables false
set_option linter.unusedSimpArgs false
namespace Go.Sx
open Go.RowKit
section
variable {P : Program} {C : Cx} {st st' : St}

/-! ### Loops -/
/-- At most so many rounds, one by one. -/
def XR (P : Program) (C : Cx) (c : Code) (Q : Exit → St → Prop) : Nat → St → Prop
  | 0, _ => False
  | n + 1, st => X P C c (seqQ (XR P C c Q n) Q) st

theorem XR_congr {c : Code} {Q : Exit → St → Prop} {n : Nat} (h : st = st') : XR P C c Q n st = XR P C c Q n st' := by rw [h]
theorem XR_s {c : Code} {Q : Exit → St → Prop} {n : Nat} : XR P C c Q (n + 1) st = X P C c (seqQ (XR P C c Q n) Q) st := (rfl)

theorem then_of {K : St → Prop} {Q : Exit → St → Prop} {N : Act → World → Prop} {ρ0 : Env} {e : Exit} {a : Act} {w : World} (h : QQ C ρ0 (seqQ K Q) e a w) (hn : ∀ st ρ, K st → Sat C st ρ a w → (∀ k, k < C.n0 → ρ k = ρ0 k) → N a w) : Exit.then N (QQ C ρ0 Q) e a w := by
  cases e with
  | normal => obtain ⟨st', ρ', hq, hs', hag⟩ := h; exact hn st' ρ' hq hs' hag
  | panic c => exact h.elim
  | outgrown => exact h.elim
  | exit id => exact h
  | goto id => exact h
  | ret => exact h

/-- What holds of one state holds of another. -/
def Ent (C : Cx) (st st' : St) : Prop := ∀ ρ a w, Sat C st ρ a w → ∃ ρ', Sat C st' ρ' a w ∧ ∀ k, k < C.n0 → ρ' k = ρ k

theorem Ent.refl : Ent C st st := fun ρ a w h => ⟨ρ, h, fun _ _ => rfl⟩

/-- A loop, by what holds at each round's beginning. -/
theorem sloop {c : Code} {Q : Exit → St → Prop} {ι : Type} (inv : ι → St) (φ : ι → Prop) (μ : ι → Nat) (i0 : ι) (h0 : φ i0) (he : Ent C st (inv i0))
    (hr : ∀ i, φ i → X P C c (seqQ (fun s => ∃ i', φ i' ∧ μ i' < μ i ∧ Ent C s (inv i')) Q) (inv i)) : SCode P C (.loop c) Q st := fun ρ a w hs => by
  obtain ⟨ρ0, hs0, hag0⟩ := he ρ a w hs
  have key : ∀ (n : Nat) (i : ι), μ i < n → φ i → ∀ ρ1 a w, Sat C (inv i) ρ1 a w → (∀ k, k < C.n0 → ρ1 k = ρ k) → Code.rounds P c (QQ C ρ Q) n a w := fun n => by
    induction n with
    | zero => intro i h; omega
    | succ n ih =>
      intro i hlt hi ρ1 a w hs hag
      rw [rounds_succ]
      refine Code.wp_mono (fun e a w he => then_of (QQ_to hag e a w he) fun st' ρ' hk hs' hag' => ?_) (X_sound c _ _ (hr i hi) ρ1 a w hs)
      obtain ⟨i', hi', hm, hent⟩ := hk
      obtain ⟨ρ'', hs'', hag''⟩ := hent ρ' a w hs'
      exact ih i' (by omega) hi' ρ'' a w hs'' fun k hk => (hag'' k hk).trans (hag' k hk)
  exact wp_loop_rounds (μ i0 + 1) (key _ i0 (by omega) h0 ρ0 a w hs0 hag0)

theorem sloop_rounds {c : Code} {Q : Exit → St → Prop} (n : Nat) (h : XR P C c Q n st) : SCode P C (.loop c) Q st := fun ρ a w hs => by
  have key : ∀ (n : Nat) (st : St), XR P C c Q n st → ∀ ρ1 a w, Sat C st ρ1 a w → (∀ k, k < C.n0 → ρ1 k = ρ k) → Code.rounds P c (QQ C ρ Q) n a w := fun n => by
    induction n with
    | zero => intro st h; exact h.elim
    | succ n ih =>
      intro st h ρ1 a w hs hag
      rw [rounds_succ]
      exact Code.wp_mono (fun e a w he => then_of (QQ_to hag e a w he) fun st' ρ' hk hs' hag' => ih st' hk ρ' a w hs' hag') (X_sound c _ _ h ρ1 a w hs)
  exact wp_loop_rounds n (key n st h ρ a w hs fun _ _ => rfl)

/-- A region that draws its order, and writes nothing that it reads but by its last operation. -/
theorem sdraw0 {id : Nat} {l : List Oper} {Q : Exit → St → Prop} (p : List PS) (last : Nat) (hm : P.follows .mixedOrders = true) (hp : planOk0 l.toArray last p = true)
    (h : sameAll st.hp st.hp ∧ XP P C l.toArray last st.hp p (Q .normal) st) : SCode P C (.region id l.toArray true) Q st := sdraw p last st.hp hm hp h.1 h.2

/-! ### From one state to another: fewer slots, fewer blocks, other names -/
/-- A region that draws its order: whatever order, what comes of it is as one state says. -/
theorem sdraw_ent {id : Nat} {ops : Array Oper} {Q : Exit → St → Prop} (p : List PS) (last : Nat) (hS : List (Nat × Blk)) (hm : P.follows .mixedOrders = true) (hp : planOk0 ops last p = true) (hsub : sameAll hS st.hp) (st1 : St)
    (h : XP P C ops last hS p (fun st' => Ent C st' st1) st) (h1 : Q .normal st1) : SCode P C (.region id ops true) Q st := fun ρ a w hs =>
  Code.wp_mono (fun e a w hq => by
    cases e with
    | normal =>
      obtain ⟨st', ρ', he, hs', hρ⟩ := hq
      obtain ⟨ρ'', h2, h3⟩ := he ρ' a w hs'
      exact ⟨st1, ρ'', h1, h2, fun k hk => (h3 k hk).trans (hρ k hk)⟩
    | panic _ => exact hq
    | outgrown => exact hq
    | _ => exact hq.elim fun _ h => h.elim fun _ h => h.1.elim) (sdraw (Q := fun e st' => match e with | .normal => Ent C st' st1 | _ => False) p last hS hm hp hsub h ρ a w hs)

/-- .. where nothing is written that is read, but by the last operation. -/
theorem sdraw_ent0 {id : Nat} {l : List Oper} {Q : Exit → St → Prop} (p : List PS) (last : Nat) (hm : P.follows .mixedOrders = true) (hp : planOk0 l.toArray last p = true) (st1 : St)
    (h : sameAll st.hp st.hp ∧ XP P C l.toArray last st.hp p (fun st' => Ent C st' st1) st) (h1 : Q .normal st1) : SCode P C (.region id l.toArray true) Q st := sdraw_ent p last st.hp hm hp h.1 st1 h.2 h1

mutual
def CV.rn (f : Nat → Nat) : CV → CV
  | .v x => .v x
  | .p b i o => .p (f b) i o
  | .s b i l c => .s (f b) i l c
  | .fn g caps => .fn g (CV.rnL f caps)
def CV.rnL (f : Nat → Nat) : List CV → List CV
  | [] => []
  | x :: r => CV.rn f x :: CV.rnL f r
end
mutual
def CV.bl (n : Nat) : CV → Prop
  | .v _ => True
  | .p b _ _ => b < n
  | .s b _ _ _ => b < n
  | .fn _ caps => CV.blL n caps
def CV.blL (n : Nat) : List CV → Prop
  | [] => True
  | x :: r => CV.bl n x ∧ CV.blL n r
end
mutual
def SV.rn (f : Nat → Nat) : SV → SV
  | .c x => .c (x.rn f)
  | .agg l => .agg (CV.rnL f l)
  | .tup l => .tup (SV.rnL f l)
  | .bad => .bad
def SV.rnL (f : Nat → Nat) : List SV → List SV
  | [] => []
  | x :: r => SV.rn f x :: SV.rnL f r
end
mutual
def SV.bl (n : Nat) : SV → Prop
  | .c x => x.bl n
  | .agg l => CV.blL n l
  | .tup l => SV.blL n l
  | .bad => True
def SV.blL (n : Nat) : List SV → Prop
  | [] => True
  | x :: r => SV.bl n x ∧ SV.blL n r
end

theorem CV.rnL_eq (f : Nat → Nat) (l : List CV) : CV.rnL f l = l.map (CV.rn f) := by
  induction l with
  | nil => simp [CV.rnL]
  | cons x r ih => simp [CV.rnL, ih]

mutual
theorem CV.den_rn (f : Nat → Nat) (n : Nat) (ρ ρ' : Env) (h : ∀ k, k < n → ρ' k = ρ (f k)) : ∀ x : CV, x.bl n → (x.rn f).den ρ = x.den ρ'
  | .v x, _ => rfl
  | .p b i o, hb => by simp only [CV.rn, CV.den, h b hb]
  | .s b i l c, hb => by simp only [CV.rn, CV.den, h b hb]
  | .fn g caps, hb => by simp only [CV.rn, CV.den, CV.denL_rn f n ρ ρ' h caps hb]
theorem CV.denL_rn (f : Nat → Nat) (n : Nat) (ρ ρ' : Env) (h : ∀ k, k < n → ρ' k = ρ (f k)) : ∀ l : List CV, CV.blL n l → CV.denL ρ (CV.rnL f l) = CV.denL ρ' l
  | [], _ => rfl
  | x :: r, hb => by simp only [CV.rnL, CV.denL, CV.den_rn f n ρ ρ' h x hb.1, CV.denL_rn f n ρ ρ' h r hb.2]
end
mutual
theorem SV.den_rn (f : Nat → Nat) (n : Nat) (ρ ρ' : Env) (h : ∀ k, k < n → ρ' k = ρ (f k)) : ∀ x : SV, x.bl n → (x.rn f).den ρ = x.den ρ'
  | .c x, hb => CV.den_rn f n ρ ρ' h x hb
  | .agg l, hb => by simp only [SV.rn, SV.den, CV.denL_rn f n ρ ρ' h l hb]
  | .tup l, hb => by simp only [SV.rn, SV.den, SV.denL_rn f n ρ ρ' h l hb]
  | .bad, _ => rfl
theorem SV.denL_rn (f : Nat → Nat) (n : Nat) (ρ ρ' : Env) (h : ∀ k, k < n → ρ' k = ρ (f k)) : ∀ l : List SV, SV.blL n l → SV.denL ρ (SV.rnL f l) = SV.denL ρ' l
  | [], _ => rfl
  | x :: r, hb => by simp only [SV.rnL, SV.denL, SV.den_rn f n ρ ρ' h x hb.1, SV.denL_rn f n ρ ρ' h r hb.2]
end
mutual
theorem SV.ok_rn (f : Nat → Nat) : ∀ x : SV, (x.rn f).ok = x.ok
  | .c x => rfl
  | .agg l => rfl
  | .tup l => by simp only [SV.rn, SV.ok, SV.okL_rn f l]
  | .bad => rfl
theorem SV.okL_rn (f : Nat → Nat) : ∀ l : List SV, SV.okL (SV.rnL f l) = SV.okL l
  | [] => rfl
  | x :: r => by simp only [SV.rnL, SV.okL, SV.ok_rn f x, SV.okL_rn f r]
end

def Blk.rn (f : Nat → Nat) : Blk → Blk
  | .cells ty cs => .cells ty (CV.rnL f cs)
  | .rows ty e m c r => .rows ty e m c fun i => CV.rnL f (r i)
  | .imm e m r => .imm e m fun i => CV.rnL f (r i)
  | .obj o => .obj o
  | .pred fp R => .pred fp R
def Blk.bl (n : Nat) : Blk → Prop
  | .cells _ cs => CV.blL n cs
  | .rows _ _ m _ r => ∀ i, i < m → CV.blL n (r i)
  | .imm _ m r => ∀ i, i < m → CV.blL n (r i)
  | _ => True

theorem Blk.holds_rn {f : Nat → Nat} {n : Nat} {ρ ρ' : Env} (h : ∀ k, k < n → ρ' k = ρ (f k)) {m : Nat} (hm : m < n) {b : Blk} (hb : b.bl n) {w : World} (hh : (b.rn f).holds C ρ (f m) w) : b.holds C ρ' m w := by
  have e := h m hm
  cases b with
  | cells ty cs =>
    obtain ⟨g0, g1, g2⟩ := hh
    refine ⟨by rw [e]; exact g0, ?_, by rw [e]; exact g2⟩
    rw [e, g1, ← CV.denL_eq, ← CV.denL_eq, CV.denL_rn f n ρ ρ' h cs hb]
  | rows ty es k c r =>
    obtain ⟨g0, g1, ⟨arr, g2, gc, g3⟩, g4⟩ := hh
    refine ⟨by rw [e]; exact g0, by rw [e]; exact g1, ⟨arr, by rw [e]; exact g2, gc, fun i hi => ?_⟩, by rw [e]; exact g4⟩
    obtain ⟨q1, q2⟩ := g3 i hi
    refine ⟨by simpa [CV.rnL_eq] using q1, fun j hj => ?_⟩
    rw [q2 j hj]
    have := CV.denL_rn f n ρ ρ' h (r i) (hb i hi)
    rw [CV.denL_eq, CV.denL_eq] at this
    rw [← List.getElem?_map, ← List.getElem?_map, this]
  | imm es k r =>
    obtain ⟨g1, g3, g4⟩ := hh
    refine ⟨by rw [e]; exact g1, fun i hi => ?_, by rw [e]; exact g4⟩
    obtain ⟨q1, q2⟩ := g3 i hi
    refine ⟨by simpa [CV.rnL_eq] using q1, fun j hj => ?_⟩
    rw [e, q2 j hj]
    have := CV.denL_rn f n ρ ρ' h (r i) (hb i hi)
    rw [CV.denL_eq, CV.denL_eq] at this
    rw [← List.getElem?_map, ← List.getElem?_map, this]
  | obj o => obtain ⟨g0, g1, g2⟩ := hh; exact ⟨by rw [e]; exact g0, by rw [e]; exact g1, by rw [e]; exact g2⟩
  | pred fp R => exact hh

def frEnt (f : Nat → Nat) (n : Nat) (fr : List (Nat × SV)) : List (Nat × SV) → Prop
  | [] => True
  | (t, x) :: r => (x.bl n ∧ lk fr t = x.rn f) ∧ frEnt f n fr r
def hpEnt (f : Nat → Nat) (n : Nat) (hp : List (Nat × Blk)) : List (Nat × Blk) → Prop
  | [] => True
  | (m, b) :: r => (m < n ∧ b.bl n ∧ hget hp (f m) = some (b.rn f)) ∧ hpEnt f n hp r

theorem frEnt_lk {f : Nat → Nat} {n : Nat} {fr : List (Nat × SV)} : ∀ {fr' : List (Nat × SV)}, frEnt f n fr fr' → ∀ t, (lk fr' t).ok = true → (lk fr' t).bl n ∧ lk fr t = (lk fr' t).rn f
  | [], _, t, h => by cases h
  | (a, x) :: r, hh, t, h => by
    simp only [lk] at h ⊢
    cases hb : Nat.beq a t with
    | true =>
      have := Nat.eq_of_beq_eq_true hb; subst this
      rw [hb] at h
      exact hh.1
    | false =>
      rw [hb] at h
      exact frEnt_lk hh.2 t h

theorem hpEnt_mem {f : Nat → Nat} {n : Nat} {hp : List (Nat × Blk)} : ∀ {hp' : List (Nat × Blk)}, hpEnt f n hp hp' → ∀ m b, (m, b) ∈ hp' → m < n ∧ b.bl n ∧ hget hp (f m) = some (b.rn f)
  | [], _, m, b, h => by cases h
  | (a, x) :: r, hh, m, b, h => by
    rcases List.mem_cons.1 h with h | h
    · injection h with h1 h2; subst h1; subst h2; exact hh.1
    · exact hpEnt_mem hh.2 m b h

theorem foot_rn {f : Nat → Nat} {n : Nat} {ρ ρ' : Env} (h : ∀ k, k < n → ρ' k = ρ (f k)) {m : Nat} (hm : m < n) (b : Blk) : b.foot ρ' m = (b.rn f).foot ρ (f m) := by
  cases b <;> simp [Blk.foot, Blk.rn, h m hm]

theorem sub_nodup {ρ : Env} {hp : List (Nat × Blk)} (hnd : (footL ρ hp).Nodup) : ∀ (l : List (Nat × Blk)), (∀ x ∈ l, x ∈ hp) → (l.map (·.1)).Nodup → (footL ρ l).Nodup
  | [], _, _ => by simp [footL]
  | (m, b) :: r, hs, hn => by
    simp only [List.map_cons, List.nodup_cons] at hn
    simp only [footL, List.nodup_append]
    refine ⟨?_, sub_nodup hnd r (fun x hx => hs x (by simp [hx])) hn.2, fun k hk j hj hkj => ?_⟩
    · have : ∀ (hp : List (Nat × Blk)), (footL ρ hp).Nodup → (m, b) ∈ hp → (b.foot ρ m).Nodup := fun hp => by
        induction hp with
        | nil => intro _ h; cases h
        | cons y q ih =>
          obtain ⟨k, c⟩ := y
          intro h1 h2
          simp only [footL, List.nodup_append] at h1
          rcases List.mem_cons.1 h2 with h | h
          · injection h with e1 e2; subst e1; subst e2; exact h1.1
          · exact ih h1.2.1 h
      exact this hp hnd (hs _ (by simp))
    · subst hkj
      obtain ⟨m', b', hm', hb'⟩ := footL_out hj
      refine foot_disj hnd (hs (m, b) (by simp)) (hs (m', b') (by simp [hm'])) (fun e => ?_) hk hb'
      subst e
      exact hn.1 (List.mem_map.2 ⟨(m, b'), hm', rfl⟩)

theorem nodup_map {α β : Type} (f : α → β) : ∀ l : List α, (l.map f).Nodup → l.Nodup
  | [], _ => by simp
  | x :: r, h => by
    simp only [List.map_cons, List.nodup_cons] at h ⊢
    exact ⟨fun hx => h.1 (List.mem_map.2 ⟨x, hx, rfl⟩), nodup_map f r h.2⟩

/-- Fewer slots, fewer blocks, other names. -/
theorem ent_of (f : Nat → Nat) {fr fr' : List (Nat × SV)} {hp hp' : List (Nat × Blk)} {nx nx' : Nat} (h1 : frEnt f nx' fr fr') (h2 : hpEnt f nx' hp hp') (h3 : (hp'.map fun x => f x.1).Nodup) (h4 : C.n0 ≤ nx') (h5 : ∀ k, k < C.n0 → f k = k) : Ent C ⟨fr, hp, nx⟩ ⟨fr', hp', nx'⟩ := fun ρ a w hs => by
  refine ⟨fun n => ρ (f n), fun ρ' hρ => ?_, fun k hk => congrArg ρ (h5 k hk)⟩
  have h0 := hs.now
  have hρ' : ∀ k, k < nx' → ρ' k = ρ (f k) := hρ
  have hnd : (hp'.map (·.1)).Nodup := by
    have : hp'.map (fun x => f x.1) = (hp'.map (·.1)).map f := by simp
    rw [this] at h3
    exact nodup_map f _ h3
  refine ⟨fun t ht => ?_, h0.defers, ⟨h0.size.1, fun k hk => by rw [hρ' k (Nat.lt_of_lt_of_le hk h4), h5 k hk]; exact h0.size.2 k hk⟩, h0.keeps, fun m b hm => ?_, ?_, fun m b hm => (hpEnt_mem h2 m b hm).1, hnd, h4⟩
  · obtain ⟨e1, e2⟩ := frEnt_lk h1 t ht
    have := h0.fr t (by rw [e2, SV.ok_rn]; exact ht)
    rw [this]
    show (lk fr t).den ρ = _
    rw [e2, SV.den_rn f nx' ρ ρ' hρ' _ e1]
  · obtain ⟨e1, e2, e3⟩ := hpEnt_mem h2 m b hm
    exact Blk.holds_rn hρ' e1 e2 (h0.hp _ _ (mem_hget e3))
  · have key : footL ρ' hp' = footL ρ (hp'.map fun x => (f x.1, x.2.rn f)) := by
      have : ∀ l : List (Nat × Blk), (∀ x ∈ l, x ∈ hp') → footL ρ' l = footL ρ (l.map fun x => (f x.1, x.2.rn f)) := fun l => by
        induction l with
        | nil => intro _; rfl
        | cons x r ih =>
          obtain ⟨m, b⟩ := x
          intro hm
          simp only [footL, List.map_cons]
          rw [ih (fun x hx => hm x (by simp [hx])), foot_rn hρ' (hpEnt_mem h2 m b (hm _ (by simp))).1]
      exact this hp' fun x hx => hx
    rw [key]
    refine sub_nodup h0.nodup _ (fun x hx => ?_) (by simpa [Function.comp_def] using h3)
    obtain ⟨⟨m, b⟩, hm, rfl⟩ := List.mem_map.1 hx
    exact mem_hget (hpEnt_mem h2 m b hm).2.2

theorem frEnt_n {f : Nat → Nat} {n : Nat} {fr : List (Nat × SV)} : frEnt f n fr [] = True := (rfl)
theorem frEnt_c {f : Nat → Nat} {n t : Nat} {x : SV} {fr r : List (Nat × SV)} : frEnt f n fr ((t, x) :: r) = ((x.bl n ∧ lk fr t = x.rn f) ∧ frEnt f n fr r) := (rfl)
theorem hpEnt_n {f : Nat → Nat} {n : Nat} {hp : List (Nat × Blk)} : hpEnt f n hp [] = True := (rfl)
theorem hpEnt_c {f : Nat → Nat} {n m : Nat} {b : Blk} {hp r : List (Nat × Blk)} : hpEnt f n hp ((m, b) :: r) = ((m < n ∧ b.bl n ∧ hget hp (f m) = some (b.rn f)) ∧ hpEnt f n hp r) := (rfl)
attribute [go_sem] XR_s frEnt_n frEnt_c hpEnt_n hpEnt_c CV.rn CV.rnL CV.bl CV.blL SV.rn SV.rnL SV.bl SV.blL Blk.rn Blk.bl
attribute [congr] XR_congr
end
end Go.Sx
