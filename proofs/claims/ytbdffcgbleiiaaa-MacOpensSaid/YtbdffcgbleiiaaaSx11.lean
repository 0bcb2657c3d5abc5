/-
  The symbolic walk: Calls on what is owned, calls that make something owned: sound. Nothing here speaks of one program. Conditions: none.
-/
import Derived.Test.YtbdffcgbleiiaaaSx10
set_option linter.unusedVariables false
set_option linter.unusedSimpArgs false
namespace Go.Sx
open Go.RowKit

/-- The world has grown; of what was there only 'fp' is turned; 'fp'' is of it, or new. -/
structure Chg (fp fp' : List Nat) (w w' : World) : Prop where
  keeps : Keeps (fun k => k ∈ fp) w w'
  sub : ∀ k, k ∈ fp' → (k ∈ fp ∨ w.heap.size ≤ k) ∧ k < w'.heap.size
  nodup : fp'.Nodup

section
variable {P : Program} {C : Cx} {st : St} {fr : List (Nat × SV)} {hp : List (Nat × Blk)} {nx : Nat}

theorem hset_nodup {ρ : Env} {fp fp' : List Nat} {R R' : World → Prop} : ∀ (hp : List (Nat × Blk)) (n : Nat), hget hp n = some (.pred fp R) → (footL ρ hp).Nodup → fp'.Nodup → (∀ k, k ∈ fp' → k ∈ fp ∨ k ∉ footL ρ hp) →
    (footL ρ (hset hp n (.pred fp' R'))).Nodup ∧ ∀ k, k ∈ footL ρ (hset hp n (.pred fp' R')) → k ∈ footL ρ hp ∨ k ∈ fp'
  | [], _, h, _, _, _ => by simp [hget] at h
  | (m, c) :: r, n, h, hn, hn', hs => by
    simp only [hset, hget] at h ⊢
    simp only [footL, List.nodup_append] at hn
    cases hb : Nat.beq m n with
    | true =>
      have := Nat.eq_of_beq_eq_true hb; subst this
      simp only [hb, cond_true, Option.some.injEq] at h ⊢
      subst h
      simp only [footL, Blk.foot, List.nodup_append, List.mem_append] at hn hs ⊢
      refine ⟨⟨hn', hn.2.1, fun x hx y hy hxy => ?_⟩, fun k hk => hk.elim .inr fun h => .inl (.inr h)⟩
      subst hxy
      rcases hs x hx with h | h
      · exact hn.2.2 _ h _ hy rfl
      · exact h (.inr hy)
    | false =>
      simp only [hb, cond_false] at h ⊢
      have hin : ∀ k, k ∈ fp → k ∈ footL ρ r := fun k hk => foot_mem (mem_hget h) (b := .pred fp R) hk
      obtain ⟨i1, i2⟩ := hset_nodup (R' := R') r n h hn.2.1 hn' fun k hk => (hs k hk).imp id fun h hm => h (by simp [footL, hm])
      simp only [footL, List.nodup_append, List.mem_append]
      refine ⟨⟨hn.1, i1, fun x hx y hy hxy => ?_⟩, fun k hk => hk.elim (fun h => .inl (.inl h)) fun h => (i2 k h).elim (fun h => .inl (.inr h)) .inr⟩
      subst hxy
      rcases i2 x hy with h' | h'
      · exact hn.2.2 _ hx _ h' rfl
      · rcases hs x h' with h' | h'
        · exact hn.2.2 _ hx _ (hin x h') rfl
        · exact h' (by simp [footL, hx])

/-- What is owned is turned. -/
theorem Sat.pred {ρ : Env} {a : Act} {w w' : World} (h : Sat C ⟨fr, hp, nx⟩ ρ a w) {n : Nat} {fp fp' : List Nat} {R R' : World → Prop} (hg : hget hp n = some (.pred fp R)) (hc : Chg fp fp' w w') (hR : R' w') (hst : Stable fp' R') :
    Sat C ⟨fr, hset hp n (.pred fp' R'), nx⟩ ρ a w' := fun ρ' hρ => by
  have h0 := h ρ' hρ
  obtain ⟨_, _, _, hown⟩ := h0.hp _ _ (mem_hget hg)
  obtain ⟨nd, _⟩ := hset_nodup (ρ := ρ') (R' := R') hp n hg h0.nodup hc.nodup fun k hk => ((hc.sub k hk).1).imp id fun hle hm => absurd (h0.foot_lt hm).1 (by omega)
  have hw : Keeps C.M C.w0 w' := ⟨hc.keeps.os.trans h0.keeps.os, hc.keeps.tape.trans h0.keeps.tape, hc.keeps.output.trans h0.keeps.output, Nat.le_trans h0.keeps.size hc.keeps.size, fun k hk hM => by
    have h1 := h0.keeps.block k hk hM
    rw [← h1]
    exact hc.keeps.block k (Nat.lt_of_lt_of_le hk h0.keeps.size) fun hk' => (hown k hk').2.elim (fun h => by omega) hM⟩
  refine ⟨h0.fr, h0.defers, h0.size, hw, fun m x hm => ?_, nd, fun m x hm => ?_, by rw [hset_names]; exact h0.once, h0.n0le⟩
  · rcases hset_mem hg h0.once hm with ⟨rfl, rfl⟩ | ⟨hne, hm⟩
    · exact ⟨hR, hst, hc.nodup, fun k hk => ⟨(hc.sub k hk).2, ((hc.sub k hk).1).elim (fun h => (hown k h).2) fun hle => .inl (Nat.le_trans h0.keeps.size hle)⟩⟩
    · refine Blk.holds_of_same (h0.hp m x hm) (fun k hk => hc.keeps.block k (Blk.foot_lt (h0.hp m x hm) k hk).1 fun hk' => foot_disj h0.nodup hm (mem_hget hg) hne hk hk') (fun k hk hM => hc.keeps.block k (Nat.lt_of_lt_of_le hk h0.keeps.size) fun hk' => (hown k hk').2.elim (fun h => by omega) hM) hc.keeps.size
  · rcases hset_mem hg h0.once hm with ⟨rfl, rfl⟩ | ⟨hne, hm⟩
    · exact h0.names _ _ (mem_hget hg)
    · exact h0.names _ _ hm

/-- A call of a function that works on what is owned. -/
theorem scall_pred {f : FuncId} {args : List SV} {d : Option Tmp} {K : St → Prop} {α : Type} (n : Nat) (fp : List Nat) (R : World → Prop) (R' : α → List Nat → World → Prop) (vs : List Value) (x : α → SV) (v : α → Value) (φ : α → Prop)
    (hc : ∀ (v : Array Value) w, (callFunc f v).run P w = .ok (.enter f v) w)
    (hcall : ∀ w, R w → Calls P f vs.toArray w fun e w' => ∃ y fp', φ y ∧ e = .returned (v y) ∧ R' y fp' w' ∧ Chg fp fp' w w')
    (hst : ∀ y fp', Stable fp' (R' y fp')) (hg : hget hp n = some (.pred fp R)) (hok : SV.okL args = true) (hv : ∀ ρ, SV.denL ρ args = vs) (hx : ∀ y ρ, v y = (x y).den ρ) (hK : dOk C.N d ∧ ∀ y fp', φ y → kput K ⟨fr, hset hp n (.pred fp' (R' y fp')), nx⟩ d (x y)) :
    SCall P C f args d K ⟨fr, hp, nx⟩ := by
  refine ⟨hok, fun ρ w a hs _ => .inl ⟨fun v w => hc _ w, ?_⟩⟩
  rw [hv ρ]
  refine (hcall w (hs.now.hp _ _ (mem_hget hg)).1).mono fun e w' ⟨y, fp', hy, he, hR, hch⟩ => ⟨_, he, _, ρ, hK.2 y fp' hy, (hs.pred hg hch hR (hst y fp')).put hK.1 fun _ ρ' _ => hx y ρ', (by cases d <;> simp [St.put]), fun _ _ => rfl⟩

/-- A call of a function that makes something that is owned. -/
theorem scall_new {f : FuncId} {args : List SV} {d : Option Tmp} {K : St → Prop} {α : Type} (R' : α → List Nat → World → Prop) (vs : List Value) (x : α → SV) (v : α → Value) (φ : α → Prop)
    (hc : ∀ (v : Array Value) w, (callFunc f v).run P w = .ok (.enter f v) w)
    (hcall : ∀ w, Calls P f vs.toArray w fun e w' => ∃ y fp', φ y ∧ e = .returned (v y) ∧ R' y fp' w' ∧ Chg [] fp' w w')
    (hst : ∀ y fp', Stable fp' (R' y fp')) (hok : SV.okL args = true) (hv : ∀ ρ, SV.denL ρ args = vs) (hx : ∀ y ρ, v y = (x y).den ρ) (hK : dOk C.N d ∧ ∀ y fp', φ y → kput K ⟨fr, (nx, .pred fp' (R' y fp')) :: hp, nx + 1⟩ d (x y)) :
    SCall P C f args d K ⟨fr, hp, nx⟩ := by
  refine ⟨hok, fun ρ w a hs _ => .inl ⟨fun v w => hc _ w, ?_⟩⟩
  rw [hv ρ]
  refine (hcall w).mono fun e w' ⟨y, fp', hy, he, hR, hch⟩ => ?_
  have hb : Below w.heap.size w w' := ⟨hch.keeps.os, hch.keeps.tape, hch.keeps.output, hch.keeps.size, fun k hk => hch.keeps.block k hk (by simp)⟩
  have h1 := (hs.below hb).add (.pred fp' (R' y fp')) ⟨0, 0, 0⟩ fp' (fun ρ' hρ hn => ⟨hR, hst y fp', hch.nodup, fun k hk => ⟨(hch.sub k hk).2, .inl (Nat.le_trans hs.now.keeps.size (by have := (hch.sub k hk).1; simpa using this))⟩⟩)
    (fun ρ' hn => rfl) (fun k hk hm => by
      have := (hs.now.foot_lt hm).1
      have h2 := (hch.sub k hk).1
      simp at h2; omega) hch.nodup
  exact ⟨_, he, _, _, hK.2 y fp' hy, h1.put hK.1 fun _ ρ' _ => hx y ρ', (by cases d <;> simp [St.put]), fun k hk => by simp [envSet, Nat.ne_of_lt hk]⟩

theorem hrem_n {n : Nat} : hrem [] n = [] := (rfl)
theorem hrem_c {n m : Nat} {b : Blk} {r : List (Nat × Blk)} : hrem ((m, b) :: r) n = if m = n then hrem r n else (m, b) :: hrem r n := (rfl)
theorem rowRd_r {t e m c : Nat} {r : Nat → List CV} : rowRd (some (.rows t e m c r)) = some (e, m, r) := (rfl)
theorem rowRd_i {e m : Nat} {r : Nat → List CV} : rowRd (some (.imm e m r)) = some (e, m, r) := (rfl)
attribute [go_sem] hrem_n hrem_c rowRd_r rowRd_i
end
end Go.Sx
