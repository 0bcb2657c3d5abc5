/-
  A piece of code that only reads; states made alike behind a piece of code; a block that was made, owned by what is so of it. Conditions: none.
-/
import Derived.Test.YtbdffcgbleiiaaaSx18
set_option linter.unusedVariables false
namespace Go.Sx
open Go.RowKit
section
variable {P : Program} {C : Cx} {fr : List (Nat × SV)} {hp : List (Nat × Blk)} {nx : Nat}

/-- Behind a piece of code: a state that follows from the one that is. -/
def entQ (C : Cx) (Q : Exit → St → Prop) (e : Exit) (st : St) : Prop := ∃ st', Ent C st st' ∧ Q e st'
theorem SCode_post {c : Code} {Q : Exit → St → Prop} {st : St} (h : SCode P C c (entQ C Q) st) : SCode P C c Q st := fun ρ a w hs => by
  refine Code.wp_mono (fun e a' w' he => ?_) (h ρ a w hs)
  unfold QQ at he ⊢
  split at he
  · exact he
  · exact he
  · obtain ⟨st1, ρ1, ⟨st2, h2, h3⟩, h4, h5⟩ := he
    obtain ⟨ρ2, h6, h7⟩ := h2 ρ1 a' w' h4
    exact ⟨st2, ρ2, h3, h6, fun k hk => (h7 k hk).trans (h5 k hk)⟩

theorem frBl_lk {n : Nat} : ∀ {fr : List (Nat × SV)}, frBl n fr → ∀ t, (lk fr t).ok = true → (lk fr t).bl n
  | [], _, t, h => by cases h
  | (a, x) :: r, hb, t, h => by
    simp only [lk] at h ⊢
    cases hq : Nat.beq a t with
    | true => exact hb.1
    | false => rw [hq] at h; exact frBl_lk hb.2 t h
theorem den_bl {x : SV} {n : Nat} (hb : x.bl n) {ρ ρ' : Env} (h : ∀ k, k < n → ρ' k = ρ k) : x.den ρ' = x.den ρ := by
  have := SV.den_rn id n ρ ρ' h x hb
  rw [SV.rn_id] at this
  exact this.symm

/-- What only reads: walked with all memory as it is. -/
theorem scode_reads {c : Code} {Q : Exit → St → Prop} {fr1 : List (Nat × SV)} {hp1 : List (Nat × Blk)} {nx1 : Nat}
    (hsec : ∀ ρ a w, Sat C ⟨fr, hp, nx⟩ ρ a w → ∃ ρ' : Env, (∀ k, k < nx → ρ' k = ρ k) ∧ Sat ⟨w, fun _ => False, C.N, nx, ρ'⟩ ⟨fr1, hp1, nx1⟩ ρ' a w)
    (h : ∀ w ρ', SCode P ⟨w, fun _ => False, C.N, nx, ρ'⟩ c (fun e st => ∃ fr', frSub st.fr fr' ∧ frBl nx fr' ∧ Q e ⟨fr', hp, nx⟩) ⟨fr1, hp1, nx1⟩) : SCode P C c Q ⟨fr, hp, nx⟩ := fun ρ a w hs => by
  obtain ⟨ρ', h1, h2⟩ := hsec ρ a w hs
  refine Code.wp_mono (fun e a' w' he => ?_) (h w ρ' ρ' a w h2)
  unfold QQ at he ⊢
  split at he
  · exact he
  · exact he
  · obtain ⟨st1, ρ1, ⟨fr', g1, g2, g3⟩, h4, h5⟩ := he
    have key : Sat C ⟨fr', hp, nx⟩ ρ a' w' := fun ρ2 hρ2 => by
      have h0 := (hs.below h4.grown) ρ2 hρ2
      refine ⟨fun t ht => ?_, h4.now.defers, ⟨h4.now.size.1, h0.size.2⟩, h0.keeps, h0.hp, h0.nodup, h0.names, h0.once, h0.n0le⟩
      have e1 := frSub_lk g1 t ht
      have e2 := h4.now.fr t (by rw [e1]; exact ht)
      rw [e2, e1]
      refine (den_bl (frBl_lk g2 t ht) fun k hk => ?_).symm
      rw [hρ2 k hk, h5 k hk, h1 k hk]
    exact ⟨_, ρ, g3, key, fun _ _ => rfl⟩

/-- The slots, the pointer to block 'n' as a value. -/
def ptrSV (n g : Nat) : SV → SV
  | .c (.p m 0 0) => bif Nat.beq m n then .c (.v (.pointer (some ⟨g, 0, none⟩))) else .c (.p m 0 0)
  | x => x
def ptrFr (n g : Nat) : List (Nat × SV) → List (Nat × SV)
  | [] => []
  | (t, x) :: r => (t, ptrSV n g x) :: ptrFr n g r
theorem ptrFr_lk (n g t : Nat) : ∀ fr : List (Nat × SV), lk (ptrFr n g fr) t = ptrSV n g (lk fr t)
  | [] => rfl
  | (a, x) :: r => by
    simp only [ptrFr, lk]
    cases Nat.beq a t
    · exact ptrFr_lk n g t r
    · rfl
theorem ptrSV_den {n : Nat} {ρ : Env} (hb : (ρ n).base = 0) : ∀ x : SV, (ptrSV n (ρ n).blk x).den ρ = x.den ρ ∧ (ptrSV n (ρ n).blk x).ok = x.ok := fun x => by
  unfold ptrSV
  split
  · rename_i m
    cases hq : Nat.beq m n with
    | true =>
      have := Nat.eq_of_beq_eq_true hq; subst this
      simp [SV.den, CV.den, hb, SV.ok]
    | false => exact ⟨rfl, rfl⟩
  · exact ⟨rfl, rfl⟩
theorem Sat.own_of {a : Act} {ρ : Env} {w : World} (hs : Sat C ⟨fr, hp, nx⟩ ρ a w) (n : Nat) {b : Blk} (R : World → Prop) (hg : hget hp n = some b) (hf : ∀ ρ' : Env, ρ' n = ρ n → b.foot ρ' n = [(ρ n).blk]) (hb : b.holds C ρ n w → (ρ n).base = 0 ∧ R w) (hst : Stable [(ρ n).blk] R) : Sat C ⟨ptrFr n (ρ n).blk fr, hset hp n (.pred [(ρ n).blk] R), nx⟩ ρ a w := by
  have hh := hs.now.hp _ _ (mem_hget hg)
  obtain ⟨hb0, hR⟩ := hb hh
  have hn : n < nx := hs.now.names _ _ (mem_hget hg)
  have hlt := Blk.foot_lt hh (ρ n).blk (by rw [hf ρ rfl]; simp)
  have hk := hs.now.keeps
  have h1 := Sat.set hs (b := n) (old := b) (new := .pred [(ρ n).blk] R) hg (w' := w) hk (Nat.le_refl _) (fun _ _ _ _ => rfl)
    (fun ρ' hρ => ⟨by rw [hf ρ' (hρ n hn)]; rfl, hR, hst, by simp, fun k hk => by simp at hk; subst hk; exact hlt⟩)
  intro ρ' hρ
  have h0 := h1 ρ' hρ
  refine ⟨fun t ht => ?_, h0.defers, h0.size, h0.keeps, h0.hp, h0.nodup, h0.names, h0.once, h0.n0le⟩
  have hbase : (ρ' n).base = 0 := by rw [hρ n hn]; exact hb0
  have hp := ptrSV_den hbase (lk fr t)
  rw [hρ n hn] at hp
  show _ = (lk (ptrFr n (ρ n).blk fr) t).den ρ'
  rw [ptrFr_lk] at *
  rw [hp.1]
  exact h0.fr t (by rw [← hp.2]; exact ht)
/-- A block that was made is owned by what is so of it. -/
theorem scall_own {f : FuncId} {args : List SV} {d : Option Tmp} {K : St → Prop} (n : Nat) {b : Blk} (R : Nat → World → Prop) (hg : hget hp n = some b) (hf : ∀ ρ : Env, b.foot ρ n = [(ρ n).blk]) (hb : ∀ ρ w, b.holds C ρ n w → (ρ n).base = 0 ∧ R (ρ n).blk w) (hst : ∀ g, Stable [g] (R g))
    (h : ∀ g, SCall P C f args d K ⟨ptrFr n g fr, hset hp n (.pred [g] (R g)), nx⟩) : SCall P C f args d K ⟨fr, hp, nx⟩ := by
  refine ⟨(h 0).1, fun ρ w a hs hv => ?_⟩
  exact (h (ρ n).blk).2 ρ w a (hs.own_of n (R (ρ n).blk) hg (fun ρ' e => by rw [hf ρ', e]) (hb ρ w) (hst _)) hv
/-- A call, in a state of which fewer is told. -/
theorem scall_drop {f : FuncId} {args : List SV} {d : Option Tmp} {K : St → Prop} {fr' : List (Nat × SV)} {hp' : List (Nat × Blk)} (h1 : frSub fr fr') (h2 : hpSub hp hp') (h3 : (hp'.map (·.1)).Nodup) (h : SCall P C f args d K ⟨fr', hp', nx⟩) : SCall P C f args d K ⟨fr, hp, nx⟩ := by
  refine ⟨h.1, fun ρ w a hs hv => h.2 ρ w a (fun ρ' hρ => ?_) hv⟩
  have h0 := hs ρ' hρ
  refine ⟨fun t ht => ?_, h0.defers, h0.size, h0.keeps, fun m b hm => h0.hp m b (mem_hget (hpSub_mem h2 m b hm)), sub_nodup h0.nodup _ (fun x hx => mem_hget (hpSub_mem h2 x.1 x.2 hx)) h3, fun m b hm => h0.names m b (mem_hget (hpSub_mem h2 m b hm)), h3, h0.n0le⟩
  have := frSub_lk h1 t ht
  rw [h0.fr t (by show (lk fr t).ok = true; rw [this]; exact ht)]
  show (lk fr t).den ρ' = _
  rw [this]
/-- What is so of owned memory may be used. -/
theorem scall_fact {f : FuncId} {args : List SV} {d : Option Tmp} {K : St → Prop} {φ : Prop} {fp : List Nat} {R : World → Prop} (n : Nat) (hg : hget hp n = some (.pred fp R)) (hok : SV.okL args = true) (hR : ∀ w, R w → φ) (h : φ → SCall P C f args d K ⟨fr, hp, nx⟩) : SCall P C f args d K ⟨fr, hp, nx⟩ :=
  ⟨hok, fun ρ w a hs hv => (h (hR w (hs.now.hp _ _ (mem_hget hg)).1)).2 ρ w a hs hv⟩
/-- The slots told anew. -/
def frR (ρ : Env) (fr : List (Nat × SV)) : List (Nat × SV) → Prop
  | [] => True
  | (t, x) :: r => ((lk fr t).ok = true ∧ (lk fr t).den ρ = x.den ρ) ∧ frR ρ fr r
theorem frR_lk {ρ : Env} {fr : List (Nat × SV)} : ∀ {fr1 : List (Nat × SV)}, frR ρ fr fr1 → ∀ t, (lk fr1 t).ok = true → (lk fr t).ok = true ∧ (lk fr t).den ρ = (lk fr1 t).den ρ
  | [], _, t, h => by cases h
  | (a, x) :: r, hh, t, h => by
    simp only [lk] at h ⊢
    cases hb : Nat.beq a t with
    | true => have := Nat.eq_of_beq_eq_true hb; subst this; exact hh.1
    | false => rw [hb] at h; exact frR_lk hh.2 t h
def allImm : List (Nat × Blk) → Bool
  | [] => true
  | (_, .imm ..) :: r => allImm r
  | _ => false
theorem allImm_foot (ρ : Env) : ∀ {hp : List (Nat × Blk)}, allImm hp = true → footL ρ hp = []
  | [], _ => rfl
  | (n, b) :: r, h => by
    cases b <;> simp only [allImm] at h <;> first | (cases h; done) | skip
    simp only [footL, Blk.foot, List.nil_append]
    exact allImm_foot ρ h
theorem Sat.reads {ρ : Env} {a : Act} {w : World} (hs : Sat C ⟨fr, hp, nx⟩ ρ a w) {fr1 : List (Nat × SV)} {hp1 : List (Nat × Blk)} {nx1 : Nat} (ρ' : Env) (hρ : ∀ k, k < nx → ρ' k = ρ k) (hn : nx ≤ nx1)
    (hfr : ∀ ρ2 : Env, (∀ k, k < nx1 → ρ2 k = ρ' k) → frR ρ2 fr fr1) (him : allImm hp1 = true) (hone : (hp1.map (·.1)).Nodup) (hnm : ∀ n b, (n, b) ∈ hp1 → n < nx1)
    (hh : ∀ ρ2 : Env, (∀ k, k < nx1 → ρ2 k = ρ' k) → HpOk C ρ2 w hp → HpOk ⟨w, fun _ => False, C.N, nx, ρ'⟩ ρ2 w hp1) : Sat ⟨w, fun _ => False, C.N, nx, ρ'⟩ ⟨fr1, hp1, nx1⟩ ρ' a w := fun ρ2 hρ2 => by
  have hρ2' : ∀ k, k < nx → ρ2 k = ρ k := fun k hk => by rw [hρ2 k (by show k < nx1; omega), hρ k hk]
  have h0 := hs ρ2 hρ2'
  refine ⟨fun t ht => ?_, h0.defers, ⟨h0.size.1, fun k hk => hρ2 k (Nat.lt_of_lt_of_le hk hn)⟩, Keeps.refl _ _, hh ρ2 hρ2 h0.hp, by rw [allImm_foot ρ2 him]; exact List.nodup_nil, hnm, hone, hn⟩
  obtain ⟨e1, e2⟩ := frR_lk (hfr ρ2 hρ2) t ht
  rw [← e2]
  exact h0.fr t e1
theorem imm_rows {C' : Cx} {ρ : Env} {w : World} {n ty e m c : Nat} {r : Nat → List CV} (hC : C'.w0 = w ∧ ∀ k, ¬ C'.M k) (h : Blk.holds C ρ n w (.rows ty e m c r)) : Blk.holds C' ρ n w (.imm e m r) := by
  obtain ⟨h1, h2, ⟨arr, h3, h4, h5⟩, h6⟩ := h
  refine ⟨h2, fun i hi => ⟨(h5 i hi).1, fun k hk => ?_⟩, fun _ => ⟨by rw [hC.1]; exact h3.lt, hC.2 _⟩⟩
  rw [h1, h3.cell, Nat.zero_add]
  exact (h5 i hi).2 k hk
theorem ptrFr_n {n g : Nat} : ptrFr n g [] = [] := (rfl)
theorem ptrFr_c {n g t : Nat} {x : SV} {r : List (Nat × SV)} : ptrFr n g ((t, x) :: r) = (t, ptrSV n g x) :: ptrFr n g r := (rfl)
theorem ptrSV_p {n g m : Nat} : ptrSV n g (.c (.p m 0 0)) = if m = n then .c (.v (.pointer (some ⟨g, 0, none⟩))) else .c (.p m 0 0) := by
  simp only [ptrSV, natBeq]
  by_cases h : m = n <;> simp [h]
theorem ptrSV_v {n g : Nat} {x : Value} : ptrSV n g (.c (.v x)) = .c (.v x) := (rfl)
theorem ptrSV_s {n g a b c d : Nat} : ptrSV n g (.c (.s a b c d)) = .c (.s a b c d) := (rfl)
theorem ptrSV_f {n g : Nat} {f : FuncId} {l : List CV} : ptrSV n g (.c (.fn f l)) = .c (.fn f l) := (rfl)
theorem ptrSV_a {n g : Nat} {l : List CV} : ptrSV n g (.agg l) = .agg l := (rfl)
theorem ptrSV_t {n g : Nat} {l : List SV} : ptrSV n g (.tup l) = .tup l := (rfl)
theorem ptrSV_b {n g : Nat} : ptrSV n g .bad = .bad := (rfl)
attribute [go_sem] ptrFr_n ptrFr_c ptrSV_p ptrSV_v ptrSV_s ptrSV_f ptrSV_a ptrSV_t ptrSV_b
end
end Go.Sx
