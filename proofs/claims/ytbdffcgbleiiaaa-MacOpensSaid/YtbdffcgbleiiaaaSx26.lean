/-
  What is owned, where its own function walks: its first block's name stands fast; calls on itself. Conditions: none.
-/
import Derived.Test.YtbdffcgbleiiaaaSx25
set_option linter.unusedVariables false
set_option linter.unusedSimpArgs false
namespace Go.Sx
open Go.RowKit
section
variable {P : Program} {C : Cx} {fr : List (Nat × SV)} {hp : List (Nat × Blk)} {nx : Nat}

/-- Its first block is one of cells. -/
def Cell0 (Sh : Nat → List (Nat × Blk) → Prop) : Prop := ∀ nx hp, Sh nx hp → ∃ ty cs, hget hp 0 = some (.cells ty cs)
/-- The walk of a function on what is owned; the name of its first block stands fast. -/
theorem on_calls3 {f : FuncId} {fn : Func} {c : Code} {args : Array Value} {w : World} {R : Ending → World → Prop} {g : Nat} {Sh : Nat → List (Nat × Blk) → Prop} {fp : List Nat} (ho : On g Sh fp w) (hcell : Cell0 Sh) (n : Nat) (rs : List ResultVar) (hf : P.funcs[f]? = some fn) (hb : fn.body = some c) (hn : fn.ntmps = n) (hr : fn.results = rs.toArray)
    (xs : List SV) (hl : xs.length ≤ n) (ha : ∀ ρ' : Env, ρ' 0 = ⟨g, 0, 1⟩ → args.toList = SV.denL ρ' xs)
    (h : ∀ ρ nx hp, Sh nx hp → ρ 0 = ⟨g, 0, 1⟩ ∧ 0 < nx → X P ⟨w, (· ∈ fp), n, nx, ρ⟩ c (retQ P ⟨w, (· ∈ fp), n, nx, ρ⟩ rs R) ⟨frOf 0 xs, hp, nx⟩) : Calls P f args w R := by
  obtain ⟨ρ, nx, hp, h1, h2, h3, h4, h5, h6, h7, h8⟩ := ho
  obtain ⟨ty, cs, hc⟩ := hcell _ _ h1
  have he := (h2 _ _ (mem_hget hc)).2.2.2
  have h10 : ρ 0 = ⟨g, 0, 1⟩ := by
    have : ρ 0 = ⟨(ρ 0).blk, (ρ 0).base, (ρ 0).esz⟩ := rfl
    rw [this, h6, h7, he]
  have hfoot : ∀ ρ' : Env, (∀ k, k < nx → ρ' k = ρ k) → ∀ l : List (Nat × Blk), (∀ x, x ∈ l → x ∈ hp) → footL ρ' l = footL ρ l := fun ρ' hρ l => by
    induction l with
    | nil => intro _; rfl
    | cons x r ih =>
      obtain ⟨m, b⟩ := x
      intro hs
      have hm := (h2 m b (hs _ (by simp))).1.1
      simp only [footL]
      rw [ih fun x hx => hs x (by simp [hx])]
      congr 1
      cases b <;> simp [Blk.foot, hρ m hm]
  refine calls_of (· ∈ fp) n rs hf hb hn hr xs hp nx ρ hl (fun ρ' hρ => ha ρ' (by rw [hρ 0 h8]; exact h10)) (fun ρ' hρ => ⟨fun m b hm => ?_, ?_⟩) (fun m b hm => (h2 m b hm).1.1) h3 (h ρ nx hp h1 ⟨h10, h8⟩)
  · obtain ⟨⟨hm1, hm2⟩, hm3⟩ := h2 m b hm
    refine Blk.holds_of_lies (Blk.lies_env hm2 hm1 hρ hm3) fun k hk => .inr ?_
    show k ∈ fp
    rw [← h4, ← hfoot ρ' hρ hp fun _ h => h]
    exact foot_mem hm hk
  · rw [hfoot ρ' hρ hp fun _ h => h, h4]; exact h5
/-- A call on itself: what is owned is closed, and opened again behind it. -/
theorem scall_self {f : FuncId} {args : List SV} {d : Option Tmp} {K : St → Prop} {g : Nat} {Sh Sh' : Nat → List (Nat × Blk) → Prop} {v : Value} (fs : Nat → Nat) (nx' : Nat) (hp' : List (Nat × Blk)) (vs : List Value) (x : SV)
    (hpin : 0 < C.n0 ∧ C.ρ0 0 = ⟨g, 0, 1⟩) (hc : ∀ (v : Array Value) w, (callFunc f v).run P w = .ok (.enter f v) w) (hcall : ∀ fp w, On g Sh fp w → Calls P f vs.toArray w (Turn g fp v Sh' w)) (hcell : Cell0 Sh')
    (he : hpEnt fs nx' hp hp') (h1 : (hp'.map fun x => fs x.1).Nodup) (h2 : hp'.all (fun x => x.2.solid) = true) (hsh : Sh nx' hp') {b0 : Blk} (hb0 : (0, b0) ∈ hp') (hbb : b0.based = true) (h0 : 0 < nx') (hf0 : fs 0 = 0)
    (hok : SV.okL args = true) (hv : ∀ ρ : Env, ρ 0 = ⟨g, 0, 1⟩ → SV.denL ρ args = vs) (hx : ∀ ρ, v = x.den ρ) (hd : dkB C.N d = true)
    (hK : ∀ nx2 hp2, Sh' nx2 hp2 → kput K ⟨fr, renL (fun k => if k = 0 then 0 else nx + k) hp2 ++ hremL hp (hp'.map fun x => fs x.1), nx + nx2⟩ d x) : SCall P C f args d K ⟨fr, hp, nx⟩ := by
  refine ⟨hok, fun ρ w a hs _ => .inl ⟨fun v w => hc _ w, ?_⟩⟩
  have hρ0 : ρ 0 = ⟨g, 0, 1⟩ := (hs.now.size.2 0 hpin.1).trans hpin.2
  rw [hv ρ hρ0]
  obtain ⟨_, fp', hs1⟩ := hs.close_ fs he h1 h2 hsh hb0 hbb h0 [] (fun t h => by cases h)
  have hgb : (ρ (fs 0)).blk = g := by rw [hf0, hρ0]
  rw [hgb, hf0] at hs1
  have hg : hget ((0, Blk.pred fp' (On g Sh fp')) :: hremL hp (hp'.map fun x => fs x.1)) 0 = some (.pred fp' (On g Sh fp')) := rfl
  refine (hcall fp' w (hs1.now.hp _ _ (mem_hget hg)).1).mono fun e w' ⟨fp2, he, hR, hch⟩ => ⟨_, he, ?_⟩
  have hs2 := hs1.pred hg hch hR On.stable
  have hg2 : hget (hset ((0, Blk.pred fp' (On g Sh fp')) :: hremL hp (hp'.map fun x => fs x.1)) 0 (.pred fp2 (On g Sh' fp2))) 0 = some (.pred fp2 (On g Sh' fp2)) := rfl
  obtain ⟨nx2, hp2, ρ2, q1, q2, q3⟩ := hs2.openAt hg2 hpin hcell
  have hrr : ∀ (l : List (Nat × Blk)), hrem ((0, Blk.pred fp2 (On g Sh' fp2)) :: l) 0 = hrem l 0 := fun l => by simp [hrem]
  have hro : ∀ (l : List Nat) (h : List (Nat × Blk)), (∀ x, x ∈ h → x.1 ≠ 0) → hrem h 0 = h := fun _ h => by
    induction h with
    | nil => intro _; rfl
    | cons x r ih =>
      intro hn
      obtain ⟨m, b⟩ := x
      simp only [hrem]
      rw [if_neg (hn (m, b) (by simp)), ih fun y hy => hn y (by simp [hy])]
  have hst : hrem (hset ((0, Blk.pred fp' (On g Sh fp')) :: hremL hp (hp'.map fun x => fs x.1)) 0 (.pred fp2 (On g Sh' fp2))) 0 = hremL hp (hp'.map fun x => fs x.1) := by
    show hrem ((0, Blk.pred fp2 (On g Sh' fp2)) :: hremL hp (hp'.map fun x => fs x.1)) 0 = _
    rw [hrr]
    refine hro [] _ fun x hx e => ?_
    have := (hremL_mem (m := x.1) (b := x.2) hx).2
    rw [e] at this
    exact this (List.mem_map.2 ⟨(0, b0), hb0, hf0⟩)
  rw [hst] at q3
  exact ⟨_, ρ2, hK nx2 hp2 q1, q3.put (dk_of hd) fun _ ρ' _ => hx ρ', by cases d <;> simp [St.put], q2⟩
end
end Go.Sx
