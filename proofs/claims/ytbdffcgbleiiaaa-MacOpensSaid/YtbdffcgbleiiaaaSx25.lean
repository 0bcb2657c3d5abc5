/-
  What is owned is opened in the midst of a walk, and closed again. Conditions: none.
-/
import Derived.Test.YtbdffcgbleiiaaaSx24
set_option linter.unusedVariables false
set_option linter.unusedSimpArgs false
namespace Go.Sx
open Go.RowKit
section
variable {P : Program} {C : Cx} {fr : List (Nat × SV)} {hp : List (Nat × Blk)} {nx : Nat}

def hremL (hp : List (Nat × Blk)) : List Nat → List (Nat × Blk)
  | [] => hp
  | n :: r => hremL (hrem hp n) r
/-- Some slots hold 'x'. -/
def ptsC (x : SV) : List Nat → List (Nat × SV) → List (Nat × SV)
  | [], fr => fr
  | t :: r, fr => (t, x) :: ptsC x r fr
theorem ptsC_lk {x : SV} {t : Nat} : ∀ {ts : List Nat} {fr : List (Nat × SV)}, (t ∈ ts ∧ lk (ptsC x ts fr) t = x) ∨ lk (ptsC x ts fr) t = lk fr t
  | [], fr => .inr rfl
  | s :: r, fr => by
    simp only [ptsC, lk]
    cases hb : Nat.beq s t with
    | true => exact .inl ⟨by rw [Nat.eq_of_beq_eq_true hb]; simp, rfl⟩
    | false =>
      rcases ptsC_lk (x := x) (t := t) (ts := r) (fr := fr) with h | h
      · exact .inl ⟨List.mem_cons_of_mem _ h.1, h.2⟩
      · exact .inr h
theorem lies_shift {f : Nat → Nat} {n m : Nat} {ρ ρ' : Env} {w : World} {b : Blk} (h : ∀ j, j < n → ρ' (f j) = ρ j) (hm : m < n) (hb : b.bl n) (hl : b.lies ρ m w) : (b.rn f).lies ρ' (f m) w := by
  have e := h m hm
  have hr : ∀ k, k < n → ρ k = ρ' (f k) := fun k hk => (h k hk).symm
  cases b with
  | cells ty cs =>
    obtain ⟨g0, g1, g2⟩ := hl
    refine ⟨by rw [e]; exact g0, ?_, by rw [e]; exact g2⟩
    rw [e, g1, ← CV.denL_eq, ← CV.denL_eq, CV.denL_rn f n ρ' ρ hr cs hb]
  | rows ty es k c r =>
    obtain ⟨g0, g1, arr, g2, gc, g3⟩ := hl
    refine ⟨by rw [e]; exact g0, by rw [e]; exact g1, arr, by rw [e]; exact g2, gc, fun i hi => ?_⟩
    obtain ⟨q1, q2⟩ := g3 i hi
    refine ⟨by simpa [CV.rnL_eq] using q1, fun j hj => ?_⟩
    rw [q2 j hj]
    have := CV.denL_rn f n ρ' ρ hr (r i) (hb i hi)
    rw [CV.denL_eq, CV.denL_eq] at this
    rw [← List.getElem?_map, ← List.getElem?_map, this]
  | imm => exact hl.elim
  | obj o => obtain ⟨g0, g1⟩ := hl; exact ⟨by rw [e]; exact g0, by rw [e]; exact g1⟩
  | pred fp R => exact hl
theorem foot_app (ρ : Env) : ∀ a b : List (Nat × Blk), footL ρ (a ++ b) = footL ρ a ++ footL ρ b
  | [], b => rfl
  | (m, x) :: r, b => by simp only [List.cons_append, footL, foot_app ρ r b, List.append_assoc]

theorem inj_nodup {f : Nat → Nat} (hf : ∀ x y, f x = f y → x = y) : ∀ {l : List Nat}, l.Nodup → (l.map f).Nodup
  | [], _ => by simp
  | x :: r, h => by
    simp only [List.map_cons, List.nodup_cons] at h ⊢
    refine ⟨fun hx => ?_, inj_nodup hf h.2⟩
    obtain ⟨y, hy, he⟩ := List.mem_map.1 hx
    rw [hf _ _ he] at hy
    exact h.1 hy
/-- Blocks named anew. -/
def renL (f : Nat → Nat) : List (Nat × Blk) → List (Nat × Blk)
  | [] => []
  | (m, b) :: r => (f m, b.rn f) :: renL f r
theorem renL_mem {f : Nat → Nat} : ∀ {hp : List (Nat × Blk)} {n : Nat} {b : Blk}, (n, b) ∈ renL f hp → ∃ m b0, (m, b0) ∈ hp ∧ n = f m ∧ b = b0.rn f
  | [], n, b, h => by cases h
  | (m, c) :: r, n, b, h => by
    rcases List.mem_cons.1 h with h | h
    · injection h with h1 h2; exact ⟨m, c, by simp, h1, h2⟩
    · obtain ⟨m', b0, h1, h2⟩ := renL_mem h
      exact ⟨m', b0, List.mem_cons_of_mem _ h1, h2⟩
theorem renL_names (f : Nat → Nat) : ∀ hp : List (Nat × Blk), (renL f hp).map (·.1) = (hp.map (·.1)).map f
  | [] => rfl
  | (m, b) :: r => by simp only [renL, List.map_cons, renL_names f r]
theorem foot_ren {f : Nat → Nat} {ρ ρ' : Env} {n : Nat} (h : ∀ j, j < n → ρ' (f j) = ρ j) : ∀ {hp : List (Nat × Blk)}, (∀ m b, (m, b) ∈ hp → m < n) → footL ρ' (renL f hp) = footL ρ hp
  | [], _ => rfl
  | (m, b) :: r, hn => by
    simp only [renL, footL]
    rw [foot_ren h fun m b hm => hn m b (List.mem_cons_of_mem _ hm)]
    have hm := hn m b (by simp)
    congr 1
    cases b <;> simp [Blk.foot, Blk.rn, h m hm]
theorem on_nodup {f : Nat → Nat} {n : Nat} (hf : ∀ x y, x < n → y < n → f x = f y → x = y) : ∀ {l : List Nat}, (∀ x, x ∈ l → x < n) → l.Nodup → (l.map f).Nodup
  | [], _, _ => by simp
  | x :: r, hn, h => by
    simp only [List.map_cons, List.nodup_cons] at h ⊢
    refine ⟨fun hx => ?_, on_nodup hf (fun y hy => hn y (by simp [hy])) h.2⟩
    obtain ⟨y, hy, he⟩ := List.mem_map.1 hx
    rw [hf _ _ (hn y (by simp [hy])) (hn x (by simp)) he] at hy
    exact h.1 hy
/-- What is owned, opened: its blocks get names by 'f'. -/
theorem Sat.openG {ρ : Env} {a : Act} {w : World} (hs : Sat C ⟨fr, hp, nx⟩ ρ a w) (n : Nat) {fp : List Nat} {R : World → Prop} (hg : hget hp n = some (.pred fp R)) {ρ1 : Env} {nx1 : Nat} {hp1 : List (Nat × Blk)} (h2 : ∀ n b, (n, b) ∈ hp1 → (n < nx1 ∧ b.bl nx1) ∧ b.lies ρ1 n w) (h3 : (hp1.map (·.1)).Nodup) (h4 : footL ρ1 hp1 = fp) (h5 : fp.Nodup)
    (f : Nat → Nat) (ρ' : Env) (hag : ∀ k, k < nx → ρ' k = ρ k) (hfe : ∀ j, j < nx1 → ρ' (f j) = ρ1 j) (hfl : ∀ j, j < nx1 → f j < nx + nx1) (hfi : ∀ x y, x < nx1 → y < nx1 → f x = f y → x = y) (hfn : ∀ j, j < nx1 → f j < nx → f j = n)
    (fr' : List (Nat × SV)) (hfr : ∀ ρ2 : Env, (∀ k, k < nx + nx1 → ρ2 k = ρ' k) → ∀ t, (lk fr' t).ok = true → (lk fr t).ok = true ∧ (lk fr t).den ρ2 = (lk fr' t).den ρ2) :
    Sat C ⟨fr', renL f hp1 ++ hrem hp n, nx + nx1⟩ ρ' a w := by
  obtain ⟨_, _, _, hown⟩ := hs.now.hp _ _ (mem_hget hg)
  intro ρ2 hρ2
  have hρ2 : ∀ k, k < nx + nx1 → ρ2 k = ρ' k := hρ2
  have hlo : ∀ k, k < nx → ρ2 k = ρ k := fun k hk => by rw [hρ2 k (by omega), hag k hk]
  have hhi : ∀ k, k < nx1 → ρ2 (f k) = ρ1 k := fun k hk => by rw [hρ2 _ (hfl k hk), hfe k hk]
  have h0 := hs ρ2 hlo
  have hnm : ∀ m b, (m, b) ∈ hp1 → m < nx1 := fun m b hm => (h2 m b hm).1.1
  have hft : footL ρ2 (renL f hp1) = fp := by rw [foot_ren hhi hnm, h4]
  refine ⟨fun t htt => ?_, h0.defers, h0.size, h0.keeps, fun m b hm => ?_, ?_, fun m b hm => ?_, ?_, Nat.le_trans h0.n0le (Nat.le_add_right _ _)⟩
  · obtain ⟨e1, e2⟩ := hfr ρ2 hρ2 t htt
    rw [← e2]; exact h0.fr t e1
  · rcases List.mem_append.1 hm with hm | hm
    · obtain ⟨m0, b0, q1, q2, q3⟩ := renL_mem hm
      subst q2; subst q3
      obtain ⟨⟨g1, g2⟩, g3⟩ := h2 _ _ q1
      refine Blk.holds_of_lies (lies_shift (f := f) hhi g1 g2 g3) fun k hk => ?_
      refine (hown k ?_).2
      rw [← hft]
      exact foot_mem hm hk
    · exact h0.hp _ _ (hrem_mem hm).1
  · rw [foot_app, hft, List.nodup_append]
    refine ⟨h5, sub_nodup h0.nodup _ (fun x hx => (hrem_mem (n := n) (m := x.1) (b := x.2) hx).1) (hrem_once _ _ h0.once), fun k hk j hj hkj => ?_⟩
    subst hkj
    obtain ⟨m, b, hm, hk2⟩ := footL_out hj
    obtain ⟨hm1, hm2⟩ := hrem_mem hm
    exact foot_disj h0.nodup (mem_hget hg) hm1 (fun e => hm2 e.symm) hk hk2
  · rcases List.mem_append.1 hm with hm | hm
    · obtain ⟨m0, b0, q1, q2, q3⟩ := renL_mem hm
      rw [q2]; exact hfl _ (hnm _ _ q1)
    · have : m < nx := h0.names _ _ (hrem_mem hm).1
      show m < nx + nx1; omega
  · rw [List.map_append, List.nodup_append]
    refine ⟨?_, hrem_once _ _ h0.once, fun k hk j hj hkj => ?_⟩
    · rw [renL_names]
      refine on_nodup hfi (fun x hx => ?_) h3
      obtain ⟨⟨m, b⟩, hm, rfl⟩ := List.mem_map.1 hx
      exact hnm _ _ hm
    · subst hkj
      rw [renL_names, List.map_map] at hk
      obtain ⟨⟨m, b⟩, hm, he⟩ := List.mem_map.1 hk
      obtain ⟨⟨m', b'⟩, hm', he'⟩ := List.mem_map.1 hj
      have h9 : m' < nx := h0.names _ _ (hrem_mem hm').1
      simp only [Function.comp_def] at he he'
      have := hfn m (hnm _ _ hm) (by omega)
      exact (hrem_mem hm').2 (by omega)
theorem Sat.open_ {ρ : Env} {a : Act} {w : World} (hs : Sat C ⟨fr, hp, nx⟩ ρ a w) (n : Nat) {g : Nat} {Sh : Nat → List (Nat × Blk) → Prop} {fp : List Nat} (hg : hget hp n = some (.pred fp (On g Sh fp))) (ts : List Nat) (ht : ∀ t, t ∈ ts → lk fr t = .c (.v (gptr g))) :
    ∃ nx' hp' ρ', Sh nx' hp' ∧ (∀ k, k < nx → ρ' k = ρ k) ∧ Sat C ⟨ptsC (.c (.p nx 0 0)) ts fr, renL (nx + ·) hp' ++ hrem hp n, nx + nx'⟩ ρ' a w := by
  obtain ⟨⟨ρ1, nx1, hp1, h1, h2, h3, h4, h5, h6, h7, h8⟩, _, _, hown⟩ := hs.now.hp _ _ (mem_hget hg)
  have hhi : ∀ k, (fun k => if k < nx then ρ k else ρ1 (k - nx)) (nx + k) = ρ1 k := fun k => by
    show (if nx + k < nx then ρ (nx + k) else ρ1 (nx + k - nx)) = _
    rw [if_neg (by omega), Nat.add_sub_cancel_left]
  refine ⟨nx1, hp1, fun k => if k < nx then ρ k else ρ1 (k - nx), h1, fun k hk => if_pos hk, hs.openG n hg h2 h3 h4 h5 (nx + ·) _ (fun k hk => if_pos hk) (fun k _ => hhi k) (fun j hj => by show nx + j < _; omega) (fun x y _ _ h => by have : nx + x = nx + y := h; omega) (fun j _ h => by have : nx + j < nx := h; omega) _ fun ρ2 hρ2 t htt => ?_⟩
  rcases ptsC_lk (x := .c (.p nx 0 0)) (t := t) (ts := ts) (fr := fr) with ⟨e1, e2⟩ | e2
  · rw [e2, ht t e1]
    have e := hρ2 nx (by omega)
    have e3 := hhi 0
    rw [Nat.add_zero] at e3
    have e := e.trans e3
    refine ⟨rfl, ?_⟩
    simp [SV.den, CV.den, gptr, e, h6, h7]
  · rw [e2] at htt ⊢
    exact ⟨htt, rfl⟩
/-- .. its first block gets the name that stands fast. -/
theorem Sat.openAt {ρ : Env} {a : Act} {w : World} (hs : Sat C ⟨fr, hp, nx⟩ ρ a w) {g : Nat} {Sh : Nat → List (Nat × Blk) → Prop} {fp : List Nat} (hg : hget hp 0 = some (.pred fp (On g Sh fp))) (hpin : 0 < C.n0 ∧ C.ρ0 0 = ⟨g, 0, 1⟩) (hcell : ∀ nx hp, Sh nx hp → ∃ ty cs, hget hp 0 = some (.cells ty cs)) :
    ∃ nx' hp' ρ', Sh nx' hp' ∧ (∀ k, k < nx → ρ' k = ρ k) ∧ Sat C ⟨fr, renL (fun k => if k = 0 then 0 else nx + k) hp' ++ hrem hp 0, nx + nx'⟩ ρ' a w := by
  obtain ⟨⟨ρ1, nx1, hp1, h1, h2, h3, h4, h5, h6, h7, h8⟩, _, _, hown⟩ := hs.now.hp _ _ (mem_hget hg)
  have h0 : ρ 0 = ⟨g, 0, 1⟩ := (hs.now.size.2 0 hpin.1).trans hpin.2
  have hnx : 0 < nx := Nat.lt_of_lt_of_le hpin.1 hs.now.n0le
  obtain ⟨ty, cs, hc⟩ := hcell _ _ h1
  have he := (h2 _ _ (mem_hget hc)).2.2.2
  have h10 : ρ1 0 = ⟨g, 0, 1⟩ := by
    have : ρ1 0 = ⟨(ρ1 0).blk, (ρ1 0).base, (ρ1 0).esz⟩ := rfl
    rw [this, h6, h7, he]
  refine ⟨nx1, hp1, fun k => if k < nx then ρ k else ρ1 (k - nx), h1, fun k hk => if_pos hk, hs.openG 0 hg h2 h3 h4 h5 (fun k => if k = 0 then 0 else nx + k) _ (fun k hk => if_pos hk) (fun k hk => ?_) (fun j hj => ?_) (fun x y hx hy h => ?_) (fun j hj h => ?_) _ fun ρ2 hρ2 t htt => ⟨htt, rfl⟩⟩
  · by_cases hk0 : k = 0
    · subst hk0
      show (if (if 0 = 0 then 0 else nx + 0) < nx then ρ (if 0 = 0 then 0 else nx + 0) else ρ1 ((if 0 = 0 then 0 else nx + 0) - nx)) = _
      rw [if_pos rfl, if_pos hnx, h0, h10]
    · show (if (if k = 0 then 0 else nx + k) < nx then ρ (if k = 0 then 0 else nx + k) else ρ1 ((if k = 0 then 0 else nx + k) - nx)) = _
      rw [if_neg hk0, if_neg (by omega), Nat.add_sub_cancel_left]
  · show (if j = 0 then 0 else nx + j) < _
    split <;> omega
  · have h : (if x = 0 then 0 else nx + x) = if y = 0 then 0 else nx + y := h
    split at h <;> split at h <;> omega
  · have h : (if j = 0 then 0 else nx + j) < nx := h
    show (if j = 0 then 0 else nx + j) = 0
    by_cases hj0 : j = 0
    · exact if_pos hj0
    · rw [if_neg hj0] at h; omega

theorem hremL_mem : ∀ {l : List Nat} {hp : List (Nat × Blk)} {m : Nat} {b : Blk}, (m, b) ∈ hremL hp l → (m, b) ∈ hp ∧ m ∉ l
  | [], hp, m, b, h => ⟨h, by simp⟩
  | n :: r, hp, m, b, h => by
    obtain ⟨h1, h2⟩ := hremL_mem (l := r) h
    obtain ⟨h3, h4⟩ := hrem_mem h1
    exact ⟨h3, by simp [h4, h2]⟩
theorem hremL_once : ∀ (l : List Nat) (hp : List (Nat × Blk)), (hp.map (·.1)).Nodup → ((hremL hp l).map (·.1)).Nodup
  | [], hp, h => h
  | n :: r, hp, h => hremL_once r _ (hrem_once _ _ h)
/-- Blocks that begin where they lie. -/
def Blk.based : Blk → Bool
  | .cells .. => true
  | .rows .. => true
  | .obj .. => true
  | _ => false
theorem based_of {ρ : Env} {w : World} {n : Nat} {b : Blk} (h : b.holds C ρ n w) (hb : b.based = true) : (ρ n).base = 0 := by
  cases b with
  | cells => exact h.1
  | rows => exact h.1
  | obj => exact h.1
  | imm => cases hb
  | pred => cases hb
theorem Sat.close_ {ρ : Env} {a : Act} {w : World} (hs : Sat C ⟨fr, hp, nx⟩ ρ a w) {Sh : Nat → List (Nat × Blk) → Prop} (f : Nat → Nat) {nx' : Nat} {hp' : List (Nat × Blk)} (he : hpEnt f nx' hp hp') (h1 : (hp'.map fun x => f x.1).Nodup) (h2 : hp'.all (fun x => x.2.solid) = true) (hsh : Sh nx' hp') {b0 : Blk}
    (hb0 : (0, b0) ∈ hp') (hbb : b0.based = true) (h0 : 0 < nx') (ts : List Nat) (ht : ∀ t, t ∈ ts → lk fr t = .c (.p (f 0) 0 0)) :
    (ρ (f 0)).base = 0 ∧ ∃ fp', Sat C ⟨ptsC (.c (.v (gptr (ρ (f 0)).blk))) ts fr, (f 0, .pred fp' (On (ρ (f 0)).blk Sh fp')) :: hremL hp (hp'.map fun x => f x.1), nx⟩ ρ a w := by
  have hm := hpEnt_mem he
  have hfoot : ∀ l : List (Nat × Blk), (∀ x, x ∈ l → x ∈ hp') → footL (fun k => ρ (f k)) l = footL ρ (l.map fun x => (f x.1, x.2.rn f)) := fun l => by
    induction l with
    | nil => intro _; rfl
    | cons x r ih =>
      obtain ⟨m, b⟩ := x
      intro hs'
      obtain ⟨q1, q2, q3⟩ := hm m b (hs' _ (by simp))
      simp only [footL, List.map_cons]
      rw [ih fun x hx => hs' x (by simp [hx])]
      congr 1
      exact foot_rn (ρ := ρ) (ρ' := fun k => ρ (f k)) (f := f) (n := nx') (fun k _ => rfl) q1 b
  have hsub : ∀ x, x ∈ hp'.map (fun x => (f x.1, x.2.rn f)) → x ∈ hp := fun x hx => by
    obtain ⟨⟨m, b⟩, hx2, he2⟩ := List.mem_map.1 hx
    rw [← he2]
    exact mem_hget (hm m b hx2).2.2
  have hnd : (footL (fun k => ρ (f k)) hp').Nodup := by
    rw [hfoot hp' fun _ h => h]
    exact sub_nodup hs.now.nodup _ hsub (by simpa [List.map_map, Function.comp_def] using h1)
  have hlies : ∀ n b, (n, b) ∈ hp' → (n < nx' ∧ b.bl nx') ∧ b.lies (fun k => ρ (f k)) n w := fun n b hx => by
    obtain ⟨q1, q2, q3⟩ := hm n b hx
    have hh := hs.now.hp _ _ (mem_hget q3)
    refine ⟨⟨q1, q2⟩, Blk.lies_of_holds (Blk.holds_rn (ρ' := fun k => ρ (f k)) (fun k _ => rfl) q1 q2 hh) ?_⟩
    exact List.all_eq_true.1 h2 _ hx
  have hbase : (ρ (f 0)).base = 0 := by
    obtain ⟨q1, q2, q3⟩ := hm _ _ hb0
    have hh := hs.now.hp _ _ (mem_hget q3)
    refine based_of hh ?_
    cases b0 <;> first | rfl | cases hbb
  have on : On (ρ (f 0)).blk Sh (footL (fun k => ρ (f k)) hp') w := ⟨fun k => ρ (f k), nx', hp', hsh, hlies, nodup_map (fun x => f x) _ (by simpa [List.map_map, Function.comp_def] using h1), rfl, hnd, rfl, hbase, h0⟩
  refine ⟨hbase, footL (fun k => ρ (f k)) hp', ?_⟩
  intro ρ2 hρ2
  have hρ2 : ∀ k, k < nx → ρ2 k = ρ k := hρ2
  have g0 := hs ρ2 hρ2
  have hf0 : f 0 < nx := hs.now.names _ _ (mem_hget (hm _ _ hb0).2.2)
  have hfe : footL (fun k => ρ (f k)) hp' = footL ρ2 (hp'.map fun x => (f x.1, x.2.rn f)) := by
    rw [hfoot hp' fun _ h => h]
    have key : ∀ l : List (Nat × Blk), (∀ x, x ∈ l → x ∈ hp) → footL ρ l = footL ρ2 l := fun l => by
      induction l with
      | nil => intro _; rfl
      | cons x r ih =>
        obtain ⟨m, b⟩ := x
        intro hs'
        simp only [footL]
        rw [ih fun x hx => hs' x (by simp [hx])]
        congr 1
        have : m < nx := hs.now.names _ _ (hs' (m, b) (by simp))
        cases b <;> simp [Blk.foot, hρ2 m this]
    exact key _ hsub
  refine ⟨fun t htt => ?_, g0.defers, g0.size, g0.keeps, fun m b hx => ?_, ?_, fun m b hx => ?_, ?_, g0.n0le⟩
  · show _ = (lk (ptsC _ ts fr) t).den ρ2
    rcases ptsC_lk (x := .c (.v (gptr (ρ (f 0)).blk))) (t := t) (ts := ts) (fr := fr) with ⟨e1, e2⟩ | e2
    · have := g0.fr t (by show (lk fr t).ok = true; rw [ht t e1]; rfl)
      rw [this, e2]
      show (lk fr t).den ρ2 = _
      rw [ht t e1]
      simp [SV.den, CV.den, gptr, hρ2 (f 0) hf0, hbase]
    · have htt : (lk (ptsC _ ts fr) t).ok = true := htt
      rw [e2] at htt ⊢
      exact g0.fr t htt
  · rcases List.mem_cons.1 hx with hx | hx
    · injection hx with q1 q2; subst q1; subst q2
      refine ⟨on, On.stable, hnd, fun k hk => ⟨on.lt k hk, ?_⟩⟩
      rw [hfoot hp' fun _ h => h] at hk
      obtain ⟨n, b, hx, hk⟩ := footL_out hk
      exact (Blk.foot_lt (hs.now.hp _ _ (hsub _ hx)) k hk).2
    · exact g0.hp _ _ (hremL_mem hx).1
  · show (footL (fun k => ρ (f k)) hp' ++ footL ρ2 _).Nodup
    rw [List.nodup_append]
    refine ⟨hnd, sub_nodup g0.nodup _ (fun x hx => (hremL_mem (m := x.1) (b := x.2) hx).1) (hremL_once _ _ g0.once), fun k hk j hj hkj => ?_⟩
    subst hkj
    rw [hfe] at hk
    obtain ⟨n, b, hx, hk⟩ := footL_out hk
    obtain ⟨n2, b2, hx2, hk2⟩ := footL_out hj
    obtain ⟨q1, q2⟩ := hremL_mem hx2
    refine foot_disj g0.nodup (hsub _ hx) q1 (fun e => q2 ?_) hk hk2
    obtain ⟨x, hx3, hx4⟩ := List.mem_map.1 hx
    rw [← e]
    injection hx4 with hx4 hx5
    exact List.mem_map.2 ⟨x, hx3, hx4⟩
  · rcases List.mem_cons.1 hx with hx | hx
    · injection hx with q1 q2; rw [q1]; exact hf0
    · exact g0.names _ _ (hremL_mem hx).1
  · show (f 0 :: (hremL hp _).map (·.1)).Nodup
    rw [List.nodup_cons]
    refine ⟨fun hx => ?_, hremL_once _ _ g0.once⟩
    obtain ⟨⟨m, b⟩, hx, he⟩ := List.mem_map.1 hx
    refine (hremL_mem hx).2 ?_
    simp only at he
    rw [he]
    exact List.mem_map.2 ⟨(0, b0), hb0, rfl⟩

theorem scode_open {c : Code} {Q : Exit → St → Prop} (n : Nat) {g : Nat} {Sh : Nat → List (Nat × Blk) → Prop} {fp : List Nat} (ts : List Nat) (hg : hget hp n = some (.pred fp (On g Sh fp))) (ht : ∀ t, t ∈ ts → lk fr t = .c (.v (gptr g)))
    (h : ∀ nx' hp', Sh nx' hp' → SCode P C c Q ⟨ptsC (.c (.p nx 0 0)) ts fr, renL (nx + ·) hp' ++ hrem hp n, nx + nx'⟩) : SCode P C c Q ⟨fr, hp, nx⟩ := fun ρ a w hs => by
  obtain ⟨nx', hp', ρ', h1, h2, h3⟩ := hs.open_ n hg ts ht
  exact Code.wp_mono (QQ_to fun k hk => h2 k (Nat.lt_of_lt_of_le hk hs.now.n0le)) (h nx' hp' h1 ρ' a w h3)
theorem scode_close {c : Code} {Q : Exit → St → Prop} (f : Nat → Nat) (Sh : Nat → List (Nat × Blk) → Prop) (nx' : Nat) (hp' : List (Nat × Blk)) (ts : List Nat) {b0 : Blk} (he : hpEnt f nx' hp hp') (h1 : (hp'.map fun x => f x.1).Nodup) (h2 : hp'.all (fun x => x.2.solid) = true) (hsh : Sh nx' hp')
    (hb0 : (0, b0) ∈ hp') (hbb : b0.based = true) (h0 : 0 < nx') (ht : ∀ t, t ∈ ts → lk fr t = .c (.p (f 0) 0 0))
    (h : ∀ g fp', SCode P C c Q ⟨ptsC (.c (.v (gptr g))) ts fr, (f 0, .pred fp' (On g Sh fp')) :: hremL hp (hp'.map fun x => f x.1), nx⟩) : SCode P C c Q ⟨fr, hp, nx⟩ := fun ρ a w hs => by
  obtain ⟨_, fp', h3⟩ := hs.close_ f he h1 h2 hsh hb0 hbb h0 ts ht
  exact h _ fp' ρ a w h3
theorem renL_n {f : Nat → Nat} : renL f [] = [] := (rfl)
theorem renL_c {f : Nat → Nat} {m : Nat} {b : Blk} {r : List (Nat × Blk)} : renL f ((m, b) :: r) = (f m, b.rn f) :: renL f r := (rfl)
theorem hremL_n : hremL hp [] = hp := (rfl)
theorem hremL_c {n : Nat} {r : List Nat} : hremL hp (n :: r) = hremL (hrem hp n) r := (rfl)
theorem ptsC_n {x : SV} : ptsC x [] fr = fr := (rfl)
theorem ptsC_c {x : SV} {t : Nat} {r : List Nat} : ptsC x (t :: r) fr = (t, x) :: ptsC x r fr := (rfl)
theorem rnB_cells {f : Nat → Nat} {ty : TypeId} {cs : List CV} : Blk.rn f (.cells ty cs) = .cells ty (CV.rnL f cs) := (rfl)
theorem rnB_rows {f : Nat → Nat} {ty : TypeId} {e m c : Nat} {r : Nat → List CV} : Blk.rn f (.rows ty e m c r) = .rows ty e m c fun i => CV.rnL f (r i) := (rfl)
theorem rnB_obj {f : Nat → Nat} {o : Obj} : Blk.rn f (.obj o) = .obj o := (rfl)
theorem rnB_pred {f : Nat → Nat} {fp : List Nat} {R : World → Prop} : Blk.rn f (.pred fp R) = .pred fp R := (rfl)
theorem rnL_n {f : Nat → Nat} : CV.rnL f [] = [] := (rfl)
theorem rnL_c {f : Nat → Nat} {x : CV} {r : List CV} : CV.rnL f (x :: r) = x.rn f :: CV.rnL f r := (rfl)
theorem rn_v {f : Nat → Nat} {x : Value} : CV.rn f (.v x) = .v x := (rfl)
theorem rn_p {f : Nat → Nat} {b i q : Nat} : CV.rn f (.p b i q) = .p (f b) i q := (rfl)
theorem rn_s {f : Nat → Nat} {b i l c : Nat} : CV.rn f (.s b i l c) = .s (f b) i l c := (rfl)
theorem rnL_v {f : Nat → Nat} (l : List Value) : CV.rnL f (l.map .v) = l.map .v := by
  rw [CV.rnL_eq, List.map_map]; rfl
theorem app_n {l : List (Nat × Blk)} : ([] : List (Nat × Blk)) ++ l = l := (rfl)
theorem app_c {x : Nat × Blk} {r l : List (Nat × Blk)} : (x :: r) ++ l = x :: (r ++ l) := (rfl)
theorem bfun {f : Nat → Nat} {k : Nat} : (fun j => f j) k = f k := (rfl)
attribute [go_sem] renL_n renL_c hremL_n hremL_c ptsC_n ptsC_c rnB_cells rnB_rows rnB_obj rnB_pred rnL_n rnL_c rn_v rn_p rn_s rnL_v app_n app_c
end
end Go.Sx
