/-
  Parts of the proof: Vec, Sx14, Sx15, Sx17, Vec2, WrT, Vec3, Sx18, Sx19, Sx20, Sx21, Sx22, Sx24, Sx25, Sx26, Sx27, Sx28, Sx29, Sx30, Sx31, Sx32, Sx33, Sx34, Sx35, Sx36, Sx37, Sx38, Sx39, Sx40, Sx41, Sx42, Sx43, Stamp, Item, Item2, Lane, WrL. Conditions: none.
-/
import Derived.Test.YtagjblkfgjcmnaaM10
import Derived.Test.YtagjblkfgjcmnaaRows
import Derived.Test.YtagjblkfgjcmnaaM9
import Derived.Laws.MakeOwn
import Derived.Lib.Overlaps
import Derived.MapKept
import Derived.Conc.LoneCalls
import Derived.Maps.RangeRun
import Derived.Conc.LoneSelect
import Derived.Conc.LoneSelectN
set_option linter.unusedVariables false
set_option linter.unusedSimpArgs false
set_option linter.unusedSectionVars false
namespace Go.Proofs.Ytagjblkfgjcmnaa
open Go.RowKit Go.Sx
attribute [local go_sem ↓] reduceIte
attribute [local go_sem] Nat.reduceEqDiff Nat.reduceLT Nat.reduceLeDiff Nat.reduceAdd Nat.reduceMul Nat.reduceSub Nat.reduceDiv Nat.reduceMod Int.reduceToNat Int.reduceLT Int.reduceLE Int.reduceAdd Int.reduceSub Int.reduceMul Int.reduceEq Int.reduceNeg reduceCtorEq or_false false_or decide_true decide_false Int.cast_ofNat_Int Nat.zero_add Nat.add_zero Int.toNat_natCast Option.isNone_none Option.isNone_some Bool.not_true Bool.not_false Bool.xor_true Bool.xor_false Bool.true_xor Bool.false_xor Bool.and_true Bool.true_and Bool.and_false Bool.false_and eq_self ne_eq not_false_eq_true not_true_eq_false true_and and_true and_self
abbrev cu (n : Int) : CV := .v (.int .u64 n)
abbrev vu (n : Int) : Value := .int .u64 n
abbrev vec4 (a b c d : Int) : Value := .agg #[vu a, vu b, vu c, vu d]
abbrev sv4 (a b c d : Int) : SV := .agg [cu a, cu b, cu c, cu d]
set_option maxHeartbeats 1000000 in
theorem each_any (f : Nat) (hc : ∀ (v : Array Value) w, (callFunc f v).run Try.prog w = .ok (.enter f v) w) (g : Int → Int → Int) (a0 a1 a2 a3 b0 b1 b2 b3 : Int) (w : World)
    (hg : ∀ x y w, Calls Try.prog f #[vu x, vu y] w fun e w' => e = .returned (vu (g x y)) ∧ Below w.heap.size w w') :
    Calls Try.prog 62 #[vec4 a0 a1 a2 a3, vec4 b0 b1 b2 b3, .func (.func f) #[] #[]] w fun e w' => e = .returned (vec4 (g a0 b0) (g a1 b1) (g a2 b2) (g a3 b3)) ∧ Below w.heap.size w w' := by
  refine calls_pure 24 _ Try.func62 rfl Try.ntmps62 Try.results62 [sv4 a0 a1 a2 a3, sv4 b0 b1 b2 b3, .c (.fn f [])] (by simp) (fun _ => rfl) ?_
  simp only [go_sem]
  refine sloop_rounds 5 ?_
  simp only [go_sem]
  iterate 4
    refine sdraw0 [.t 0, .t 1, .t 2, .t 3, .t 4, .t 5, .t 6, .t 7, .r 8, .t 9, .r 10] 10 rfl (by kernel_rfl) ?_
    simp only [go_sem]
    refine scall_pure [vu _, vu _] (.c (cu _)) (vu _) hc (hg _ _) rfl (fun _ => rfl) (fun _ => rfl) ?_
    simp only [go_sem]
  exact fun ρ a w hs _ => ⟨rfl, hs.grown⟩
theorem j1 (a b : Int) (w : World) : Calls Try.prog 63 #[vu a, vu b] w fun e w' => e = .returned (vu (max a b)) ∧ Below w.heap.size w w' := by
  refine calls_pure 8 _ Try.func63 rfl Try.ntmps63 Try.results63 [.c (cu a), .c (cu b)] (by simp) (fun _ => rfl) ?_
  simp only [go_sem]
  exact fun ρ a w hs _ => ⟨rfl, hs.grown⟩

structure V4 where
  a : Int
  b : Int
  c : Int
  d : Int
deriving DecidableEq
abbrev V4.v (x : V4) : Value := vec4 x.a x.b x.c x.d
abbrev V4.s (x : V4) : SV := sv4 x.a x.b x.c x.d
def V4.join (x y : V4) : V4 := ⟨max x.a y.a, max x.b y.b, max x.c y.c, max x.d y.d⟩
def V4.meet (x y : V4) : V4 := ⟨min x.a y.a, min x.b y.b, min x.c y.c, min x.d y.d⟩
def V4.leq (x y : V4) : Bool := decide (x.a ≤ y.a) && (decide (x.b ≤ y.b) && (decide (x.c ≤ y.c) && decide (x.d ≤ y.d)))
def V4.right (x : V4) : Bool := x.leq ⟨1152921504606846976, 1152921504606846976, 1152921504606846976, 1152921504606846976⟩
def V4.at (x : V4) (n : Int) : Int := if n = 1 then x.a else if n = 2 then x.b else if n = 3 then x.c else if n = 4 then x.d else 0
theorem join_c (x y : V4) (w : World) : Calls Try.prog 34 #[x.v, y.v] w fun e w' => e = .returned (x.join y).v ∧ Below w.heap.size w w' := by
  obtain ⟨a0, a1, a2, a3⟩ := x; obtain ⟨b0, b1, b2, b3⟩ := y
  refine calls_pure 8 _ Try.func34 rfl Try.ntmps34 Try.results34 [sv4 a0 a1 a2 a3, sv4 b0 b1 b2 b3] (by simp) (fun _ => rfl) ?_
  simp only [go_sem]
  refine scall_pure [vec4 _ _ _ _, vec4 _ _ _ _, .func (.func 63) #[] #[]] (sv4 _ _ _ _) (vec4 _ _ _ _) Try.call62 (each_any 63 Try.call63 max _ _ _ _ _ _ _ _ · j1) rfl (fun _ => rfl) (fun _ => rfl) ?_
  simp only [go_sem]
  exact fun ρ a w hs _ => ⟨rfl, hs.grown⟩
theorem leq_c (x y : V4) (w : World) : Calls Try.prog 88 #[x.v, y.v] w fun e w' => e = .returned (.bool (x.leq y)) ∧ Below w.heap.size w w' := by
  obtain ⟨a0, a1, a2, a3⟩ := x; obtain ⟨b0, b1, b2, b3⟩ := y
  refine calls_pure 10 _ Try.func88 rfl Try.ntmps88 Try.results88 [sv4 a0 a1 a2 a3, sv4 b0 b1 b2 b3] (by simp) (fun _ => rfl) ?_
  simp only [go_sem]
  refine sdraw0 [.t 0, .t 1, .t 3, .r 2, .t 4, .t 5] 6 rfl (by kernel_rfl) ?_
  simp only [go_sem]
  refine scall_pure [vec4 _ _ _ _, vec4 _ _ _ _] (sv4 _ _ _ _) (vec4 _ _ _ _) Try.call34 (join_c ⟨_, _, _, _⟩ ⟨_, _, _, _⟩) rfl (fun _ => rfl) (fun _ => rfl) ?_
  simp only [go_sem]
  exact fun ρ a w hs _ => ⟨by
    simp only [SV.den, CV.den, V4.leq, Ending.returned.injEq, Value.bool.injEq]
    rw [Bool.eq_iff_iff]; simp only [Bool.and_eq_true, decide_eq_true_eq]; simp only [V4.join]; omega, hs.grown⟩
theorem right_c (x : V4) (w : World) : Calls Try.prog 75 #[x.v] w fun e w' => e = .returned (.bool x.right) ∧ Below w.heap.size w w' := by
  obtain ⟨a0, a1, a2, a3⟩ := x
  refine calls_pure 6 _ Try.func75 rfl Try.ntmps75 Try.results75 [sv4 a0 a1 a2 a3] (by simp) (fun _ => rfl) ?_
  simp only [go_sem]
  refine scall_pure [vec4 _ _ _ _, vec4 _ _ _ _] (.c (.v (.bool _))) (.bool _) Try.call88 (leq_c ⟨_, _, _, _⟩ ⟨_, _, _, _⟩) rfl (fun _ => rfl) (fun _ => rfl) ?_
  simp only [go_sem]
  exact fun ρ a w hs _ => ⟨rfl, hs.grown⟩
end Go.Proofs.Ytagjblkfgjcmnaa
namespace Go.Sx
open Go.RowKit
section
variable {P : Program}
theorem join {α : Type} (φ : α → Prop) {R : α → Prop} {G : Prop} (hG : (∀ x, φ x → R x) → G) (h : ∀ x, φ x → R x) : G := hG h
theorem SCode_ent {C : Cx} {st st' : St} {c : Code} {Q : Exit → St → Prop} (he : Ent C st st') (h : SCode P C c Q st') : SCode P C c Q st := fun ρ a w hs => by
  obtain ⟨ρ', h1, h2⟩ := he ρ a w hs
  exact Code.wp_mono (QQ_to h2) (h ρ' a w h1)
def Blk.lies (ρ : Env) (n : Nat) (w : World) : Blk → Prop
  | .cells ty cs => (ρ n).base = 0 ∧ w.heap[(ρ n).blk]? = some (.cells (cs.map (CV.den ρ)).toArray ty (0, 0)) ∧ (ρ n).esz = 1
  | .rows ty e m c r => (ρ n).base = 0 ∧ (ρ n).esz = e ∧ (∃ arr, HeapAt w (ρ n).blk arr ty e ∧ c * e ≤ arr.size ∧
      ∀ i, i < m → (r i).length = e ∧ ∀ k, k < e → arr[i * e + k]? = ((r i)[k]?).map (CV.den ρ))
  | .imm .. => False
  | .obj o => (ρ n).base = 0 ∧ w.heap[(ρ n).blk]? = some o
  | .pred fp R => R w ∧ Stable fp R ∧ fp.Nodup ∧ ∀ k, k ∈ fp → k < w.heap.size
theorem Blk.holds_of_lies {C : Cx} {ρ : Env} {n : Nat} {w : World} {b : Blk} (h : b.lies ρ n w) (ho : ∀ k, k ∈ b.foot ρ n → C.own k) : b.holds C ρ n w := by
  cases b with
  | cells ty cs => exact ⟨h.1, h.2.1, ho _ (by simp [Blk.foot]), h.2.2⟩
  | rows ty e m c r => exact ⟨h.1, h.2.1, h.2.2, ho _ (by simp [Blk.foot])⟩
  | imm => exact h.elim
  | obj o => exact ⟨h.1, h.2, ho _ (by simp [Blk.foot])⟩
  | pred fp R => exact ⟨h.1, h.2.1, h.2.2.1, fun k hk => ⟨h.2.2.2 k hk, ho k hk⟩⟩
def Blk.solid : Blk → Bool
  | .imm .. => false
  | _ => true
theorem Blk.lies_of_holds {C : Cx} {ρ : Env} {n : Nat} {w : World} {b : Blk} (h : b.holds C ρ n w) (hs : b.solid = true) : b.lies ρ n w := by
  cases b with
  | cells ty cs => exact ⟨h.1, h.2.1, h.2.2.2⟩
  | rows ty e m c r => exact ⟨h.1, h.2.1, h.2.2.1⟩
  | imm => cases hs
  | obj o => exact ⟨h.1, h.2.1⟩
  | pred fp R => exact ⟨h.1, h.2.1, h.2.2.1, fun k hk => (h.2.2.2 k hk).1⟩
theorem Blk.lies_same {ρ : Env} {n : Nat} {w w' : World} {b : Blk} (h : b.lies ρ n w) (hs : ∀ k, k ∈ b.foot ρ n → w'.heap[k]? = w.heap[k]?) : b.lies ρ n w' := by
  cases b with
  | cells ty cs => exact ⟨h.1, by rw [hs _ (by simp [Blk.foot])]; exact h.2⟩
  | rows ty e m c r => obtain ⟨h0, h1, arr, h2, h3⟩ := h; exact ⟨h0, h1, arr, h2.same (hs _ (by simp [Blk.foot])), h3⟩
  | imm => exact h.elim
  | obj o => exact ⟨h.1, by rw [hs _ (by simp [Blk.foot])]; exact h.2⟩
  | pred fp R => exact ⟨h.2.1 _ _ h.1 fun k hk => hs k hk, h.2.1, h.2.2.1, fun k hk => by
      have h1 := h.2.2.2 k hk
      have h2 := hs k hk
      rw [Array.getElem?_eq_getElem h1] at h2
      exact (Array.getElem?_eq_some_iff.1 h2).1⟩
theorem Blk.lies_lt {ρ : Env} {n : Nat} {w : World} {b : Blk} (h : b.lies ρ n w) : ∀ k, k ∈ b.foot ρ n → k < w.heap.size := fun k hk => by
  cases b with
  | cells ty cs => simp [Blk.foot] at hk; subst hk; exact lt_of_heap h.2.1
  | rows ty e m c r => simp [Blk.foot] at hk; subst hk; exact h.2.2.choose_spec.1.lt
  | imm => exact h.elim
  | obj o => simp [Blk.foot] at hk; subst hk; exact lt_of_heap h.2
  | pred fp R => exact h.2.2.2 k hk
theorem Blk.lies_env {ρ ρ' : Env} {n m : Nat} {w : World} {b : Blk} (hb : b.bl n) (hm : m < n) (hρ : ∀ k, k < n → ρ' k = ρ k) (h : b.lies ρ m w) : b.lies ρ' m w := by
  have he := hρ m hm
  have hl : ∀ l : List CV, CV.blL n l → l.map (CV.den ρ') = l.map (CV.den ρ) := fun l hl => by
    have := CV.denL_rn id n ρ ρ' hρ l hl
    rw [CV.rnL_id, CV.denL_eq, CV.denL_eq] at this
    exact this.symm
  cases b with
  | cells ty cs => exact ⟨by rw [he]; exact h.1, by rw [he, hl cs hb]; exact h.2.1, by rw [he]; exact h.2.2⟩
  | rows ty e m c r =>
    obtain ⟨h1, h2, arr, h3, h4, h5⟩ := h
    refine ⟨by rw [he]; exact h1, by rw [he]; exact h2, arr, by rw [he]; exact h3, h4, fun i hi => ⟨(h5 i hi).1, fun k hk => ?_⟩⟩
    rw [(h5 i hi).2 k hk, ← List.getElem?_map, ← List.getElem?_map, hl (r i) (hb i hi)]
  | imm => exact h.elim
  | obj o => exact ⟨by rw [he]; exact h.1, by rw [he]; exact h.2⟩
  | pred fp R => exact h
def On (g : Nat) (Sh : Nat → List (Nat × Blk) → Prop) (fp : List Nat) (w : World) : Prop :=
  ∃ ρ nx hp, Sh nx hp ∧ (∀ n b, (n, b) ∈ hp → (n < nx ∧ b.bl nx) ∧ b.lies ρ n w) ∧ (hp.map (·.1)).Nodup ∧ footL ρ hp = fp ∧ fp.Nodup ∧ (ρ 0).blk = g ∧ (ρ 0).base = 0 ∧ 0 < nx
theorem On.stable {g : Nat} {Sh : Nat → List (Nat × Blk) → Prop} {fp : List Nat} : Stable fp (On g Sh fp) := fun w w' ⟨ρ, nx, hp, h1, h2, h3, h4, h5⟩ hs =>
  ⟨ρ, nx, hp, h1, fun n b hm => ⟨(h2 n b hm).1, Blk.lies_same (h2 n b hm).2 fun k hk => hs k (by rw [← h4]; exact foot_mem hm hk)⟩, h3, h4, h5⟩
theorem On.lt {g : Nat} {Sh : Nat → List (Nat × Blk) → Prop} {fp : List Nat} {w : World} (h : On g Sh fp w) : ∀ k, k ∈ fp → k < w.heap.size := fun k hk => by
  obtain ⟨ρ, nx, hp, h1, h2, h3, h4, h5⟩ := h
  rw [← h4] at hk
  obtain ⟨n, b, hm, hk⟩ := footL_out hk
  exact Blk.lies_lt (h2 n b hm).2 k hk
theorem On.mono {g : Nat} {Sh Sh' : Nat → List (Nat × Blk) → Prop} {fp : List Nat} {w : World} (h : On g Sh fp w) (hS : ∀ nx hp, Sh nx hp → Sh' nx hp) : On g Sh' fp w := by
  obtain ⟨ρ, nx, hp, h1, h2⟩ := h
  exact ⟨ρ, nx, hp, hS _ _ h1, h2⟩
theorem on_calls {f : FuncId} {fn : Func} {c : Code} {args : Array Value} {w : World} {R : Ending → World → Prop} {g : Nat} {Sh : Nat → List (Nat × Blk) → Prop} {fp : List Nat} (ho : On g Sh fp w) (n : Nat) (rs : List ResultVar) (hf : P.funcs[f]? = some fn) (hb : fn.body = some c) (hn : fn.ntmps = n) (hr : fn.results = rs.toArray)
    (xs : List SV) (hl : xs.length ≤ n) (ha : ∀ ρ' : Env, (ρ' 0).blk = g → (ρ' 0).base = 0 → args.toList = SV.denL ρ' xs)
    (h : ∀ ρ nx hp, Sh nx hp → (ρ 0).blk = g → (ρ 0).base = 0 → X P ⟨w, (· ∈ fp), n, nx, ρ⟩ c (retQ P ⟨w, (· ∈ fp), n, nx, ρ⟩ rs R) ⟨frOf 0 xs, hp, nx⟩) : Calls P f args w R := by
  have hlt := ho.lt
  obtain ⟨ρ, nx, hp, h1, h2, h3, h4, h5, h6, h7, h8⟩ := ho
  have hfoot : ∀ ρ' : Env, (∀ k, k < nx → ρ' k = ρ k) → ∀ l : List (Nat × Blk), (∀ x, x ∈ l → x ∈ hp) → footL ρ' l = footL ρ l := fun ρ' hρ l => by
    induction l with
    | nil => intro _; rfl
    | cons x r ih =>
      obtain ⟨m, b⟩ := x
      intro hs
      have hm := (h2 m b (hs _ (by simp))).1.1
      simp only [footL]
      rw [ih fun x hx => hs x (by simp [hx])]
      congr 1
      cases b <;> simp [Blk.foot, hρ m hm]
  refine calls_of (· ∈ fp) n rs hf hb hn hr xs hp nx ρ hl (fun ρ' hρ => ha ρ' (by rw [hρ 0 h8]; exact h6) (by rw [hρ 0 h8]; exact h7)) (fun ρ' hρ => ⟨fun m b hm => ?_, ?_⟩) (fun m b hm => (h2 m b hm).1.1) h3 (h ρ nx hp h1 h6 h7)
  · obtain ⟨⟨hm1, hm2⟩, hm3⟩ := h2 m b hm
    refine Blk.holds_of_lies (Blk.lies_env hm2 hm1 hρ hm3) fun k hk => .inr ?_
    show k ∈ fp
    rw [← h4, ← hfoot ρ' hρ hp fun _ h => h]
    exact foot_mem hm hk
  · rw [hfoot ρ' hρ hp fun _ h => h, h4]; exact h5
theorem on_ends {C : Cx} {fp : List Nat} {w w' : World} {fr : List (Nat × SV)} {hp hp' : List (Nat × Blk)} {nx nx' : Nat} {ρ : Env} {a : Act} {g : Nat} {Sh : Nat → List (Nat × Blk) → Prop} (hw : C.w0 = w) (hM : C.M = (· ∈ fp)) (hs : Sat C ⟨fr, hp, nx⟩ ρ a w') (f : Nat → Nat) (he : hpEnt f nx' hp hp')
    (h1 : (hp'.map fun x => f x.1).Nodup) (h2 : hp'.all (fun x => x.2.solid) = true) (hsh : Sh nx' hp') (hg : (ρ (f 0)).blk = g) (hb : (ρ (f 0)).base = 0) (h0 : 0 < nx') : ∃ fp', On g Sh fp' w' ∧ Chg fp fp' w w' := by
  have hm := hpEnt_mem he
  have hfoot : ∀ l : List (Nat × Blk), (∀ x, x ∈ l → x ∈ hp') → footL (fun k => ρ (f k)) l = footL ρ (l.map fun x => (f x.1, x.2.rn f)) := fun l => by
    induction l with
    | nil => intro _; rfl
    | cons x r ih =>
      obtain ⟨m, b⟩ := x
      intro hs'
      obtain ⟨q1, q2, q3⟩ := hm m b (hs' _ (by simp))
      simp only [footL, List.map_cons]
      rw [ih fun x hx => hs' x (by simp [hx])]
      congr 1
      exact foot_rn (ρ := ρ) (ρ' := fun k => ρ (f k)) (f := f) (n := nx') (fun k _ => rfl) q1 b
  have hsub : ∀ x, x ∈ hp'.map (fun x => (f x.1, x.2.rn f)) → x ∈ hp := fun x hx => by
    obtain ⟨⟨m, b⟩, hx2, he2⟩ := List.mem_map.1 hx
    rw [← he2]
    exact mem_hget (hm m b hx2).2.2
  have hnd : (footL (fun k => ρ (f k)) hp').Nodup := by
    rw [hfoot hp' fun _ h => h]
    exact sub_nodup hs.now.nodup _ hsub (by simpa [List.map_map, Function.comp_def] using h1)
  have hlies : ∀ n b, (n, b) ∈ hp' → (n < nx' ∧ b.bl nx') ∧ b.lies (fun k => ρ (f k)) n w' := fun n b hx => by
    obtain ⟨q1, q2, q3⟩ := hm n b hx
    have hh := hs.now.hp _ _ (mem_hget q3)
    refine ⟨⟨q1, q2⟩, Blk.lies_of_holds (Blk.holds_rn (ρ' := fun k => ρ (f k)) (fun k _ => rfl) q1 q2 hh) ?_⟩
    have := List.all_eq_true.1 h2 _ hx
    exact this
  have on : On g Sh (footL (fun k => ρ (f k)) hp') w' := ⟨fun k => ρ (f k), nx', hp', hsh, hlies, nodup_map (fun x => f x) _ (by simpa [List.map_map, Function.comp_def] using h1), rfl, hnd, hg, hb, h0⟩
  have hkeep := hs.now.keeps
  rw [hw, hM] at hkeep
  refine ⟨_, on, ⟨hkeep, fun k hk => ⟨?_, on.lt k hk⟩, hnd⟩⟩
  rw [hfoot hp' fun _ h => h] at hk
  obtain ⟨n, b, hx, hk⟩ := footL_out hk
  have := (Blk.foot_lt (hs.now.hp _ _ (hsub _ hx)) k hk).2
  unfold Cx.own at this
  rw [hw, hM] at this
  exact this.symm.imp id id
end
end Go.Sx
namespace Go.Sx
open Go.RowKit
section
variable {P : Program} {C : Cx} {fr : List (Nat × SV)} {hp : List (Nat × Blk)} {nx : Nat}

theorem madeCells_get (z : Array Value) (n i : Nat) (hi : i < n) (hz : 0 < z.size) : (madeCells z n)[i]? = z[i % z.size]? := by
  have : i % z.size < z.size := Nat.mod_lt _ hz
  simp [madeCells, hi, this, getElem!_pos]
theorem smake {d : Tmp} {x y : Operand} {t E ty : TypeId} {pos : String} {af : Array Edge} {g : Option (Nat × Bool)} {K : St → Prop} {k sz bb : Nat} {zs : List Value}
    (hx : St.ev ⟨fr, hp, nx⟩ x = .c (.v (.int .i64 k))) (hy : St.ev ⟨fr, hp, nx⟩ y = .c (.v (.int .i64 k))) (hk : tkind P t = some (.slc E)) (h1 : tsz P E = some sz) (h2 : tby P E = some bb) (h3 : tzero P E = some zs)
    (hz : (zs.length = sz ∧ 0 < sz) ∧ bb * k ≤ 140737488355328 ∧ k ≤ 9223372036854775807)
    (hK : d < C.N ∧ K ⟨(d, .c (.s nx 0 k k)) :: fr, (nx, .rows E sz k k (fun _ => zs.map .v)) :: hp, nx + 1⟩) :
    SOp P C ⟨some d, .makeSlice t x y, ty, pos, af, g⟩ K ⟨fr, hp, nx⟩ := fun ρ a w hs => by
  obtain ⟨⟨hzl, hsz⟩, hbb, hkk⟩ := hz
  obtain ⟨i, z, hi, rfl, rfl, hiz, hzc⟩ := info_of h1 h2 h3
  obtain ⟨ds, hu, hds⟩ := kind_of hk
  simp only at hds; subst hds
  have hzs : z.cells.size = i.size := by rw [← Array.length_toList, hzc, hzl]
  have hb' : (i.bytes : Int) * (k : Int) ≤ 281474976710656 := by
    have h : ((i.bytes * k : Nat) : Int) ≤ 281474976710656 := by omega
    rwa [Int.natCast_mul] at h
  have hrun : (Instr.makeSlice t (.int .i64 k) (.int .i64 k)).run P w = .ok (.slice (some ⟨w.heap.size, 0, none⟩) k k) (w.alloc (.cells (madeCells z.cells (k * i.size)) E)) := by
    have := run_make (P := P) w t E i z hu hi hiz .i64 .i64 k k (by omega) (by omega) hb' (by omega)
    simpa only [Int.toNat_natCast] using this
  refine wp_value (v := .slice (some ⟨w.heap.size, 0, none⟩) k k) ?_ ⟨_, _, hK.2, hs.allocRows (cells := madeCells z.cells (k * i.size)) (c := k) hK.1 (by rw [size_madeCells]; exact Nat.le_refl _) fun ρ' hρ q hq => ⟨by simpa using hzl, fun u hu => ?_⟩, Nat.le_succ _, fun k hk => by simp [envSet, Nat.ne_of_lt hk]⟩
  · simp only [execOp]
    simp [ev_c hs.fr' hx rfl, ev_c hs.fr' hy rfl, SV.den, CV.den]
    rw [hrun]; rfl
  · have hlt : q * i.size + u < k * i.size := by
      have : (q + 1) * i.size ≤ k * i.size := Nat.mul_le_mul_right _ hq
      rw [Nat.add_mul] at this; omega
    rw [madeCells_get _ _ _ hlt (by omega), hzs, Nat.mul_comm, Nat.mul_add_mod, Nat.mod_eq_of_lt hu]
    rw [← hzc]
    simp
    cases z.cells[u]? <;> rfl
theorem cell_of_rows {ρ : Env} {w : World} {n m c : Nat} {ty : TypeId} {r : Nat → List CV} (h : (Blk.rows ty 1 m c r).holds C ρ n w) {j : Nat} {x : CV} (hj : j < m) (hx : r j = [x]) : w.cell? ⟨(ρ n).blk, 0 + j, none⟩ = some (x.den ρ) := by
  obtain ⟨h1, h2, ⟨arr, h3, h4, h5⟩, h6⟩ := h
  have := (h5 j hj).2 0 (by omega)
  rw [hx] at this
  simp at this
  rw [h3.cell]; simpa using this

def dkB (N : Nat) : Option Tmp → Bool
  | some d => Nat.blt d N
  | none => true
theorem dk_of {N : Nat} {d : Option Tmp} (h : dkB N d = true) : dOk N d := by
  cases d with
  | none => trivial
  | some d => exact Nat.le_of_ble_eq_true h
abbrev gptr (b : Nat) : Value := .pointer (some ⟨b, 0, none⟩)
def Turn (g : Nat) (fp : List Nat) (v : Value) (Sh : Nat → List (Nat × Blk) → Prop) (w : World) (e : Ending) (w' : World) : Prop := ∃ fp', e = .returned v ∧ On g Sh fp' w' ∧ Chg fp fp' w w'
theorem on_call {f : FuncId} {args : List SV} {d : Option Tmp} {K : St → Prop} (n : Nat) {g : Nat} {Sh Sh' : Nat → List (Nat × Blk) → Prop} {fp : List Nat} {v : Value} (vs : List Value) (x : SV)
    (hc : ∀ (v : Array Value) w, (callFunc f v).run P w = .ok (.enter f v) w) (hcall : ∀ w, On g Sh fp w → Calls P f vs.toArray w (Turn g fp v Sh' w))
    (hg : hget hp n = some (.pred fp (On g Sh fp))) (hok : SV.okL args = true) (hv : ∀ ρ, SV.denL ρ args = vs) (hx : ∀ ρ, v = x.den ρ) (hd : dkB C.N d = true) (hK : ∀ fp', kput K ⟨fr, hset hp n (.pred fp' (On g Sh' fp')), nx⟩ d x) :
    SCall P C f args d K ⟨fr, hp, nx⟩ :=
  scall_pred (α := Unit) n fp _ (fun _ fp' => On g Sh' fp') vs (fun _ => x) (fun _ => v) (fun _ => True) hc
    (fun w h => (hcall w h).mono fun e w' ⟨fp', h1, h2, h3⟩ => ⟨(), fp', trivial, h1, h2, h3⟩) (fun _ _ => On.stable) hg hok hv (fun _ ρ => hx ρ) ⟨dk_of hd, fun _ fp' _ => hK fp'⟩
def TurnK (g : Nat) (fp : List Nat) (v : Value) (Sh : Nat → List (Nat × Blk) → Prop) (w : World) (e : Ending) (w' : World) : Prop := e = .returned v ∧ On g Sh fp w' ∧ Chg fp fp w w'
theorem TurnK.turn {g : Nat} {fp : List Nat} {v : Value} {Sh : Nat → List (Nat × Blk) → Prop} {w : World} {e : Ending} {w' : World} (h : TurnK g fp v Sh w e w') : Turn g fp v Sh w e w' := ⟨fp, h⟩
theorem on_callk {f : FuncId} {args : List SV} {d : Option Tmp} {K : St → Prop} (n : Nat) {g : Nat} {Sh : Nat → List (Nat × Blk) → Prop} {fp : List Nat} {v : Value} (vs : List Value) (x : SV)
    (hc : ∀ (v : Array Value) w, (callFunc f v).run P w = .ok (.enter f v) w) (hcall : ∀ w, On g Sh fp w → Calls P f vs.toArray w (TurnK g fp v Sh w))
    (hg : hget hp n = some (.pred fp (On g Sh fp))) (hok : SV.okL args = true) (hv : ∀ ρ, SV.denL ρ args = vs) (hx : ∀ ρ, v = x.den ρ) (hd : dkB C.N d = true) (hK : kput K ⟨fr, hset hp n (.pred fp (On g Sh fp)), nx⟩ d x) :
    SCall P C f args d K ⟨fr, hp, nx⟩ := by
  refine ⟨hok, fun ρ w a hs _ => .inl ⟨fun v w => hc _ w, ?_⟩⟩
  rw [hv ρ]
  exact (hcall w (hs.now.hp _ _ (mem_hget hg)).1).mono fun e w' ⟨he, hR, hch⟩ => ⟨_, he, _, ρ, hK, (hs.pred hg hch hR On.stable).put (dk_of hd) fun _ ρ' _ => hx ρ', (by cases d <;> simp [St.put]), fun _ _ => rfl⟩
theorem on_calls2 {f : FuncId} {fn : Func} {c : Code} {args : Array Value} {w : World} {R : Ending → World → Prop} {g : Nat} {Sh : Nat → List (Nat × Blk) → Prop} {fp : List Nat} (ho : On g Sh fp w) (n : Nat) (rs : List ResultVar) (hf : P.funcs[f]? = some fn) (hb : fn.body = some c) (hn : fn.ntmps = n) (hr : fn.results = rs.toArray)
    (xs : List SV) (hl : xs.length ≤ n) (ha : ∀ ρ' : Env, (ρ' 0).blk = g → (ρ' 0).base = 0 → args.toList = SV.denL ρ' xs)
    (h : ∀ ρ nx hp, Sh nx hp → (ρ 0).blk = g → (ρ 0).base = 0 → (footL ρ hp = fp ∧ fp.Nodup) ∧ 0 < nx ∧ (∀ n b, (n, b) ∈ hp → n < nx ∧ b.bl nx) ∧ (hp.map (·.1)).Nodup → X P ⟨w, (· ∈ fp), n, nx, ρ⟩ c (retQ P ⟨w, (· ∈ fp), n, nx, ρ⟩ rs R) ⟨frOf 0 xs, hp, nx⟩) : Calls P f args w R := by
  obtain ⟨ρ, nx, hp, h1, h2, h3, h4, h5, h6, h7, h8⟩ := ho
  have hfoot : ∀ ρ' : Env, (∀ k, k < nx → ρ' k = ρ k) → ∀ l : List (Nat × Blk), (∀ x, x ∈ l → x ∈ hp) → footL ρ' l = footL ρ l := fun ρ' hρ l => by
    induction l with
    | nil => intro _; rfl
    | cons x r ih =>
      obtain ⟨m, b⟩ := x
      intro hs
      have hm := (h2 m b (hs _ (by simp))).1.1
      simp only [footL]
      rw [ih fun x hx => hs x (by simp [hx])]
      congr 1
      cases b <;> simp [Blk.foot, hρ m hm]
  refine calls_of (· ∈ fp) n rs hf hb hn hr xs hp nx ρ hl (fun ρ' hρ => ha ρ' (by rw [hρ 0 h8]; exact h6) (by rw [hρ 0 h8]; exact h7)) (fun ρ' hρ => ⟨fun m b hm => ?_, ?_⟩) (fun m b hm => (h2 m b hm).1.1) h3 (h ρ nx hp h1 h6 h7 ⟨⟨h4, h5⟩, h8, fun n b hm => (h2 n b hm).1, h3⟩)
  · obtain ⟨⟨hm1, hm2⟩, hm3⟩ := h2 m b hm
    refine Blk.holds_of_lies (Blk.lies_env hm2 hm1 hρ hm3) fun k hk => .inr ?_
    show k ∈ fp
    rw [← h4, ← hfoot ρ' hρ hp fun _ h => h]
    exact foot_mem hm hk
  · rw [hfoot ρ' hρ hp fun _ h => h, h4]; exact h5
theorem on_same {C : Cx} {fp : List Nat} {w w' : World} {fr : List (Nat × SV)} {hp : List (Nat × Blk)} {nx : Nat} {ρ : Env} {a : Act} {g : Nat} {Sh : Nat → List (Nat × Blk) → Prop} (hw : C.w0 = w) (hM : C.M = (· ∈ fp)) (hs : Sat C ⟨fr, hp, nx⟩ ρ a w') (hag : ∀ k, k < C.n0 → ρ k = C.ρ0 k)
    (hh : (footL C.ρ0 hp = fp ∧ fp.Nodup) ∧ 0 < C.n0 ∧ (∀ n b, (n, b) ∈ hp → n < C.n0 ∧ b.bl C.n0) ∧ (hp.map (·.1)).Nodup) (h2 : hp.all (fun x => x.2.solid) = true) (hsh : Sh C.n0 hp) (hg : (C.ρ0 0).blk = g) (hb : (C.ρ0 0).base = 0) : On g Sh fp w' ∧ Chg fp fp w w' := by
  obtain ⟨⟨hf, hnd⟩, h0, hbl, h1⟩ := hh
  have hfoot : ∀ l : List (Nat × Blk), (∀ x, x ∈ l → x ∈ hp) → footL ρ l = footL C.ρ0 l := fun l => by
    induction l with
    | nil => intro _; rfl
    | cons x r ih =>
      obtain ⟨m, b⟩ := x
      intro hs
      have hm := (hbl m b (hs _ (by simp))).1
      simp only [footL]
      rw [ih fun x hx => hs x (by simp [hx])]
      congr 1
      cases b <;> simp [Blk.foot, hag m hm]
  have on : On g Sh fp w' := ⟨ρ, C.n0, hp, hsh, fun n b hx => ⟨hbl n b hx, Blk.lies_of_holds (hs.now.hp _ _ hx) (List.all_eq_true.1 h2 _ hx)⟩, h1, (hfoot hp fun _ h => h).trans hf, hnd, (congrArg Nm.blk (hag 0 h0)).trans hg, (congrArg Nm.base (hag 0 h0)).trans hb, h0⟩
  have hkeep := hs.now.keeps
  rw [hw, hM] at hkeep
  exact ⟨on, hkeep, fun k hk => ⟨.inl hk, on.lt k hk⟩, hnd⟩
theorem on_new {f : FuncId} {args : List SV} {d : Option Tmp} {K : St → Prop} {Sh : Nat → List (Nat × Blk) → Prop} (vs : List Value) (v : Nat → Value) (x : Nat → SV)
    (hc : ∀ (v : Array Value) w, (callFunc f v).run P w = .ok (.enter f v) w) (hcall : ∀ w, Calls P f vs.toArray w fun e w' => ∃ g fp', e = .returned (v g) ∧ On g Sh fp' w' ∧ Chg [] fp' w w')
    (hok : SV.okL args = true) (hv : ∀ ρ, SV.denL ρ args = vs) (hx : ∀ g ρ, v g = (x g).den ρ) (hd : dkB C.N d = true) (hK : ∀ g fp', kput K ⟨fr, (nx, .pred fp' (On g Sh fp')) :: hp, nx + 1⟩ d (x g)) :
    SCall P C f args d K ⟨fr, hp, nx⟩ :=
  scall_new (α := Nat) (fun g fp' => On g Sh fp') vs x v (fun _ => True) hc
    (fun w => (hcall w).mono fun e w' ⟨g, fp', h1, h2, h3⟩ => ⟨g, fp', trivial, h1, h2, h3⟩) (fun _ _ => On.stable) hok hv hx ⟨dk_of hd, fun g fp' _ => hK g fp'⟩
end
end Go.Sx
namespace Go.Sx
open Go.RowKit

theorem wrapI64 {x : Int} (h1 : -9223372036854775808 ≤ x) (h2 : x < 9223372036854775808) : IntKind.i64.wrap x = x := wrap_i64 x h1 (by omega)
theorem wrapu64 {x : Int} (h1 : 0 ≤ x) (h2 : x < 18446744073709551616) : IntKind.u64.wrap x = x := by simp [IntKind.wrap, IntKind.bits, IntKind.signed]; omega
theorem wrapu32 {x : Int} (h1 : 0 ≤ x) (h2 : x < 4294967296) : IntKind.u32.wrap x = x := by simp [IntKind.wrap, IntKind.bits, IntKind.signed]; omega
theorem wrapu8 {x : Int} (h1 : 0 ≤ x) (h2 : x < 256) : IntKind.u8.wrap x = x := by simp [IntKind.wrap, IntKind.bits, IntKind.signed]; omega
theorem ltT {a b : Int} (h : a < b) : (a < b) = True := eq_true h
theorem ltF {a b : Int} (h : b ≤ a) : (a < b) = False := eq_false (by omega)
theorem leT {a b : Int} (h : a ≤ b) : (a ≤ b) = True := eq_true h
theorem leF {a b : Int} (h : b < a) : (a ≤ b) = False := eq_false (by omega)
theorem eqF {a b : Int} (h : a ≠ b) : (a = b) = False := eq_false h
theorem eqT {a b : Int} (h : a = b) : (a = b) = True := eq_true h
theorem nltT {a b : Nat} (h : a < b) : (a < b) = True := eq_true h
theorem nleT {a b : Nat} (h : a ≤ b) : (a ≤ b) = True := eq_true h
theorem neqFn {a b : Nat} (h : a ≠ b) : (a = b) = False := eq_false h
theorem brIf {P : Program} {st : St} {p q : St → Prop} {c : Prop} [Decidable c] (h1 : c → p st) (h2 : ¬ c → q st) : br (decide c) p q st := br_if h1 h2
end Go.Sx
namespace Go.Proofs.Ytagjblkfgjcmnaa
open Go.RowKit Go.Sx
attribute [local go_sem ↓] reduceIte
attribute [local go_sem] Nat.reduceEqDiff Nat.reduceLT Nat.reduceLeDiff Nat.reduceAdd Nat.reduceMul Nat.reduceSub Nat.reduceDiv Nat.reduceMod Int.reduceToNat Int.reduceLT Int.reduceLE Int.reduceAdd Int.reduceSub Int.reduceMul Int.reduceEq Int.reduceNeg reduceCtorEq or_false false_or decide_true decide_false Int.cast_ofNat_Int Nat.zero_add Nat.add_zero Int.toNat_natCast Option.isNone_none Option.isNone_some Bool.not_true Bool.not_false Bool.xor_true Bool.xor_false Bool.true_xor Bool.false_xor Bool.and_true Bool.true_and Bool.and_false Bool.false_and eq_self ne_eq not_false_eq_true not_true_eq_false true_and and_true and_self
def V4.sum (x : V4) : Int := IntKind.u64.wrap (IntKind.u64.wrap (IntKind.u64.wrap (IntKind.u64.wrap (0 + x.a) + x.b) + x.c) + x.d)
theorem sum_c (x : V4) (w : World) : Calls Try.prog 32 #[x.v] w fun e w' => e = .returned (vu x.sum) ∧ Below w.heap.size w w' := by
  obtain ⟨a0, a1, a2, a3⟩ := x
  refine calls_pure 14 _ Try.func32 rfl Try.ntmps32 Try.results32 [sv4 a0 a1 a2 a3] (by simp) (fun _ => rfl) ?_
  simp only [go_sem]
  refine sloop_rounds 5 ?_
  simp only [go_sem]
  exact fun ρ a w hs _ => ⟨rfl, hs.grown⟩
theorem at_c (x : V4) (n : Int) (w : World) : Calls Try.prog 33 #[x.v, .int .i64 n] w fun e w' => e = .returned (vu (x.at n)) ∧ Below w.heap.size w w' := by
  obtain ⟨a0, a1, a2, a3⟩ := x
  refine calls_pure 12 _ Try.func33 rfl Try.ntmps33 Try.results33 [sv4 a0 a1 a2 a3, .c (.v (.int .i64 n))] (by simp) (fun _ => rfl) ?_
  by_cases h : n = 1 ∨ n = 2 ∨ n = 3 ∨ n = 4
  · rcases h with rfl | rfl | rfl | rfl
    all_goals
      simp only [go_sem]
      refine scall_in 9 _ Try.func61 rfl Try.ntmps61 Try.results61 Try.call61 (by simp only [go_sem]) (fun _ _ => ?_)
      simp only [go_sem]
      exact fun ρ a w hs _ => ⟨rfl, hs.grown⟩
  · have e : V4.at ⟨a0, a1, a2, a3⟩ n = 0 := by simp only [V4.at]; split <;> (try split) <;> (try split) <;> (try split) <;> omega
    simp only [go_sem]
    refine scall_in 9 _ Try.func61 rfl Try.ntmps61 Try.results61 Try.call61 (by simp only [go_sem]) (fun _ _ => ?_)
    cases h1 : decide (1 ≤ n)
    · simp only [go_sem, h1]
      exact fun ρ a w hs _ => ⟨by rw [e]; rfl, hs.grown⟩
    · have h2 : decide (n ≤ 4) = false := by simp at h1 ⊢; omega
      simp only [go_sem, h1, h2]
      exact fun ρ a w hs _ => ⟨by rw [e]; rfl, hs.grown⟩

section
variable {C : Cx} {fr : List (Nat × SV)} {hp : List (Nat × Blk)} {nx : Nat} {d : Option Tmp} {K : St → Prop} {a0 a1 a2 a3 b0 b1 b2 b3 n : Int}
theorem join_s (h : dOk C.N d ∧ kput K ⟨fr, hp, nx⟩ d (V4.join ⟨a0, a1, a2, a3⟩ ⟨b0, b1, b2, b3⟩).s) : SCall Try.prog C 34 [sv4 a0 a1 a2 a3, sv4 b0 b1 b2 b3] d K ⟨fr, hp, nx⟩ :=
  scall_pure [vec4 _ _ _ _, vec4 _ _ _ _] _ _ Try.call34 (join_c ⟨a0, a1, a2, a3⟩ ⟨b0, b1, b2, b3⟩) rfl (fun _ => rfl) (fun _ => rfl) h
theorem leq_s (h : dOk C.N d ∧ kput K ⟨fr, hp, nx⟩ d (.c (.v (.bool (V4.leq ⟨a0, a1, a2, a3⟩ ⟨b0, b1, b2, b3⟩))))) : SCall Try.prog C 88 [sv4 a0 a1 a2 a3, sv4 b0 b1 b2 b3] d K ⟨fr, hp, nx⟩ :=
  scall_pure [vec4 _ _ _ _, vec4 _ _ _ _] _ _ Try.call88 (leq_c ⟨a0, a1, a2, a3⟩ ⟨b0, b1, b2, b3⟩) rfl (fun _ => rfl) (fun _ => rfl) h
theorem right_s (h : dOk C.N d ∧ kput K ⟨fr, hp, nx⟩ d (.c (.v (.bool (V4.right ⟨a0, a1, a2, a3⟩))))) : SCall Try.prog C 75 [sv4 a0 a1 a2 a3] d K ⟨fr, hp, nx⟩ :=
  scall_pure [vec4 _ _ _ _] _ _ Try.call75 (right_c ⟨a0, a1, a2, a3⟩) rfl (fun _ => rfl) (fun _ => rfl) h
theorem sum_s (h : dOk C.N d ∧ kput K ⟨fr, hp, nx⟩ d (.c (cu (V4.sum ⟨a0, a1, a2, a3⟩)))) : SCall Try.prog C 32 [sv4 a0 a1 a2 a3] d K ⟨fr, hp, nx⟩ :=
  scall_pure [vec4 _ _ _ _] _ _ Try.call32 (sum_c ⟨a0, a1, a2, a3⟩) rfl (fun _ => rfl) (fun _ => rfl) h
theorem at_s (h : dOk C.N d ∧ kput K ⟨fr, hp, nx⟩ d (.c (cu (V4.at ⟨a0, a1, a2, a3⟩ n)))) : SCall Try.prog C 33 [sv4 a0 a1 a2 a3, .c (.v (.int .i64 n))] d K ⟨fr, hp, nx⟩ :=
  scall_pure [vec4 _ _ _ _, .int .i64 n] _ _ Try.call33 (at_c ⟨a0, a1, a2, a3⟩ n) rfl (fun _ => rfl) (fun _ => rfl) h
end
end Go.Proofs.Ytagjblkfgjcmnaa
namespace Go.Proofs.Ytagjblkfgjcmnaa
open Go.RowKit Go.Sx
structure Wr where
  b : ByteArray
  k : ByteArray
  x : ByteArray
  g : Bool
deriving DecidableEq
def Wr.l (w : Wr) : List Value := [.string w.b, .string w.k, .string w.x, .bool w.g]
end Go.Proofs.Ytagjblkfgjcmnaa
namespace Go.Proofs.Ytagjblkfgjcmnaa
open Go.RowKit Go.Sx
attribute [local go_sem ↓] reduceIte
attribute [local go_sem] Nat.reduceEqDiff Nat.reduceLT Nat.reduceLeDiff Nat.reduceAdd Nat.reduceMul Nat.reduceSub Nat.reduceDiv Nat.reduceMod Int.reduceToNat Int.reduceLT Int.reduceLE Int.reduceAdd Int.reduceSub Int.reduceMul Int.reduceEq Int.reduceNeg reduceCtorEq or_false false_or decide_true decide_false Int.cast_ofNat_Int Nat.zero_add Nat.add_zero Int.toNat_natCast Option.isNone_none Option.isNone_some Bool.not_true Bool.not_false Bool.xor_true Bool.xor_false Bool.true_xor Bool.false_xor Bool.and_true Bool.true_and Bool.and_false Bool.false_and eq_self ne_eq not_false_eq_true not_true_eq_false true_and and_true and_self
def V4.wth (x : V4) (n m : Int) : V4 := if n = 1 then { x with a := m } else if n = 2 then { x with b := m } else if n = 3 then { x with c := m } else if n = 4 then { x with d := m } else x
theorem with_c (x : V4) (n m : Int) (w : World) : Calls Try.prog 30 #[x.v, .int .i64 n, vu m] w fun e w' => e = .returned (x.wth n m).v ∧ Below w.heap.size w w' := by
  obtain ⟨a0, a1, a2, a3⟩ := x
  refine calls_pure 14 _ Try.func30 rfl Try.ntmps30 Try.results30 [sv4 a0 a1 a2 a3, .c (.v (.int .i64 n)), .c (cu m)] (by simp) (fun _ => rfl) ?_
  by_cases h : n = 1 ∨ n = 2 ∨ n = 3 ∨ n = 4
  · rcases h with rfl | rfl | rfl | rfl
    all_goals
      simp only [go_sem]
      refine scall_in 9 _ Try.func61 rfl Try.ntmps61 Try.results61 Try.call61 (by simp only [go_sem]) (fun _ _ => ?_)
      simp only [go_sem]
      exact fun ρ a w hs _ => ⟨rfl, hs.grown⟩
  · have e : V4.wth ⟨a0, a1, a2, a3⟩ n m = ⟨a0, a1, a2, a3⟩ := by simp only [V4.wth]; split <;> (try split) <;> (try split) <;> (try split) <;> first | rfl | omega
    rw [e]
    simp only [go_sem]
    refine scall_in 9 _ Try.func61 rfl Try.ntmps61 Try.results61 Try.call61 (by simp only [go_sem]) (fun _ _ => ?_)
    cases h1 : decide (1 ≤ n)
    · simp only [go_sem, h1]
      exact fun ρ a w hs _ => ⟨rfl, hs.grown⟩
    · have h2 : decide (n ≤ 4) = false := by simp at h1 ⊢; omega
      simp only [go_sem, h1, h2]
      exact fun ρ a w hs _ => ⟨rfl, hs.grown⟩
abbrev V4.sv (x : V4) : SV := sv4 x.a x.b x.c x.d
theorem with_s {C : Cx} {fr : List (Nat × SV)} {hp : List (Nat × Blk)} {nx : Nat} {d : Option Tmp} {K : St → Prop} {x : V4} {n m : Int} (h : dOk C.N d ∧ kput K ⟨fr, hp, nx⟩ d (x.wth n m).sv) : SCall Try.prog C 30 [sv4 x.a x.b x.c x.d, .c (.v (.int .i64 n)), .c (cu m)] d K ⟨fr, hp, nx⟩ :=
  scall_pure [x.v, .int .i64 n, vu m] _ (x.wth n m).v Try.call30 (with_c x n m) rfl (fun _ => rfl) (fun _ => rfl) h
end Go.Proofs.Ytagjblkfgjcmnaa
namespace Go.Sx
open Go.RowKit
section
variable {P : Program} {C : Cx} {fr : List (Nat × SV)} {hp : List (Nat × Blk)} {nx : Nat}

theorem SOp_put {o : Oper} {K : St → Prop} {st : St} {d : Tmp} (v : SV) (hd : o.dst = some d) (hok : v.ok = true) (h : ∀ ρ a w, Sat C st ρ a w → (execOp a.eval o).run P w = .ok (.value (v.den ρ)) w)
    (hv : ∀ ρ a w, Sat C st ρ a w → ∀ ρ' : Env, (∀ k, k < st.nx → ρ' k = ρ k) → v.den ρ = v.den ρ') (hK : d < C.N ∧ K (st.put (some d) v)) : SOp P C o K st := fun ρ a w hs => by
  refine wp_value (h ρ a w hs) ⟨_, ρ, hK.2, ?_, by simp [St.put], fun _ _ => rfl⟩
  rw [hd]
  exact hs.put hK.1 fun _ ρ' hρ' => hv ρ a w hs ρ' hρ'
theorem sappend_none {d : Tmp} {x y : Operand} {t E ty : TypeId} {pos : String} {af : Array Edge} {g : Option (Nat × Bool)} {K : St → Prop}
    (hx : St.ev ⟨fr, hp, nx⟩ x = .c (.v (.slice none 0 0))) (hy : St.ev ⟨fr, hp, nx⟩ y = .c (.v (.slice none 0 0))) (hk : tkind P t = some (.slc E)) {sz : Nat} (h1 : tsz P E = some sz)
    (hK : d < C.N ∧ K ⟨(d, .c (.v (.slice none 0 0))) :: fr, hp, nx⟩) :
    SOp P C ⟨some d, .call { callee := .builtin .append, args := #[x, y], argTypes := #[t, t] }, ty, pos, af, g⟩ K ⟨fr, hp, nx⟩ := by
  obtain ⟨ds, hu, hds⟩ := kind_of hk
  simp only at hds; subst hds
  refine SOp_put (.c (.v (.slice none 0 0))) rfl rfl (fun ρ a w hs => ?_) (fun _ _ _ _ _ _ => rfl) hK
  simp [execOp, resolve, invoke, builtin, Builtin.append_, ev_c hs.fr' hx rfl, ev_c hs.fr' hy rfl, SV.den, CV.den, run_underlying hu, sizeOf_of h1, Builtin.lenOf, Builtin.firstCells]
end
end Go.Sx
namespace Go.Sx
open Go.RowKit
section
variable {P : Program} {C : Cx} {fr : List (Nat × SV)} {hp : List (Nat × Blk)} {nx : Nat}
def entQ (C : Cx) (Q : Exit → St → Prop) (e : Exit) (st : St) : Prop := ∃ st', Ent C st st' ∧ Q e st'
theorem SCode_post {c : Code} {Q : Exit → St → Prop} {st : St} (h : SCode P C c (entQ C Q) st) : SCode P C c Q st := fun ρ a w hs => by
  refine Code.wp_mono (fun e a' w' he => ?_) (h ρ a w hs)
  unfold QQ at he ⊢
  split at he
  · exact he
  · exact he
  · obtain ⟨st1, ρ1, ⟨st2, h2, h3⟩, h4, h5⟩ := he
    obtain ⟨ρ2, h6, h7⟩ := h2 ρ1 a' w' h4
    exact ⟨st2, ρ2, h3, h6, fun k hk => (h7 k hk).trans (h5 k hk)⟩

theorem frBl_lk {n : Nat} : ∀ {fr : List (Nat × SV)}, frBl n fr → ∀ t, (lk fr t).ok = true → (lk fr t).bl n
  | [], _, t, h => by cases h
  | (a, x) :: r, hb, t, h => by
    simp only [lk] at h ⊢
    cases hq : Nat.beq a t with
    | true => exact hb.1
    | false => rw [hq] at h; exact frBl_lk hb.2 t h
theorem den_bl {x : SV} {n : Nat} (hb : x.bl n) {ρ ρ' : Env} (h : ∀ k, k < n → ρ' k = ρ k) : x.den ρ' = x.den ρ := by
  have := SV.den_rn id n ρ ρ' h x hb
  rw [SV.rn_id] at this
  exact this.symm
theorem scode_reads {c : Code} {Q : Exit → St → Prop} {fr1 : List (Nat × SV)} {hp1 : List (Nat × Blk)} {nx1 : Nat}
    (hsec : ∀ ρ a w, Sat C ⟨fr, hp, nx⟩ ρ a w → ∃ ρ' : Env, (∀ k, k < nx → ρ' k = ρ k) ∧ Sat ⟨w, fun _ => False, C.N, nx, ρ'⟩ ⟨fr1, hp1, nx1⟩ ρ' a w)
    (h : ∀ w ρ', SCode P ⟨w, fun _ => False, C.N, nx, ρ'⟩ c (fun e st => ∃ fr', frSub st.fr fr' ∧ frBl nx fr' ∧ Q e ⟨fr', hp, nx⟩) ⟨fr1, hp1, nx1⟩) : SCode P C c Q ⟨fr, hp, nx⟩ := fun ρ a w hs => by
  obtain ⟨ρ', h1, h2⟩ := hsec ρ a w hs
  refine Code.wp_mono (fun e a' w' he => ?_) (h w ρ' ρ' a w h2)
  unfold QQ at he ⊢
  split at he
  · exact he
  · exact he
  · obtain ⟨st1, ρ1, ⟨fr', g1, g2, g3⟩, h4, h5⟩ := he
    have key : Sat C ⟨fr', hp, nx⟩ ρ a' w' := fun ρ2 hρ2 => by
      have h0 := (hs.below h4.grown) ρ2 hρ2
      refine ⟨fun t ht => ?_, h4.now.defers, ⟨h4.now.size.1, h0.size.2⟩, h0.keeps, h0.hp, h0.nodup, h0.names, h0.once, h0.n0le⟩
      have e1 := frSub_lk g1 t ht
      have e2 := h4.now.fr t (by rw [e1]; exact ht)
      rw [e2, e1]
      refine (den_bl (frBl_lk g2 t ht) fun k hk => ?_).symm
      rw [hρ2 k hk, h5 k hk, h1 k hk]
    exact ⟨_, ρ, g3, key, fun _ _ => rfl⟩
def ptrSV (n g : Nat) : SV → SV
  | .c (.p m 0 0) => bif Nat.beq m n then .c (.v (.pointer (some ⟨g, 0, none⟩))) else .c (.p m 0 0)
  | x => x
def ptrFr (n g : Nat) : List (Nat × SV) → List (Nat × SV)
  | [] => []
  | (t, x) :: r => (t, ptrSV n g x) :: ptrFr n g r
theorem ptrFr_lk (n g t : Nat) : ∀ fr : List (Nat × SV), lk (ptrFr n g fr) t = ptrSV n g (lk fr t)
  | [] => rfl
  | (a, x) :: r => by
    simp only [ptrFr, lk]
    cases Nat.beq a t
    · exact ptrFr_lk n g t r
    · rfl
theorem ptrSV_den {n : Nat} {ρ : Env} (hb : (ρ n).base = 0) : ∀ x : SV, (ptrSV n (ρ n).blk x).den ρ = x.den ρ ∧ (ptrSV n (ρ n).blk x).ok = x.ok := fun x => by
  unfold ptrSV
  split
  · rename_i m
    cases hq : Nat.beq m n with
    | true =>
      have := Nat.eq_of_beq_eq_true hq; subst this
      simp [SV.den, CV.den, hb, SV.ok]
    | false => exact ⟨rfl, rfl⟩
  · exact ⟨rfl, rfl⟩
theorem Sat.own_of {a : Act} {ρ : Env} {w : World} (hs : Sat C ⟨fr, hp, nx⟩ ρ a w) (n : Nat) {b : Blk} (R : World → Prop) (hg : hget hp n = some b) (hf : ∀ ρ' : Env, ρ' n = ρ n → b.foot ρ' n = [(ρ n).blk]) (hb : b.holds C ρ n w → (ρ n).base = 0 ∧ R w) (hst : Stable [(ρ n).blk] R) : Sat C ⟨ptrFr n (ρ n).blk fr, hset hp n (.pred [(ρ n).blk] R), nx⟩ ρ a w := by
  have hh := hs.now.hp _ _ (mem_hget hg)
  obtain ⟨hb0, hR⟩ := hb hh
  have hn : n < nx := hs.now.names _ _ (mem_hget hg)
  have hlt := Blk.foot_lt hh (ρ n).blk (by rw [hf ρ rfl]; simp)
  have hk := hs.now.keeps
  have h1 := Sat.set hs (b := n) (old := b) (new := .pred [(ρ n).blk] R) hg (w' := w) hk (Nat.le_refl _) (fun _ _ _ _ => rfl)
    (fun ρ' hρ => ⟨by rw [hf ρ' (hρ n hn)]; rfl, hR, hst, by simp, fun k hk => by simp at hk; subst hk; exact hlt⟩)
  intro ρ' hρ
  have h0 := h1 ρ' hρ
  refine ⟨fun t ht => ?_, h0.defers, h0.size, h0.keeps, h0.hp, h0.nodup, h0.names, h0.once, h0.n0le⟩
  have hbase : (ρ' n).base = 0 := by rw [hρ n hn]; exact hb0
  have hp := ptrSV_den hbase (lk fr t)
  rw [hρ n hn] at hp
  show _ = (lk (ptrFr n (ρ n).blk fr) t).den ρ'
  rw [ptrFr_lk] at *
  rw [hp.1]
  exact h0.fr t (by rw [← hp.2]; exact ht)
theorem scall_own {f : FuncId} {args : List SV} {d : Option Tmp} {K : St → Prop} (n : Nat) {b : Blk} (R : Nat → World → Prop) (hg : hget hp n = some b) (hf : ∀ ρ : Env, b.foot ρ n = [(ρ n).blk]) (hb : ∀ ρ w, b.holds C ρ n w → (ρ n).base = 0 ∧ R (ρ n).blk w) (hst : ∀ g, Stable [g] (R g))
    (h : ∀ g, SCall P C f args d K ⟨ptrFr n g fr, hset hp n (.pred [g] (R g)), nx⟩) : SCall P C f args d K ⟨fr, hp, nx⟩ := by
  refine ⟨(h 0).1, fun ρ w a hs hv => ?_⟩
  exact (h (ρ n).blk).2 ρ w a (hs.own_of n (R (ρ n).blk) hg (fun ρ' e => by rw [hf ρ', e]) (hb ρ w) (hst _)) hv
theorem scall_drop {f : FuncId} {args : List SV} {d : Option Tmp} {K : St → Prop} {fr' : List (Nat × SV)} {hp' : List (Nat × Blk)} (h1 : frSub fr fr') (h2 : hpSub hp hp') (h3 : (hp'.map (·.1)).Nodup) (h : SCall P C f args d K ⟨fr', hp', nx⟩) : SCall P C f args d K ⟨fr, hp, nx⟩ := by
  refine ⟨h.1, fun ρ w a hs hv => h.2 ρ w a (fun ρ' hρ => ?_) hv⟩
  have h0 := hs ρ' hρ
  refine ⟨fun t ht => ?_, h0.defers, h0.size, h0.keeps, fun m b hm => h0.hp m b (mem_hget (hpSub_mem h2 m b hm)), sub_nodup h0.nodup _ (fun x hx => mem_hget (hpSub_mem h2 x.1 x.2 hx)) h3, fun m b hm => h0.names m b (mem_hget (hpSub_mem h2 m b hm)), h3, h0.n0le⟩
  have := frSub_lk h1 t ht
  rw [h0.fr t (by show (lk fr t).ok = true; rw [this]; exact ht)]
  show (lk fr t).den ρ' = _
  rw [this]
theorem scall_fact {f : FuncId} {args : List SV} {d : Option Tmp} {K : St → Prop} {φ : Prop} {fp : List Nat} {R : World → Prop} (n : Nat) (hg : hget hp n = some (.pred fp R)) (hok : SV.okL args = true) (hR : ∀ w, R w → φ) (h : φ → SCall P C f args d K ⟨fr, hp, nx⟩) : SCall P C f args d K ⟨fr, hp, nx⟩ :=
  ⟨hok, fun ρ w a hs hv => (h (hR w (hs.now.hp _ _ (mem_hget hg)).1)).2 ρ w a hs hv⟩
def frR (ρ : Env) (fr : List (Nat × SV)) : List (Nat × SV) → Prop
  | [] => True
  | (t, x) :: r => ((lk fr t).ok = true ∧ (lk fr t).den ρ = x.den ρ) ∧ frR ρ fr r
theorem frR_lk {ρ : Env} {fr : List (Nat × SV)} : ∀ {fr1 : List (Nat × SV)}, frR ρ fr fr1 → ∀ t, (lk fr1 t).ok = true → (lk fr t).ok = true ∧ (lk fr t).den ρ = (lk fr1 t).den ρ
  | [], _, t, h => by cases h
  | (a, x) :: r, hh, t, h => by
    simp only [lk] at h ⊢
    cases hb : Nat.beq a t with
    | true => have := Nat.eq_of_beq_eq_true hb; subst this; exact hh.1
    | false => rw [hb] at h; exact frR_lk hh.2 t h
def allImm : List (Nat × Blk) → Bool
  | [] => true
  | (_, .imm ..) :: r => allImm r
  | _ => false
theorem allImm_foot (ρ : Env) : ∀ {hp : List (Nat × Blk)}, allImm hp = true → footL ρ hp = []
  | [], _ => rfl
  | (n, b) :: r, h => by
    cases b <;> simp only [allImm] at h <;> first | (cases h; done) | skip
    simp only [footL, Blk.foot, List.nil_append]
    exact allImm_foot ρ h
theorem Sat.reads {ρ : Env} {a : Act} {w : World} (hs : Sat C ⟨fr, hp, nx⟩ ρ a w) {fr1 : List (Nat × SV)} {hp1 : List (Nat × Blk)} {nx1 : Nat} (ρ' : Env) (hρ : ∀ k, k < nx → ρ' k = ρ k) (hn : nx ≤ nx1)
    (hfr : ∀ ρ2 : Env, (∀ k, k < nx1 → ρ2 k = ρ' k) → frR ρ2 fr fr1) (him : allImm hp1 = true) (hone : (hp1.map (·.1)).Nodup) (hnm : ∀ n b, (n, b) ∈ hp1 → n < nx1)
    (hh : ∀ ρ2 : Env, (∀ k, k < nx1 → ρ2 k = ρ' k) → HpOk C ρ2 w hp → HpOk ⟨w, fun _ => False, C.N, nx, ρ'⟩ ρ2 w hp1) : Sat ⟨w, fun _ => False, C.N, nx, ρ'⟩ ⟨fr1, hp1, nx1⟩ ρ' a w := fun ρ2 hρ2 => by
  have hρ2' : ∀ k, k < nx → ρ2 k = ρ k := fun k hk => by rw [hρ2 k (by show k < nx1; omega), hρ k hk]
  have h0 := hs ρ2 hρ2'
  refine ⟨fun t ht => ?_, h0.defers, ⟨h0.size.1, fun k hk => hρ2 k (Nat.lt_of_lt_of_le hk hn)⟩, Keeps.refl _ _, hh ρ2 hρ2 h0.hp, by rw [allImm_foot ρ2 him]; exact List.nodup_nil, hnm, hone, hn⟩
  obtain ⟨e1, e2⟩ := frR_lk (hfr ρ2 hρ2) t ht
  rw [← e2]
  exact h0.fr t e1
theorem imm_rows {C' : Cx} {ρ : Env} {w : World} {n ty e m c : Nat} {r : Nat → List CV} (hC : C'.w0 = w ∧ ∀ k, ¬ C'.M k) (h : Blk.holds C ρ n w (.rows ty e m c r)) : Blk.holds C' ρ n w (.imm e m r) := by
  obtain ⟨h1, h2, ⟨arr, h3, h4, h5⟩, h6⟩ := h
  refine ⟨h2, fun i hi => ⟨(h5 i hi).1, fun k hk => ?_⟩, fun _ => ⟨by rw [hC.1]; exact h3.lt, hC.2 _⟩⟩
  rw [h1, h3.cell, Nat.zero_add]
  exact (h5 i hi).2 k hk
theorem ptrFr_n {n g : Nat} : ptrFr n g [] = [] := (rfl)
theorem ptrFr_c {n g t : Nat} {x : SV} {r : List (Nat × SV)} : ptrFr n g ((t, x) :: r) = (t, ptrSV n g x) :: ptrFr n g r := (rfl)
theorem ptrSV_p {n g m : Nat} : ptrSV n g (.c (.p m 0 0)) = if m = n then .c (.v (.pointer (some ⟨g, 0, none⟩))) else .c (.p m 0 0) := by
  simp only [ptrSV, natBeq]
  by_cases h : m = n <;> simp [h]
theorem ptrSV_v {n g : Nat} {x : Value} : ptrSV n g (.c (.v x)) = .c (.v x) := (rfl)
theorem ptrSV_s {n g a b c d : Nat} : ptrSV n g (.c (.s a b c d)) = .c (.s a b c d) := (rfl)
theorem ptrSV_f {n g : Nat} {f : FuncId} {l : List CV} : ptrSV n g (.c (.fn f l)) = .c (.fn f l) := (rfl)
theorem ptrSV_a {n g : Nat} {l : List CV} : ptrSV n g (.agg l) = .agg l := (rfl)
theorem ptrSV_t {n g : Nat} {l : List SV} : ptrSV n g (.tup l) = .tup l := (rfl)
theorem ptrSV_b {n g : Nat} : ptrSV n g .bad = .bad := (rfl)
attribute [go_sem] ptrFr_n ptrFr_c ptrSV_p ptrSV_v ptrSV_s ptrSV_f ptrSV_a ptrSV_t ptrSV_b
end
end Go.Sx
namespace Go.Sx
open Go.RowKit
def rput (r : Nat → List CV) (i q : Nat) (s : Nat → List CV) (p : Nat) : List CV := if i ≤ p ∧ p < i + q then s (p - i) else r p

section
variable {P : Program} {C : Cx} {fr : List (Nat × SV)} {hp : List (Nat × Blk)} {nx : Nat}

theorem rowcell {ρ : Env} {w : World} (hok : HpOk C ρ w hp) {b e m : Nat} {r : Nat → List CV} (h : rowRd (hget hp b) = some (e, m, r)) {p : Nat} (hp' : p < m) :
    (ρ b).esz = e ∧ (r p).length = e ∧ ∀ q, q < e → w.cell? ⟨(ρ b).blk, (ρ b).base + p * e + q, none⟩ = ((r p)[q]?).map (CV.den ρ) := by
  unfold rowRd at h
  split at h
  · rename_i hb
    injection h with h; injection h with h1 h2; injection h2 with h2 h3; subst h1; subst h2; subst h3
    obtain ⟨g0, g1, ⟨arr, g2, _, g3⟩, _⟩ := hok _ _ (mem_hget hb)
    refine ⟨g1, (g3 p hp').1, fun q hq => ?_⟩
    rw [← (g3 p hp').2 q hq]
    rw [g0, g2.cell, Nat.zero_add]
  · rename_i hb
    injection h with h; injection h with h1 h2; injection h2 with h2 h3; subst h1; subst h2; subst h3
    obtain ⟨g1, g3, _⟩ := hok _ _ (mem_hget hb)
    exact ⟨g1, (g3 p hp').1, fun q hq => (g3 p hp').2 q hq⟩
  · cases h
theorem rowRd_lt {ρ : Env} {a : Act} {w : World} (hs : Sat C ⟨fr, hp, nx⟩ ρ a w) {b : Nat} {x : Nat × Nat × (Nat → List CV)} (h : rowRd (hget hp b) = some x) : b < nx := by
  unfold rowRd at h
  split at h
  · rename_i hb; exact hs.now.names _ _ (mem_hget hb)
  · rename_i hb; exact hs.now.names _ _ (mem_hget hb)
  · cases h
theorem den_row {ρ : Env} {a : Act} {w : World} (hs : Sat C ⟨fr, hp, nx⟩ ρ a w) {b e m : Nat} {r : Nat → List CV} (h : rowRd (hget hp b) = some (e, m, r)) {p : Nat} (hp' : p < m) {ρ' : Env} (hρ : ∀ k, k < nx → ρ' k = ρ k) : (r p).map (CV.den ρ') = (r p).map (CV.den ρ) := by
  obtain ⟨_, h1, h2⟩ := rowcell hs.now.hp h hp'
  obtain ⟨_, _, h3⟩ := rowcell (hs ρ' hρ).hp h hp'
  have hb := rowRd_lt hs h
  apply List.ext_getElem?
  intro q
  rw [List.getElem?_map, List.getElem?_map]
  by_cases hq : q < e
  · rw [← h2 q hq, ← h3 q hq, hρ b hb]
  · rw [List.getElem?_eq_none (by omega)]; rfl

theorem known_size {arr : Array Value} {e m : Nat} {r : Nat → List CV} {ρ : Env} (he : 0 < e) (g3 : ∀ i, i < m → (r i).length = e ∧ ∀ k, k < e → arr[i * e + k]? = ((r i)[k]?).map (CV.den ρ)) {n : Nat} (hn : n ≤ m) : n * e ≤ arr.size := by
  rcases Nat.eq_zero_or_pos n with h0 | h0
  · subst h0; simp
  · have h4 := (g3 (n - 1) (by omega)).2 (e - 1) (by omega)
    have h5 : ((r (n - 1))[e - 1]?).isSome := by simp [(g3 (n - 1) (by omega)).1]; omega
    have h6 : (arr[(n - 1) * e + (e - 1)]?).isSome := by rw [h4]; simpa using h5
    simp at h6
    have : n * e = (n - 1) * e + e := by rw [show n = n - 1 + 1 by omega, Nat.add_mul]; simp
    omega
theorem store_rows {ρ : Env} {a : Act} {w : World} (hs : Sat C ⟨fr, hp, nx⟩ ρ a w) {b ty e m c : Nat} {r : Nat → List CV} (hb : hget hp b = some (.rows ty e m c r)) (he : 0 < e) {i q : Nat} (hi : i ≤ m) (hq : i + q ≤ c) {s : Nat → List CV}
    (hl : ∀ p, p < q → (s p).length = e) (hone : ∀ p, p < q → (s p).all one1 = true) (hden : ∀ ρ' : Env, (∀ k, k < nx → ρ' k = ρ k) → ∀ p, p < q → (s p).map (CV.den ρ') = (s p).map (CV.den ρ)) :
    ∃ w', (storeCells ⟨(ρ b).blk, i * e, none⟩ ((rowsL s q).map (CV.den ρ))).run P w = .ok () w' ∧ Sat C ⟨fr, hset hp b (.rows ty e (max m (i + q)) c (rput r i q s)), nx⟩ ρ a w' := by
  obtain ⟨g0, ge, ⟨arr, g1, gc, g3⟩, gown⟩ := hs.now.hp _ _ (mem_hget hb)
  have hbn := hs.now.names _ _ (mem_hget hb)
  have hln : ((rowsL s q).map (CV.den ρ)).length = q * e := by rw [List.length_map, rowsL_len q hl]
  have hfit : i * e + q * e ≤ arr.size := by rw [← Nat.add_mul]; exact Nat.le_trans (Nat.mul_le_mul_right _ hq) gc
  have hone' : ∀ v ∈ (rowsL s q).map (CV.den ρ), v.oneCell' = true := one_news hone ρ
  have hrun := g1.store (P := P) (o := i * e) ((rowsL s q).map (CV.den ρ)) (by rw [hln]; omega) hone'
  rw [hln] at hrun
  have hie : i * e ≤ arr.size := by omega
  refine ⟨_, hrun, hs.set hb (hs.now.keeps.setRow _ _ gown) (by simp) (fun ρ' hρ k hk => setRow_other _ _ _ _ (fun e => hk (by simp [Blk.foot, hρ b hbn, e])))
    (fun ρ' hρ => ⟨rfl, by rw [hρ b hbn]; exact g0, by rw [hρ b hbn]; exact ge, ⟨_, by rw [hρ b hbn]; exact g1.setRow (by simp [hln]; omega), by simp [hln]; omega, fun p hp => ?_⟩, by rw [hρ b hbn]; exact gown⟩)⟩
  unfold rput
  by_cases hpi : i ≤ p ∧ p < i + q
  · simp only [hpi, and_self, if_true]
    refine ⟨hl (p - i) (by omega), fun u hu => ?_⟩
    have e0 : p * e + u = i * e + ((p - i) * e + u) := by
      have : p * e = i * e + (p - i) * e := by rw [← Nat.add_mul]; congr 1; omega
      omega
    have e1 : (p - i + 1) * e ≤ q * e := Nat.mul_le_mul_right _ (by omega)
    rw [Nat.add_mul] at e1
    rw [e0, List.getElem?_toArray, List.getElem?_append_left (by simp [hln]; omega), List.getElem?_append_right (by simp; omega)]
    rw [show i * e + ((p - i) * e + u) - (arr.toList.take (i * e)).length = (p - i) * e + u by simp; omega]
    rw [List.getElem?_map, rowsL_get q hl (p - i) u (by omega) hu, ← List.getElem?_map, ← hden ρ' hρ (p - i) (by omega), List.getElem?_map]
  · rw [if_neg hpi]
    have hpm : p < m := by omega
    obtain ⟨_, _, ⟨arr', g1', _, g3'⟩, _⟩ := (hs ρ' hρ).hp _ _ (mem_hget hb)
    rw [hρ b hbn] at g1'
    have g1' := g1.inj g1'
    subst g1'
    refine ⟨(g3' p hpm).1, fun u hu => ?_⟩
    rw [← (g3' p hpm).2 u hu, List.getElem?_toArray]
    have e2 : (p + 1) * e = p * e + e := by rw [Nat.add_mul]; omega
    rcases Nat.lt_or_ge p i with hlt | hge
    · have : (p + 1) * e ≤ i * e := Nat.mul_le_mul_right _ hlt
      rw [List.append_assoc, List.getElem?_append_left (by simp; omega), List.getElem?_take_of_lt (by omega), Array.getElem?_toList]
    · have hge' : i + q ≤ p := by omega
      have : (i + q) * e ≤ p * e := Nat.mul_le_mul_right _ hge'
      rw [Nat.add_mul] at this
      rw [List.getElem?_append_right (by simp [hln]; omega), List.getElem?_drop, Array.getElem?_toList]
      congr 1; simp [hln]; omega

theorem wp_run {o : Oper} {a : Act} {w w' : World} {v : Value} {K : Act → World → Prop} (h : (execOp a.eval o).run P w = .ok (.value v) w') (hK : K (a.put o.dst v) w') : o.wp P a w K nQ := wp_value h hK

theorem scopy {d : Option Tmp} {x y : Operand} {t t2 E ty0 ty : TypeId} {pos : String} {af : Array Edge} {g : Option (Nat × Bool)} {K : St → Prop} {b i n c b2 j k c2 sz m cc m2 q : Nat} {r r2 : Nat → List CV}
    (hx : St.ev ⟨fr, hp, nx⟩ x = .c (.s b i n c)) (hy : St.ev ⟨fr, hp, nx⟩ y = .c (.s b2 j k c2)) (hk : tkind P t = some (.slc E)) (h1 : tsz P E = some sz) (hb : hget hp b = some (.rows ty sz m cc r)) (hr : rowRd (hget hp b2) = some (sz, m2, r2))
    (hq : min k n = q) (hz : 0 < sz ∧ i ≤ m ∧ i + q ≤ cc ∧ j + q ≤ m2) (hone : ∀ p, p < q → (r2 (j + p)).all one1 = true)
    (hK : dOk C.N d ∧ K (St.put ⟨fr, hset hp b (.rows ty sz (max m (i + q)) cc (rput r i q fun p => r2 (j + p))), nx⟩ d (.c (.v (.int .i64 q))))) :
    SOp P C ⟨d, .call { callee := .builtin .copy, args := #[x, y], argTypes := #[t, t2] }, ty0, pos, af, g⟩ K ⟨fr, hp, nx⟩ := fun ρ a w hs => by
  obtain ⟨hsz, him, hic, hjm⟩ := hz
  obtain ⟨ds, hu, hds⟩ := kind_of hk
  simp only at hds; subst hds
  obtain ⟨g0, ge, _, _⟩ := hs.now.hp _ _ (mem_hget hb)
  have hrc : ∀ p, p < q → _ := fun p (hp' : p < q) => rowcell hs.now.hp hr (p := j + p) (by omega)
  have hl : ∀ p, p < q → (r2 (j + p)).length = sz := fun p hp' => (hrc p hp').2.1
  obtain ⟨w', hst, hsat⟩ := store_rows (P := P) hs hb hsz him hic hl hone (fun ρ' hρ p hp' => den_row hs hr (by omega) hρ)
  have hln := rowsL_len q hl
  have hld : (loadCells ⟨(ρ b2).blk, (ρ b2).base + j * (ρ b2).esz, none⟩ (q * sz)).run P w = .ok ((rowsL (fun p => r2 (j + p)) q).map (CV.den ρ)).toArray w := by
    have := run_loadCells_list (P := P) w ⟨(ρ b2).blk, (ρ b2).base + j * (ρ b2).esz, none⟩ ((rowsL (fun p => r2 (j + p)) q).map (CV.den ρ)) (fun u v hv => by
      have hu' : u < q * sz := by
        have := (List.getElem?_eq_some_iff.1 hv).1
        rw [List.length_map, hln] at this; exact this
      obtain ⟨d1, d2, d3⟩ := div_mod_lt hu' hsz
      obtain ⟨e1, e2, e3⟩ := hrc (u / sz) d1
      rw [← hv, List.getElem?_map]
      have e4 := rowsL_get q hl (u / sz) (u % sz) d1 d2
      rw [d3] at e4
      rw [e4, ← e3 (u % sz) d2, addr_add _ _ rfl, e1]
      have e9 : (ρ b2).base + (j + u / sz) * sz + u % sz = (ρ b2).base + j * sz + u := by rw [Nat.add_mul]; omega
      rw [e9])
    rw [List.length_map, hln] at this
    exact this
  refine wp_value (v := .int .i64 q) (w' := w') ?_ ⟨_, ρ, hK.2, hsat.put hK.1 fun _ _ _ => rfl, by cases d <;> simp [St.put], fun _ _ => rfl⟩
  simp only [execOp, resolve, invoke, builtin]
  simp [ev_c hs.fr' hx rfl, ev_c hs.fr' hy rfl, SV.den, CV.den, Builtin.copy_, run_underlying hu, Builtin.lenOf, sizeOf_of h1, Builtin.firstCells, Nat.min_def]
  simp only [Nat.min_def] at hq
  rw [hq, hld]
  simp [g0, ge]
  rw [hst]
  simp [goInt]

theorem sclear {d : Option Tmp} {x : Operand} {t E ty0 ty : TypeId} {pos : String} {af : Array Edge} {g : Option (Nat × Bool)} {K : St → Prop} {b i n c sz m cc : Nat} {zs : List Value} {r : Nat → List CV}
    (hx : St.ev ⟨fr, hp, nx⟩ x = .c (.s b i n c)) (hk : tkind P t = some (.slc E)) (h1 : tsz P E = some sz) (h3 : tzero P E = some zs) (hb : hget hp b = some (.rows ty sz m cc r))
    (hz : (0 < sz ∧ zs.length = sz ∧ zs.all (fun v => one1 (.v v)) = true) ∧ i ≤ m ∧ i + n ≤ cc)
    (hK : dOk C.N d ∧ K (St.put ⟨fr, hset hp b (.rows ty sz (max m (i + n)) cc (rput r i n fun _ => zs.map .v)), nx⟩ d (.tup []))) :
    SOp P C ⟨d, .call { callee := .builtin .clear, args := #[x], argTypes := #[t] }, ty0, pos, af, g⟩ K ⟨fr, hp, nx⟩ := fun ρ a w hs => by
  obtain ⟨⟨hsz, hzl, hzo⟩, him, hic⟩ := hz
  obtain ⟨ds, hu, hds⟩ := kind_of hk
  simp only at hds; subst hds
  obtain ⟨g0, ge, _, _⟩ := hs.now.hp _ _ (mem_hget hb)
  have hl : ∀ p, p < n → ((fun _ => zs.map CV.v) p : List CV).length = sz := fun p _ => by simp [hzl]
  obtain ⟨w', hst, hsat⟩ := store_rows (P := P) hs hb hsz him hic hl (fun p _ => by simpa [List.all_map, Function.comp_def] using hzo) (fun ρ' hρ p hp' => by rw [map_v, map_v])
  obtain ⟨z, hzz, hzc⟩ := zero_of h3 w
  have hcells : (Builtin.zeroCells z.cells n).toList = (rowsL (fun _ => zs.map CV.v) n).map (CV.den ρ) := by
    have hzs : z.cells.size = sz := by rw [← Array.length_toList, hzc, hzl]
    apply List.ext_getElem?
    intro u
    by_cases hu' : u < n * sz
    · obtain ⟨d1, d2, d3⟩ := div_mod_lt hu' hsz
      have e4 := rowsL_get n hl (u / sz) (u % sz) d1 d2
      rw [d3] at e4
      rw [List.getElem?_map, e4, ← List.getElem?_map, map_v]
      simp only [Builtin.zeroCells, Array.toList_map, Array.toList_range, List.getElem?_map, hzs, List.getElem?_range hu', Option.map_some]
      have : u % sz < z.cells.size := by rw [hzs]; exact d2
      rw [getElem!_pos z.cells (u % sz) this, ← hzc]
      simp [this]
    · rw [List.getElem?_eq_none (by simp [Builtin.zeroCells, hzs]; omega), List.getElem?_eq_none (by rw [List.length_map, rowsL_len n hl]; omega)]
  refine wp_value (v := .tuple #[]) (w' := w') ?_ ⟨_, ρ, hK.2, hsat.put hK.1 fun _ _ _ => rfl, by cases d <;> simp [St.put], fun _ _ => rfl⟩
  simp only [execOp, resolve, invoke, builtin]
  simp [ev_c hs.fr' hx rfl, SV.den, CV.den, Builtin.clear_, run_underlying hu]
  cases n with
  | zero =>
    have hw : w' = w := by
      have : (rowsL (fun _ => zs.map CV.v) 0 : List CV) = [] := rfl
      rw [this] at hst
      simp [storeCells] at hst
      exact hst.symm
    subst hw
    simp
  | succ n =>
    simp [hzz, hcells, g0, ge]
    rw [hst]; simp
end
end Go.Sx
namespace Go.Sx
open Go.RowKit
section
variable {P : Program} {C : Cx} {fr : List (Nat × SV)} {hp : List (Nat × Blk)} {nx : Nat}

theorem run_append_zeros (w : World) (t tn ty e : TypeId) (i : TypeInfo) (z : Value) (kk kn : IntKind) (ht : P.underlying t = some (.slice e)) (htn : P.underlying tn = some (.int kn)) (hi : P.info? e = some i) (hz : i.zero = some z)
    (b : Addr) (sLen sCap : Nat) (olds : List Value) (hlo : olds.length = sLen * i.size) (holds : ∀ j v, olds[j]? = some v → w.cell? (b.add j) = some v)
    (n : Nat) (h0 : 0 < n) (hs : 0 < i.size) (hg : sCap < sLen + n) (h63 : ((sLen + n : Nat) : Int) ≤ 9223372036854775807) (hfit : Builtin.nextslicecap (sLen + n) sCap * i.bytes ≤ 281474976710656) (h48 : n * i.bytes ≤ 281474976710656) :
    (Builtin.append_ #[t, tn] ty #[.slice (some b) sLen sCap, .int kk n]).run P w =
      .ok (.slice (some ⟨w.heap.size, 0, none⟩) (sLen + n) (grownCap w (sLen + n) sCap e))
        (w.drew.alloc (.cells (olds.toArray ++ Builtin.zeroCells z.cells n ++ Builtin.zeroCells z.cells (grownCap w (sLen + n) sCap e - (sLen + n))) e)) := by
  have hn : ¬ (sLen + n ≤ sCap) := by omega
  have hw : IntKind.i64.wrap (n : Int) = n := wrap_i64 _ (by omega) (by omega)
  have h63' : ¬ (9223372036854775807 < ((sLen : Int) + (n : Int))) := by omega
  have h48' : ¬ (281474976710656 < Builtin.nextslicecap (sLen + n) sCap * i.bytes) := by omega
  have h48i : ¬ (281474976710656 < (n : Int) * (i.bytes : Int)) := by rw [← Int.natCast_mul]; omega
  have hneg : ¬ ((n : Int) < 0) := by omega
  have hns : ¬ (n * i.size = 0) := Nat.mul_ne_zero (by omega) (by omega)
  have hn0 : n ≠ 0 := by omega
  have hfo := run_firstCells_some (P := P) w.drew i.size sLen b sLen sCap olds hlo (by simpa using holds)
  simp [Builtin.append_, run_underlying ht, run_underlying htn, sizeOf, typeInfo, zeroValue, hi, hz, asInt, asIntOf, hw, hn, hn0, hneg, hns, h63', h48', h48i, Question.forced, hfo, newRow, grownCap]

theorem sappend_z {d : Tmp} {x y : Operand} {t tn E ty0 ty : TypeId} {pos : String} {af : Array Edge} {g : Option (Nat × Bool)} {K : St → Prop} {b n c sz bb m cc k : Nat} {kk kn : IntKind} {zs : List Value} {r : Nat → List CV}
    (hx : St.ev ⟨fr, hp, nx⟩ x = .c (.s b 0 n c)) (hy : St.ev ⟨fr, hp, nx⟩ y = .c (.v (.int kk k))) (hk : tkind P t = some (.slc E)) (hkn : tint P tn = some (some kn)) (h1 : tsz P E = some sz) (h2 : tby P E = some bb) (h3 : tzero P E = some zs)
    (hb : hget hp b = some (.rows ty sz m cc r)) (hz : (zs.length = sz ∧ 0 < sz ∧ 0 < k) ∧ n ≤ m ∧ c < n + k ∧ (n + k) * bb ≤ 140737488355328 ∧ n + k ≤ 9223372036854775807)
    (hK : d < C.N ∧ ∀ c', n + k ≤ c' → K ⟨(d, .c (.s nx 0 (n + k) c')) :: fr, (nx, .rows E sz (n + k) c' (rapp r n fun _ => zs.map .v)) :: hp, nx + 1⟩) :
    SOp P C ⟨some d, .call { callee := .builtin .append, args := #[x, y], argTypes := #[t, tn] }, ty0, pos, af, g⟩ K ⟨fr, hp, nx⟩ := fun ρ a w hs => by
  obtain ⟨⟨hzl, hsz, hk0⟩, hnm, hcn, hbb, hkk⟩ := hz
  obtain ⟨i, z, hi, rfl, rfl, hiz, hzc⟩ := info_of h1 h2 h3
  obtain ⟨ds, hu, hds⟩ := kind_of hk
  simp only at hds; subst hds
  have hbn := hs.now.names _ _ (mem_hget hb)
  obtain ⟨g0, ge, ⟨arr, g1, gc, g3⟩, gown⟩ := hs.now.hp _ _ (mem_hget hb)
  have holdl := known_size hsz g3 hnm
  have hzs : z.cells.size = i.size := by rw [← Array.length_toList, hzc, hzl]
  have holds : ∀ q u, (arr.toList.take (n * i.size))[q]? = some u → w.cell? ((⟨(ρ b).blk, 0, none⟩ : Addr).add q) = some u := fun q u hq => by
    rw [addr_add _ _ rfl]
    have hlt : q < n * i.size := by
      have := (List.getElem?_eq_some_iff.1 hq).1; simp at this; omega
    rw [List.getElem?_take_of_lt hlt, Array.getElem?_toList] at hq
    rw [g1.cell]; simpa using hq
  have hkb : k * i.bytes ≤ 281474976710656 := by
    have : k * i.bytes ≤ (n + k) * i.bytes := Nat.mul_le_mul_right _ (by omega)
    omega
  have hrun := run_append_zeros (P := P) w t tn ty0 E i z kk kn hu (tint_of hkn) hi hiz ⟨(ρ b).blk, 0, none⟩ n c (arr.toList.take (n * i.size)) (by simp; omega) holds k hk0 hsz hcn (by omega) (growslice_fits (by omega) hbb) hkb
  have hge := grownCap_ge w (n + k) c E
  have hzk : (Builtin.zeroCells z.cells k).size = k * i.size := by rw [len_zeroCells, hzs]
  refine wp_value (v := .slice (some ⟨w.heap.size, 0, none⟩) (n + k) (grownCap w (n + k) c E)) ?_ ⟨_, _, hK.2 (grownCap w (n + k) c E) hge, (hs.drew).allocRows (cells := (arr.toList.take (n * i.size)).toArray ++ Builtin.zeroCells z.cells k ++ Builtin.zeroCells z.cells (grownCap w (n + k) c E - (n + k))) hK.1 ?_ (fun ρ' hρ q hq => ?_), Nat.le_succ _, fun k hk => by simp [envSet, Nat.ne_of_lt hk]⟩
  · simp only [execOp, resolve, invoke, builtin]
    simp [ev_c hs.fr' hx rfl, ev_c hs.fr' hy rfl, SV.den, CV.den, g0]
    rw [hrun]; simp
  · simp only [Array.size_append, List.size_toArray, hzk, len_zeroCells, hzs, List.length_take, Array.length_toList, Nat.min_eq_left holdl, ← Nat.add_mul]
    rw [show n + k + (grownCap w (n + k) c E - (n + k)) = grownCap w (n + k) c E by omega]; exact Nat.le_refl _
  · unfold rapp
    have hq1 : (q + 1) * i.size = q * i.size + i.size := by rw [Nat.add_mul]; omega
    by_cases hqn : q < n
    · simp only [hqn, if_true]
      obtain ⟨_, _, ⟨arr', g1', _, g3'⟩, _⟩ := (hs ρ' hρ).hp _ _ (mem_hget hb)
      rw [hρ b hbn] at g1'
      have g1' := g1.inj g1'
      subst g1'
      refine ⟨(g3' q (by omega)).1, fun u hu => ?_⟩
      have : (q + 1) * i.size ≤ n * i.size := Nat.mul_le_mul_right _ hqn
      rw [Array.append_assoc, Array.getElem?_append_left (by simp; omega), List.getElem?_toArray, List.getElem?_take_of_lt (by omega), Array.getElem?_toList]
      exact (g3' q (by omega)).2 u hu
    · simp only [hqn, if_false]
      refine ⟨by simp [hzl], fun u hu => ?_⟩
      have e0 : q * i.size + u = n * i.size + ((q - n) * i.size + u) := by
        have : q * i.size = n * i.size + (q - n) * i.size := by rw [← Nat.add_mul]; congr 1; omega
        omega
      have e1 : (q - n + 1) * i.size ≤ k * i.size := Nat.mul_le_mul_right _ (by omega)
      rw [Nat.add_mul] at e1
      rw [e0, Array.append_assoc, Array.getElem?_append_right (by simp; omega), Array.getElem?_append_left (by simp [hzk]; omega)]
      rw [show n * i.size + ((q - n) * i.size + u) - (arr.toList.take (n * i.size)).toArray.size = (q - n) * i.size + u by simp; omega]
      rw [← List.getElem?_map, map_v, ← hzc]
      have hu' : (q - n) * i.size + u < k * z.cells.size := by rw [hzs]; omega
      have hm : ((q - n) * i.size + u) % z.cells.size = u := by rw [hzs, Nat.mul_comm, Nat.mul_add_mod]; exact Nat.mod_eq_of_lt hu
      have hu2 : u < z.cells.size := by omega
      rw [← Array.getElem?_toList]
      simp only [Builtin.zeroCells, Array.toList_map, Array.toList_range, List.getElem?_map, List.getElem?_range hu', Option.map_some, hm]
      rw [getElem!_pos z.cells u hu2]; simp [hu2]

theorem imm_of_rows {ρ : Env} {w : World} {n ty e m c : Nat} {r : Nat → List CV} {rv : Nat → List Value} (h : (Blk.rows ty e m c r).holds C ρ n w) (hr : ∀ i, i < m → r i = (rv i).map .v) : ImmAt w (ρ n).blk (ρ n).base e m rv := by
  obtain ⟨h1, h2, ⟨arr, h3, h4, h5⟩, h6⟩ := h
  refine ⟨fun _ => h3.lt, fun i hi => ?_, fun i hi u hu => ?_⟩
  · have := (h5 i hi).1
    rw [hr i hi] at this; simpa using this
  · have := (h5 i hi).2 u hu
    rw [hr i hi, ← List.getElem?_map, map_v] at this
    rw [h1, h3.cell, Nat.zero_add]
    exact this
theorem Sat.sub {ρ : Env} {a : Act} {w : World} (hs : Sat C ⟨fr, hp, nx⟩ ρ a w) {hp' : List (Nat × Blk)} (h2 : hpSub hp hp') (h3 : (hp'.map (·.1)).Nodup) : Sat C ⟨[], hp', nx⟩ ρ a w := fun ρ' hρ => by
  have h0 := hs ρ' hρ
  exact ⟨fun t ht => (by cases ht), h0.defers, h0.size, h0.keeps, fun m b hm => h0.hp m b (mem_hget (hpSub_mem h2 m b hm)), sub_nodup h0.nodup _ (fun x hx => mem_hget (hpSub_mem h2 x.1 x.2 hx)) h3, fun m b hm => h0.names m b (mem_hget (hpSub_mem h2 m b hm)), h3, h0.n0le⟩
theorem sappend_k0 {d : Tmp} {x y : Operand} {t E ty : TypeId} {pos : String} {af : Array Edge} {g : Option (Nat × Bool)} {K : St → Prop} {b i n c sz : Nat} {b2 j c2 : Nat}
    (hx : St.ev ⟨fr, hp, nx⟩ x = .c (.s b i n c)) (hy : St.ev ⟨fr, hp, nx⟩ y = .c (.s b2 j 0 c2)) (hk : tkind P t = some (.slc E)) (h1 : tsz P E = some sz) (hn : n ≤ c) (hbn : b < nx)
    (hK : d < C.N ∧ K ⟨(d, .c (.s b i n c)) :: fr, hp, nx⟩) :
    SOp P C ⟨some d, .call { callee := .builtin .append, args := #[x, y], argTypes := #[t, t] }, ty, pos, af, g⟩ K ⟨fr, hp, nx⟩ := by
  obtain ⟨ds, hu, hds⟩ := kind_of hk
  simp only at hds; subst hds
  refine SOp_put (.c (.s b i n c)) rfl rfl (fun ρ a w hs => ?_) (fun ρ a w hs ρ' hρ => by simp [SV.den, CV.den, hρ b hbn]) hK
  have hld : ∀ a0 : Addr, (loadCells a0 0).run P w = .ok #[] w := fun a0 => by simp [loadCells, loadCellsFrom]
  simp [execOp, resolve, invoke, builtin, Builtin.append_, ev_c hs.fr' hx rfl, ev_c hs.fr' hy rfl, SV.den, CV.den, run_underlying hu, sizeOf_of h1, Builtin.lenOf, Builtin.firstCells, hn, hld, storeCells]
theorem scall_extern {f : FuncId} {fn : Func} {e : Array Value → Sem Value} {args : List SV} {d : Option Tmp} {K : St → Prop} (hf : P.funcs[f]? = some fn) (hname : (fn.name == "runtime.NumGoroutine") = false) (hb : fn.body.isNone = true) (hn : Extern.findNext fn = none) (he : Extern.find fn = some e)
    (v : Value) (hok : SV.okL args = true) (hrun : ∀ ρ a w, Sat C ⟨fr, hp, nx⟩ ρ a w → (e (SV.denL ρ args).toArray).run P w = .ok v w) (hK : dOk C.N d ∧ kput K ⟨fr, hp, nx⟩ d (.c (.v v))) : SCall P C f args d K ⟨fr, hp, nx⟩ :=
  ⟨hok, fun ρ w a hs _ => .inr ⟨v, w, by rw [run_callFunc_extern hf hname hb hn he, hrun ρ a w hs]; rfl, _, ρ, hK.2, hs.put hK.1 fun _ _ _ => rfl, by cases d <;> simp [St.put], fun _ _ => rfl⟩⟩
theorem overlaps_run {ρ : Env} {a : Act} {w : World} (hs : Sat C ⟨fr, hp, nx⟩ ρ a w) {t tR E sz b i n c b2 j k c2 : Nat} {ty ty2 e e2 m m2 cc cc2 : Nat} {r r2 : Nat → List CV} (hk : tkind P t = some (.slc E)) (h1 : tsz P E = some sz)
    (hb : hget hp b = some (.rows ty e m cc r)) (hb2 : hget hp b2 = some (.rows ty2 e2 m2 cc2 r2)) (hne : b ≠ b2) (h0 : 0 < e2 ∧ 0 < cc2) (he1 : e ≠ 1) :
    (Extern.SlicesOverlaps.overlaps #[t, t] #[tR] (SV.denL ρ [.c (.s b i n c), .c (.s b2 j k c2)]).toArray).run P w = .ok (.bool false) w := by
  obtain ⟨ds, hu, hds⟩ := kind_of hk
  simp only at hds; subst hds
  obtain ⟨g0, ge, ⟨arr, g1, gc, g3⟩, gown⟩ := hs.now.hp _ _ (mem_hget hb)
  obtain ⟨k0, ke, ⟨arr2, k1, kc, k3⟩, kown⟩ := hs.now.hp _ _ (mem_hget hb2)
  have hd : (ρ b).blk ≠ (ρ b2).blk := fun he => foot_disj hs.now.nodup (mem_hget hb) (mem_hget hb2) hne (k := (ρ b).blk) (by simp [Blk.foot]) (by simp [Blk.foot, he])
  have hpos : arr2.size ≠ 0 := by
    have : 1 * e2 ≤ cc2 * e2 := Nat.mul_le_mul_right _ h0.2
    omega
  have := Lib.run_overlaps_apart (P := P) w t tR E hu sz (sizeOf_of h1) ⟨(ρ b).blk, (ρ b).base + i * (ρ b).esz, none⟩ ⟨(ρ b2).blk, (ρ b2).base + j * (ρ b2).esz, none⟩ n c k c2 hd ty ty2 arr.size arr2.size
    (by have := g1.zero he1; simp [World.shape?, this]) (by obtain ⟨fz, k1, _⟩ := k1; simp [World.shape?, k1]) hpos (by have := g1.zero he1; simp [World.frozen?, this]) (by have := g1.zero he1; simp [World.frozen?, this])
  simpa [SV.denL, SV.den, CV.den] using this
end
end Go.Sx
namespace Go.Sx
open Go.RowKit
def slq (s : Option (Nat × Nat)) (n : Nat) : Value := match s with | none => .slice none 0 0 | some (b, c) => .slice (some ⟨b, 0, none⟩) n c
def NewRows (ty e m : Nat) (r : Nat → List Value) (s : Option (Nat × Nat)) (w w' : World) : Prop := match s with
  | none => m = 0
  | some (b, c) => (m ≤ c ∧ w.heap.size ≤ b) ∧ RowsAt w' b ty e m c r
theorem hset_eq : ∀ {hp : List (Nat × Blk)} {n : Nat} {b : Blk}, hget hp n = some b → hset hp n b = hp
  | [], n, b, h => by simp [hget] at h
  | (q, v) :: y, n, b, h => by
    rw [hget_cons] at h
    rw [hset_cons]
    by_cases hq : q = n
    · rw [if_pos hq] at h ⊢; injection h with h; rw [h]
    · rw [if_neg hq] at h ⊢; rw [hset_eq h]
section
variable {P : Program} {C : Cx} {fr : List (Nat × SV)} {hp : List (Nat × Blk)} {nx : Nat}
theorem on_callv {f : FuncId} {args : List SV} {d : Option Tmp} {K : St → Prop} (n : Nat) {g : Nat} {Sh : Nat → List (Nat × Blk) → Prop} {fp : List Nat} {ty e m : Nat} {r : Nat → List Value} (vs : List Value)
    (hc : ∀ (v : Array Value) w, (callFunc f v).run P w = .ok (.enter f v) w)
    (hcall : ∀ w, On g Sh fp w → Calls P f vs.toArray w fun o w' => ∃ s, o = .returned (slq s m) ∧ NewRows ty e m r s w w' ∧ On g Sh fp w' ∧ Chg fp fp w w')
    (hg : hget hp n = some (.pred fp (On g Sh fp))) (hok : SV.okL args = true) (hv : ∀ ρ, SV.denL ρ args = vs) (hd : dkB C.N d = true)
    (hK0 : m = 0 → kput K ⟨fr, hset hp n (.pred fp (On g Sh fp)), nx⟩ d (.c (.v (.slice none 0 0))))
    (hK1 : ∀ c, m ≤ c → kput K ⟨fr, (nx, .rows ty e m c fun j => (r j).map .v) :: hset hp n (.pred fp (On g Sh fp)), nx + 1⟩ d (.c (.s nx 0 m c))) :
    SCall P C f args d K ⟨fr, hp, nx⟩ := by
  refine ⟨hok, fun ρ w a hs _ => .inl ⟨fun v w => hc _ w, ?_⟩⟩
  rw [hv ρ]
  refine (hcall w (hs.now.hp _ _ (mem_hget hg)).1).mono fun o w' ⟨s, he, hw, hR, hch⟩ => ⟨_, he, ?_⟩
  have hs' := hs.pred hg hch hR On.stable
  have hfe : footL ρ (hset hp n (.pred fp (On g Sh fp))) = footL ρ hp := by
    rw [hset_eq hg]
  rcases s with _ | ⟨b, c⟩
  · have hm : m = 0 := hw
    refine ⟨_, ρ, hK0 hm, hs'.put (dk_of hd) fun _ ρ' _ => ?_, by cases d <;> simp [St.put], fun _ _ => rfl⟩
    simp [slq, SV.den, CV.den]
  · have hlt := hw.1.2
    have h1 := hs'.add (.rows ty e m c fun j => (r j).map .v) ⟨b, 0, e⟩ [b] (fun ρ' hρ hn => hw.2.holds hn (.inl (Nat.le_trans hs.now.keeps.size hlt)) fun i _ => map_v _ _)
      (fun ρ' hn => by simp [Blk.foot, hn]) (fun k hk hm => by
        have hm : k ∈ footL ρ (hset hp n (.pred fp (On g Sh fp))) := hm
        rw [hfe] at hm
        have := (hs.now.foot_lt hm).1
        simp at hk; omega) (by simp)
    refine ⟨_, _, hK1 c hw.1.1, h1.put (dk_of hd) fun _ ρ' hρ' => ?_, by cases d <;> simp [St.put], fun k hk => by simp [envSet, Nat.ne_of_lt hk]⟩
    have := hρ' nx (by simp)
    simp [envSet] at this
    simp [slq, SV.den, CV.den, this]
theorem newRows_of {C : Cx} {w w' : World} {ρ : Env} {a : Act} {fp : List Nat} {n ty e m c : Nat} {r : Nat → List CV} {rv : Nat → List Value} (hw : C.w0 = w) (hM : C.M = (· ∈ fp)) (hs : Sat C ⟨fr, hp, nx⟩ ρ a w') (hb : hget hp n = some (.rows ty e m c r)) (hr : ∀ j, j < m → r j = (rv j).map .v) (hmc : m ≤ c)
    (hn : (ρ n).blk ∉ fp) : NewRows ty e m rv (some ((ρ n).blk, c)) w w' := by
  obtain ⟨h1, h2, ⟨arr, h3, h4, h5⟩, h6⟩ := hs.now.hp _ _ (mem_hget hb)
  refine ⟨⟨hmc, ?_⟩, ⟨arr, h3, h4, fun i hi => ?_⟩⟩
  · rcases h6 with h6 | h6
    · rw [← hw]; exact h6
    · rw [hM] at h6; exact absurd h6 hn
  · obtain ⟨h7, h8⟩ := h5 i hi
    rw [hr i hi] at h7 h8
    exact ⟨by simpa using h7, fun k hk => by rw [h8 k hk]; simp [List.getElem?_map]; cases (rv i)[k]? <;> simp [CV.den]⟩
end
end Go.Sx
namespace Go.Sx
open Go.RowKit
section
variable {P : Program} {C : Cx} {fr : List (Nat × SV)} {hp : List (Nat × Blk)} {nx : Nat}
theorem sappend_kn {d : Tmp} {x y : Operand} {t E ty : TypeId} {pos : String} {af : Array Edge} {g : Option (Nat × Bool)} {K : St → Prop} {b i n c sz : Nat}
    (hx : St.ev ⟨fr, hp, nx⟩ x = .c (.s b i n c)) (hy : St.ev ⟨fr, hp, nx⟩ y = .c (.v (.slice none 0 0))) (hk : tkind P t = some (.slc E)) (h1 : tsz P E = some sz) (hn : n ≤ c) (hbn : b < nx)
    (hK : d < C.N ∧ K ⟨(d, .c (.s b i n c)) :: fr, hp, nx⟩) :
    SOp P C ⟨some d, .call { callee := .builtin .append, args := #[x, y], argTypes := #[t, t] }, ty, pos, af, g⟩ K ⟨fr, hp, nx⟩ := by
  obtain ⟨ds, hu, hds⟩ := kind_of hk
  simp only at hds; subst hds
  refine SOp_put (.c (.s b i n c)) rfl rfl (fun ρ a w hs => ?_) (fun ρ a w hs ρ' hρ => by simp [SV.den, CV.den, hρ b hbn]) hK
  simp [execOp, resolve, invoke, builtin, Builtin.append_, ev_c hs.fr' hx rfl, ev_c hs.fr' hy rfl, SV.den, CV.den, run_underlying hu, sizeOf_of h1, Builtin.lenOf, Builtin.firstCells, hn, storeCells]
theorem sappend_nk {d : Tmp} {x y : Operand} {t E ty : TypeId} {pos : String} {af : Array Edge} {g : Option (Nat × Bool)} {K : St → Prop} {sz b2 j c2 : Nat}
    (hx : St.ev ⟨fr, hp, nx⟩ x = .c (.v (.slice none 0 0))) (hy : St.ev ⟨fr, hp, nx⟩ y = .c (.s b2 j 0 c2)) (hk : tkind P t = some (.slc E)) (h1 : tsz P E = some sz)
    (hK : d < C.N ∧ K ⟨(d, .c (.v (.slice none 0 0))) :: fr, hp, nx⟩) :
    SOp P C ⟨some d, .call { callee := .builtin .append, args := #[x, y], argTypes := #[t, t] }, ty, pos, af, g⟩ K ⟨fr, hp, nx⟩ := by
  obtain ⟨ds, hu, hds⟩ := kind_of hk
  simp only at hds; subst hds
  refine SOp_put (.c (.v (.slice none 0 0))) rfl rfl (fun ρ a w hs => ?_) (fun _ _ _ _ _ _ => rfl) hK
  have hld : ∀ a0 : Addr, (loadCells a0 0).run P w = .ok #[] w := fun a0 => by simp [loadCells, loadCellsFrom]
  simp [execOp, resolve, invoke, builtin, Builtin.append_, ev_c hs.fr' hx rfl, ev_c hs.fr' hy rfl, SV.den, CV.den, run_underlying hu, sizeOf_of h1, Builtin.lenOf, Builtin.firstCells, hld]
end
end Go.Sx
namespace Go.Sx
open Go.RowKit
section
variable {P : Program} {C : Cx} {fr : List (Nat × SV)} {hp : List (Nat × Blk)} {nx : Nat}

def hremL (hp : List (Nat × Blk)) : List Nat → List (Nat × Blk)
  | [] => hp
  | n :: r => hremL (hrem hp n) r
def ptsC (x : SV) : List Nat → List (Nat × SV) → List (Nat × SV)
  | [], fr => fr
  | t :: r, fr => (t, x) :: ptsC x r fr
theorem ptsC_lk {x : SV} {t : Nat} : ∀ {ts : List Nat} {fr : List (Nat × SV)}, (t ∈ ts ∧ lk (ptsC x ts fr) t = x) ∨ lk (ptsC x ts fr) t = lk fr t
  | [], fr => .inr rfl
  | s :: r, fr => by
    simp only [ptsC, lk]
    cases hb : Nat.beq s t with
    | true => exact .inl ⟨by rw [Nat.eq_of_beq_eq_true hb]; simp, rfl⟩
    | false =>
      rcases ptsC_lk (x := x) (t := t) (ts := r) (fr := fr) with h | h
      · exact .inl ⟨List.mem_cons_of_mem _ h.1, h.2⟩
      · exact .inr h
theorem lies_shift {f : Nat → Nat} {n m : Nat} {ρ ρ' : Env} {w : World} {b : Blk} (h : ∀ j, j < n → ρ' (f j) = ρ j) (hm : m < n) (hb : b.bl n) (hl : b.lies ρ m w) : (b.rn f).lies ρ' (f m) w := by
  have e := h m hm
  have hr : ∀ k, k < n → ρ k = ρ' (f k) := fun k hk => (h k hk).symm
  cases b with
  | cells ty cs =>
    obtain ⟨g0, g1, g2⟩ := hl
    refine ⟨by rw [e]; exact g0, ?_, by rw [e]; exact g2⟩
    rw [e, g1, ← CV.denL_eq, ← CV.denL_eq, CV.denL_rn f n ρ' ρ hr cs hb]
  | rows ty es k c r =>
    obtain ⟨g0, g1, arr, g2, gc, g3⟩ := hl
    refine ⟨by rw [e]; exact g0, by rw [e]; exact g1, arr, by rw [e]; exact g2, gc, fun i hi => ?_⟩
    obtain ⟨q1, q2⟩ := g3 i hi
    refine ⟨by simpa [CV.rnL_eq] using q1, fun j hj => ?_⟩
    rw [q2 j hj]
    have := CV.denL_rn f n ρ' ρ hr (r i) (hb i hi)
    rw [CV.denL_eq, CV.denL_eq] at this
    rw [← List.getElem?_map, ← List.getElem?_map, this]
  | imm => exact hl.elim
  | obj o => obtain ⟨g0, g1⟩ := hl; exact ⟨by rw [e]; exact g0, by rw [e]; exact g1⟩
  | pred fp R => exact hl
theorem foot_app (ρ : Env) : ∀ a b : List (Nat × Blk), footL ρ (a ++ b) = footL ρ a ++ footL ρ b
  | [], b => rfl
  | (m, x) :: r, b => by simp only [List.cons_append, footL, foot_app ρ r b, List.append_assoc]

theorem inj_nodup {f : Nat → Nat} (hf : ∀ x y, f x = f y → x = y) : ∀ {l : List Nat}, l.Nodup → (l.map f).Nodup
  | [], _ => by simp
  | x :: r, h => by
    simp only [List.map_cons, List.nodup_cons] at h ⊢
    refine ⟨fun hx => ?_, inj_nodup hf h.2⟩
    obtain ⟨y, hy, he⟩ := List.mem_map.1 hx
    rw [hf _ _ he] at hy
    exact h.1 hy
def renL (f : Nat → Nat) : List (Nat × Blk) → List (Nat × Blk)
  | [] => []
  | (m, b) :: r => (f m, b.rn f) :: renL f r
theorem renL_mem {f : Nat → Nat} : ∀ {hp : List (Nat × Blk)} {n : Nat} {b : Blk}, (n, b) ∈ renL f hp → ∃ m b0, (m, b0) ∈ hp ∧ n = f m ∧ b = b0.rn f
  | [], n, b, h => by cases h
  | (m, c) :: r, n, b, h => by
    rcases List.mem_cons.1 h with h | h
    · injection h with h1 h2; exact ⟨m, c, by simp, h1, h2⟩
    · obtain ⟨m', b0, h1, h2⟩ := renL_mem h
      exact ⟨m', b0, List.mem_cons_of_mem _ h1, h2⟩
theorem renL_names (f : Nat → Nat) : ∀ hp : List (Nat × Blk), (renL f hp).map (·.1) = (hp.map (·.1)).map f
  | [] => rfl
  | (m, b) :: r => by simp only [renL, List.map_cons, renL_names f r]
theorem foot_ren {f : Nat → Nat} {ρ ρ' : Env} {n : Nat} (h : ∀ j, j < n → ρ' (f j) = ρ j) : ∀ {hp : List (Nat × Blk)}, (∀ m b, (m, b) ∈ hp → m < n) → footL ρ' (renL f hp) = footL ρ hp
  | [], _ => rfl
  | (m, b) :: r, hn => by
    simp only [renL, footL]
    rw [foot_ren h fun m b hm => hn m b (List.mem_cons_of_mem _ hm)]
    have hm := hn m b (by simp)
    congr 1
    cases b <;> simp [Blk.foot, Blk.rn, h m hm]
theorem on_nodup {f : Nat → Nat} {n : Nat} (hf : ∀ x y, x < n → y < n → f x = f y → x = y) : ∀ {l : List Nat}, (∀ x, x ∈ l → x < n) → l.Nodup → (l.map f).Nodup
  | [], _, _ => by simp
  | x :: r, hn, h => by
    simp only [List.map_cons, List.nodup_cons] at h ⊢
    refine ⟨fun hx => ?_, on_nodup hf (fun y hy => hn y (by simp [hy])) h.2⟩
    obtain ⟨y, hy, he⟩ := List.mem_map.1 hx
    rw [hf _ _ (hn y (by simp [hy])) (hn x (by simp)) he] at hy
    exact h.1 hy
theorem Sat.openG {ρ : Env} {a : Act} {w : World} (hs : Sat C ⟨fr, hp, nx⟩ ρ a w) (n : Nat) {fp : List Nat} {R : World → Prop} (hg : hget hp n = some (.pred fp R)) {ρ1 : Env} {nx1 : Nat} {hp1 : List (Nat × Blk)} (h2 : ∀ n b, (n, b) ∈ hp1 → (n < nx1 ∧ b.bl nx1) ∧ b.lies ρ1 n w) (h3 : (hp1.map (·.1)).Nodup) (h4 : footL ρ1 hp1 = fp) (h5 : fp.Nodup)
    (f : Nat → Nat) (ρ' : Env) (hag : ∀ k, k < nx → ρ' k = ρ k) (hfe : ∀ j, j < nx1 → ρ' (f j) = ρ1 j) (hfl : ∀ j, j < nx1 → f j < nx + nx1) (hfi : ∀ x y, x < nx1 → y < nx1 → f x = f y → x = y) (hfn : ∀ j, j < nx1 → f j < nx → f j = n)
    (fr' : List (Nat × SV)) (hfr : ∀ ρ2 : Env, (∀ k, k < nx + nx1 → ρ2 k = ρ' k) → ∀ t, (lk fr' t).ok = true → (lk fr t).ok = true ∧ (lk fr t).den ρ2 = (lk fr' t).den ρ2) :
    Sat C ⟨fr', renL f hp1 ++ hrem hp n, nx + nx1⟩ ρ' a w := by
  obtain ⟨_, _, _, hown⟩ := hs.now.hp _ _ (mem_hget hg)
  intro ρ2 hρ2
  have hρ2 : ∀ k, k < nx + nx1 → ρ2 k = ρ' k := hρ2
  have hlo : ∀ k, k < nx → ρ2 k = ρ k := fun k hk => by rw [hρ2 k (by omega), hag k hk]
  have hhi : ∀ k, k < nx1 → ρ2 (f k) = ρ1 k := fun k hk => by rw [hρ2 _ (hfl k hk), hfe k hk]
  have h0 := hs ρ2 hlo
  have hnm : ∀ m b, (m, b) ∈ hp1 → m < nx1 := fun m b hm => (h2 m b hm).1.1
  have hft : footL ρ2 (renL f hp1) = fp := by rw [foot_ren hhi hnm, h4]
  refine ⟨fun t htt => ?_, h0.defers, h0.size, h0.keeps, fun m b hm => ?_, ?_, fun m b hm => ?_, ?_, Nat.le_trans h0.n0le (Nat.le_add_right _ _)⟩
  · obtain ⟨e1, e2⟩ := hfr ρ2 hρ2 t htt
    rw [← e2]; exact h0.fr t e1
  · rcases List.mem_append.1 hm with hm | hm
    · obtain ⟨m0, b0, q1, q2, q3⟩ := renL_mem hm
      subst q2; subst q3
      obtain ⟨⟨g1, g2⟩, g3⟩ := h2 _ _ q1
      refine Blk.holds_of_lies (lies_shift (f := f) hhi g1 g2 g3) fun k hk => ?_
      refine (hown k ?_).2
      rw [← hft]
      exact foot_mem hm hk
    · exact h0.hp _ _ (hrem_mem hm).1
  · rw [foot_app, hft, List.nodup_append]
    refine ⟨h5, sub_nodup h0.nodup _ (fun x hx => (hrem_mem (n := n) (m := x.1) (b := x.2) hx).1) (hrem_once _ _ h0.once), fun k hk j hj hkj => ?_⟩
    subst hkj
    obtain ⟨m, b, hm, hk2⟩ := footL_out hj
    obtain ⟨hm1, hm2⟩ := hrem_mem hm
    exact foot_disj h0.nodup (mem_hget hg) hm1 (fun e => hm2 e.symm) hk hk2
  · rcases List.mem_append.1 hm with hm | hm
    · obtain ⟨m0, b0, q1, q2, q3⟩ := renL_mem hm
      rw [q2]; exact hfl _ (hnm _ _ q1)
    · have : m < nx := h0.names _ _ (hrem_mem hm).1
      show m < nx + nx1; omega
  · rw [List.map_append, List.nodup_append]
    refine ⟨?_, hrem_once _ _ h0.once, fun k hk j hj hkj => ?_⟩
    · rw [renL_names]
      refine on_nodup hfi (fun x hx => ?_) h3
      obtain ⟨⟨m, b⟩, hm, rfl⟩ := List.mem_map.1 hx
      exact hnm _ _ hm
    · subst hkj
      rw [renL_names, List.map_map] at hk
      obtain ⟨⟨m, b⟩, hm, he⟩ := List.mem_map.1 hk
      obtain ⟨⟨m', b'⟩, hm', he'⟩ := List.mem_map.1 hj
      have h9 : m' < nx := h0.names _ _ (hrem_mem hm').1
      simp only [Function.comp_def] at he he'
      have := hfn m (hnm _ _ hm) (by omega)
      exact (hrem_mem hm').2 (by omega)
theorem Sat.open_ {ρ : Env} {a : Act} {w : World} (hs : Sat C ⟨fr, hp, nx⟩ ρ a w) (n : Nat) {g : Nat} {Sh : Nat → List (Nat × Blk) → Prop} {fp : List Nat} (hg : hget hp n = some (.pred fp (On g Sh fp))) (ts : List Nat) (ht : ∀ t, t ∈ ts → lk fr t = .c (.v (gptr g))) :
    ∃ nx' hp' ρ', Sh nx' hp' ∧ (∀ k, k < nx → ρ' k = ρ k) ∧ Sat C ⟨ptsC (.c (.p nx 0 0)) ts fr, renL (nx + ·) hp' ++ hrem hp n, nx + nx'⟩ ρ' a w := by
  obtain ⟨⟨ρ1, nx1, hp1, h1, h2, h3, h4, h5, h6, h7, h8⟩, _, _, hown⟩ := hs.now.hp _ _ (mem_hget hg)
  have hhi : ∀ k, (fun k => if k < nx then ρ k else ρ1 (k - nx)) (nx + k) = ρ1 k := fun k => by
    show (if nx + k < nx then ρ (nx + k) else ρ1 (nx + k - nx)) = _
    rw [if_neg (by omega), Nat.add_sub_cancel_left]
  refine ⟨nx1, hp1, fun k => if k < nx then ρ k else ρ1 (k - nx), h1, fun k hk => if_pos hk, hs.openG n hg h2 h3 h4 h5 (nx + ·) _ (fun k hk => if_pos hk) (fun k _ => hhi k) (fun j hj => by show nx + j < _; omega) (fun x y _ _ h => by have : nx + x = nx + y := h; omega) (fun j _ h => by have : nx + j < nx := h; omega) _ fun ρ2 hρ2 t htt => ?_⟩
  rcases ptsC_lk (x := .c (.p nx 0 0)) (t := t) (ts := ts) (fr := fr) with ⟨e1, e2⟩ | e2
  · rw [e2, ht t e1]
    have e := hρ2 nx (by omega)
    have e3 := hhi 0
    rw [Nat.add_zero] at e3
    have e := e.trans e3
    refine ⟨rfl, ?_⟩
    simp [SV.den, CV.den, gptr, e, h6, h7]
  · rw [e2] at htt ⊢
    exact ⟨htt, rfl⟩
theorem Sat.openAt {ρ : Env} {a : Act} {w : World} (hs : Sat C ⟨fr, hp, nx⟩ ρ a w) {g : Nat} {Sh : Nat → List (Nat × Blk) → Prop} {fp : List Nat} (hg : hget hp 0 = some (.pred fp (On g Sh fp))) (hpin : 0 < C.n0 ∧ C.ρ0 0 = ⟨g, 0, 1⟩) (hcell : ∀ nx hp, Sh nx hp → ∃ ty cs, hget hp 0 = some (.cells ty cs)) :
    ∃ nx' hp' ρ', Sh nx' hp' ∧ (∀ k, k < nx → ρ' k = ρ k) ∧ Sat C ⟨fr, renL (fun k => if k = 0 then 0 else nx + k) hp' ++ hrem hp 0, nx + nx'⟩ ρ' a w := by
  obtain ⟨⟨ρ1, nx1, hp1, h1, h2, h3, h4, h5, h6, h7, h8⟩, _, _, hown⟩ := hs.now.hp _ _ (mem_hget hg)
  have h0 : ρ 0 = ⟨g, 0, 1⟩ := (hs.now.size.2 0 hpin.1).trans hpin.2
  have hnx : 0 < nx := Nat.lt_of_lt_of_le hpin.1 hs.now.n0le
  obtain ⟨ty, cs, hc⟩ := hcell _ _ h1
  have he := (h2 _ _ (mem_hget hc)).2.2.2
  have h10 : ρ1 0 = ⟨g, 0, 1⟩ := by
    have : ρ1 0 = ⟨(ρ1 0).blk, (ρ1 0).base, (ρ1 0).esz⟩ := rfl
    rw [this, h6, h7, he]
  refine ⟨nx1, hp1, fun k => if k < nx then ρ k else ρ1 (k - nx), h1, fun k hk => if_pos hk, hs.openG 0 hg h2 h3 h4 h5 (fun k => if k = 0 then 0 else nx + k) _ (fun k hk => if_pos hk) (fun k hk => ?_) (fun j hj => ?_) (fun x y hx hy h => ?_) (fun j hj h => ?_) _ fun ρ2 hρ2 t htt => ⟨htt, rfl⟩⟩
  · by_cases hk0 : k = 0
    · subst hk0
      show (if (if 0 = 0 then 0 else nx + 0) < nx then ρ (if 0 = 0 then 0 else nx + 0) else ρ1 ((if 0 = 0 then 0 else nx + 0) - nx)) = _
      rw [if_pos rfl, if_pos hnx, h0, h10]
    · show (if (if k = 0 then 0 else nx + k) < nx then ρ (if k = 0 then 0 else nx + k) else ρ1 ((if k = 0 then 0 else nx + k) - nx)) = _
      rw [if_neg hk0, if_neg (by omega), Nat.add_sub_cancel_left]
  · show (if j = 0 then 0 else nx + j) < _
    split <;> omega
  · have h : (if x = 0 then 0 else nx + x) = if y = 0 then 0 else nx + y := h
    split at h <;> split at h <;> omega
  · have h : (if j = 0 then 0 else nx + j) < nx := h
    show (if j = 0 then 0 else nx + j) = 0
    by_cases hj0 : j = 0
    · exact if_pos hj0
    · rw [if_neg hj0] at h; omega

theorem hremL_mem : ∀ {l : List Nat} {hp : List (Nat × Blk)} {m : Nat} {b : Blk}, (m, b) ∈ hremL hp l → (m, b) ∈ hp ∧ m ∉ l
  | [], hp, m, b, h => ⟨h, by simp⟩
  | n :: r, hp, m, b, h => by
    obtain ⟨h1, h2⟩ := hremL_mem (l := r) h
    obtain ⟨h3, h4⟩ := hrem_mem h1
    exact ⟨h3, by simp [h4, h2]⟩
theorem hremL_once : ∀ (l : List Nat) (hp : List (Nat × Blk)), (hp.map (·.1)).Nodup → ((hremL hp l).map (·.1)).Nodup
  | [], hp, h => h
  | n :: r, hp, h => hremL_once r _ (hrem_once _ _ h)
def Blk.based : Blk → Bool
  | .cells .. => true
  | .rows .. => true
  | .obj .. => true
  | _ => false
theorem based_of {ρ : Env} {w : World} {n : Nat} {b : Blk} (h : b.holds C ρ n w) (hb : b.based = true) : (ρ n).base = 0 := by
  cases b with
  | cells => exact h.1
  | rows => exact h.1
  | obj => exact h.1
  | imm => cases hb
  | pred => cases hb
theorem Sat.close_ {ρ : Env} {a : Act} {w : World} (hs : Sat C ⟨fr, hp, nx⟩ ρ a w) {Sh : Nat → List (Nat × Blk) → Prop} (f : Nat → Nat) {nx' : Nat} {hp' : List (Nat × Blk)} (he : hpEnt f nx' hp hp') (h1 : (hp'.map fun x => f x.1).Nodup) (h2 : hp'.all (fun x => x.2.solid) = true) (hsh : Sh nx' hp') {b0 : Blk}
    (hb0 : (0, b0) ∈ hp') (hbb : b0.based = true) (h0 : 0 < nx') (ts : List Nat) (ht : ∀ t, t ∈ ts → lk fr t = .c (.p (f 0) 0 0)) :
    (ρ (f 0)).base = 0 ∧ ∃ fp', Sat C ⟨ptsC (.c (.v (gptr (ρ (f 0)).blk))) ts fr, (f 0, .pred fp' (On (ρ (f 0)).blk Sh fp')) :: hremL hp (hp'.map fun x => f x.1), nx⟩ ρ a w := by
  have hm := hpEnt_mem he
  have hfoot : ∀ l : List (Nat × Blk), (∀ x, x ∈ l → x ∈ hp') → footL (fun k => ρ (f k)) l = footL ρ (l.map fun x => (f x.1, x.2.rn f)) := fun l => by
    induction l with
    | nil => intro _; rfl
    | cons x r ih =>
      obtain ⟨m, b⟩ := x
      intro hs'
      obtain ⟨q1, q2, q3⟩ := hm m b (hs' _ (by simp))
      simp only [footL, List.map_cons]
      rw [ih fun x hx => hs' x (by simp [hx])]
      congr 1
      exact foot_rn (ρ := ρ) (ρ' := fun k => ρ (f k)) (f := f) (n := nx') (fun k _ => rfl) q1 b
  have hsub : ∀ x, x ∈ hp'.map (fun x => (f x.1, x.2.rn f)) → x ∈ hp := fun x hx => by
    obtain ⟨⟨m, b⟩, hx2, he2⟩ := List.mem_map.1 hx
    rw [← he2]
    exact mem_hget (hm m b hx2).2.2
  have hnd : (footL (fun k => ρ (f k)) hp').Nodup := by
    rw [hfoot hp' fun _ h => h]
    exact sub_nodup hs.now.nodup _ hsub (by simpa [List.map_map, Function.comp_def] using h1)
  have hlies : ∀ n b, (n, b) ∈ hp' → (n < nx' ∧ b.bl nx') ∧ b.lies (fun k => ρ (f k)) n w := fun n b hx => by
    obtain ⟨q1, q2, q3⟩ := hm n b hx
    have hh := hs.now.hp _ _ (mem_hget q3)
    refine ⟨⟨q1, q2⟩, Blk.lies_of_holds (Blk.holds_rn (ρ' := fun k => ρ (f k)) (fun k _ => rfl) q1 q2 hh) ?_⟩
    exact List.all_eq_true.1 h2 _ hx
  have hbase : (ρ (f 0)).base = 0 := by
    obtain ⟨q1, q2, q3⟩ := hm _ _ hb0
    have hh := hs.now.hp _ _ (mem_hget q3)
    refine based_of hh ?_
    cases b0 <;> first | rfl | cases hbb
  have on : On (ρ (f 0)).blk Sh (footL (fun k => ρ (f k)) hp') w := ⟨fun k => ρ (f k), nx', hp', hsh, hlies, nodup_map (fun x => f x) _ (by simpa [List.map_map, Function.comp_def] using h1), rfl, hnd, rfl, hbase, h0⟩
  refine ⟨hbase, footL (fun k => ρ (f k)) hp', ?_⟩
  intro ρ2 hρ2
  have hρ2 : ∀ k, k < nx → ρ2 k = ρ k := hρ2
  have g0 := hs ρ2 hρ2
  have hf0 : f 0 < nx := hs.now.names _ _ (mem_hget (hm _ _ hb0).2.2)
  have hfe : footL (fun k => ρ (f k)) hp' = footL ρ2 (hp'.map fun x => (f x.1, x.2.rn f)) := by
    rw [hfoot hp' fun _ h => h]
    have key : ∀ l : List (Nat × Blk), (∀ x, x ∈ l → x ∈ hp) → footL ρ l = footL ρ2 l := fun l => by
      induction l with
      | nil => intro _; rfl
      | cons x r ih =>
        obtain ⟨m, b⟩ := x
        intro hs'
        simp only [footL]
        rw [ih fun x hx => hs' x (by simp [hx])]
        congr 1
        have : m < nx := hs.now.names _ _ (hs' (m, b) (by simp))
        cases b <;> simp [Blk.foot, hρ2 m this]
    exact key _ hsub
  refine ⟨fun t htt => ?_, g0.defers, g0.size, g0.keeps, fun m b hx => ?_, ?_, fun m b hx => ?_, ?_, g0.n0le⟩
  · show _ = (lk (ptsC _ ts fr) t).den ρ2
    rcases ptsC_lk (x := .c (.v (gptr (ρ (f 0)).blk))) (t := t) (ts := ts) (fr := fr) with ⟨e1, e2⟩ | e2
    · have := g0.fr t (by show (lk fr t).ok = true; rw [ht t e1]; rfl)
      rw [this, e2]
      show (lk fr t).den ρ2 = _
      rw [ht t e1]
      simp [SV.den, CV.den, gptr, hρ2 (f 0) hf0, hbase]
    · have htt : (lk (ptsC _ ts fr) t).ok = true := htt
      rw [e2] at htt ⊢
      exact g0.fr t htt
  · rcases List.mem_cons.1 hx with hx | hx
    · injection hx with q1 q2; subst q1; subst q2
      refine ⟨on, On.stable, hnd, fun k hk => ⟨on.lt k hk, ?_⟩⟩
      rw [hfoot hp' fun _ h => h] at hk
      obtain ⟨n, b, hx, hk⟩ := footL_out hk
      exact (Blk.foot_lt (hs.now.hp _ _ (hsub _ hx)) k hk).2
    · exact g0.hp _ _ (hremL_mem hx).1
  · show (footL (fun k => ρ (f k)) hp' ++ footL ρ2 _).Nodup
    rw [List.nodup_append]
    refine ⟨hnd, sub_nodup g0.nodup _ (fun x hx => (hremL_mem (m := x.1) (b := x.2) hx).1) (hremL_once _ _ g0.once), fun k hk j hj hkj => ?_⟩
    subst hkj
    rw [hfe] at hk
    obtain ⟨n, b, hx, hk⟩ := footL_out hk
    obtain ⟨n2, b2, hx2, hk2⟩ := footL_out hj
    obtain ⟨q1, q2⟩ := hremL_mem hx2
    refine foot_disj g0.nodup (hsub _ hx) q1 (fun e => q2 ?_) hk hk2
    obtain ⟨x, hx3, hx4⟩ := List.mem_map.1 hx
    rw [← e]
    injection hx4 with hx4 hx5
    exact List.mem_map.2 ⟨x, hx3, hx4⟩
  · rcases List.mem_cons.1 hx with hx | hx
    · injection hx with q1 q2; rw [q1]; exact hf0
    · exact g0.names _ _ (hremL_mem hx).1
  · show (f 0 :: (hremL hp _).map (·.1)).Nodup
    rw [List.nodup_cons]
    refine ⟨fun hx => ?_, hremL_once _ _ g0.once⟩
    obtain ⟨⟨m, b⟩, hx, he⟩ := List.mem_map.1 hx
    refine (hremL_mem hx).2 ?_
    simp only at he
    rw [he]
    exact List.mem_map.2 ⟨(0, b0), hb0, rfl⟩

theorem scode_open {c : Code} {Q : Exit → St → Prop} (n : Nat) {g : Nat} {Sh : Nat → List (Nat × Blk) → Prop} {fp : List Nat} (ts : List Nat) (hg : hget hp n = some (.pred fp (On g Sh fp))) (ht : ∀ t, t ∈ ts → lk fr t = .c (.v (gptr g)))
    (h : ∀ nx' hp', Sh nx' hp' → SCode P C c Q ⟨ptsC (.c (.p nx 0 0)) ts fr, renL (nx + ·) hp' ++ hrem hp n, nx + nx'⟩) : SCode P C c Q ⟨fr, hp, nx⟩ := fun ρ a w hs => by
  obtain ⟨nx', hp', ρ', h1, h2, h3⟩ := hs.open_ n hg ts ht
  exact Code.wp_mono (QQ_to fun k hk => h2 k (Nat.lt_of_lt_of_le hk hs.now.n0le)) (h nx' hp' h1 ρ' a w h3)
theorem scode_close {c : Code} {Q : Exit → St → Prop} (f : Nat → Nat) (Sh : Nat → List (Nat × Blk) → Prop) (nx' : Nat) (hp' : List (Nat × Blk)) (ts : List Nat) {b0 : Blk} (he : hpEnt f nx' hp hp') (h1 : (hp'.map fun x => f x.1).Nodup) (h2 : hp'.all (fun x => x.2.solid) = true) (hsh : Sh nx' hp')
    (hb0 : (0, b0) ∈ hp') (hbb : b0.based = true) (h0 : 0 < nx') (ht : ∀ t, t ∈ ts → lk fr t = .c (.p (f 0) 0 0))
    (h : ∀ g fp', SCode P C c Q ⟨ptsC (.c (.v (gptr g))) ts fr, (f 0, .pred fp' (On g Sh fp')) :: hremL hp (hp'.map fun x => f x.1), nx⟩) : SCode P C c Q ⟨fr, hp, nx⟩ := fun ρ a w hs => by
  obtain ⟨_, fp', h3⟩ := hs.close_ f he h1 h2 hsh hb0 hbb h0 ts ht
  exact h _ fp' ρ a w h3
theorem renL_n {f : Nat → Nat} : renL f [] = [] := (rfl)
theorem renL_c {f : Nat → Nat} {m : Nat} {b : Blk} {r : List (Nat × Blk)} : renL f ((m, b) :: r) = (f m, b.rn f) :: renL f r := (rfl)
theorem hremL_n : hremL hp [] = hp := (rfl)
theorem hremL_c {n : Nat} {r : List Nat} : hremL hp (n :: r) = hremL (hrem hp n) r := (rfl)
theorem ptsC_n {x : SV} : ptsC x [] fr = fr := (rfl)
theorem ptsC_c {x : SV} {t : Nat} {r : List Nat} : ptsC x (t :: r) fr = (t, x) :: ptsC x r fr := (rfl)
theorem rnB_cells {f : Nat → Nat} {ty : TypeId} {cs : List CV} : Blk.rn f (.cells ty cs) = .cells ty (CV.rnL f cs) := (rfl)
theorem rnB_rows {f : Nat → Nat} {ty : TypeId} {e m c : Nat} {r : Nat → List CV} : Blk.rn f (.rows ty e m c r) = .rows ty e m c fun i => CV.rnL f (r i) := (rfl)
theorem rnB_obj {f : Nat → Nat} {o : Obj} : Blk.rn f (.obj o) = .obj o := (rfl)
theorem rnB_pred {f : Nat → Nat} {fp : List Nat} {R : World → Prop} : Blk.rn f (.pred fp R) = .pred fp R := (rfl)
theorem rnL_n {f : Nat → Nat} : CV.rnL f [] = [] := (rfl)
theorem rnL_c {f : Nat → Nat} {x : CV} {r : List CV} : CV.rnL f (x :: r) = x.rn f :: CV.rnL f r := (rfl)
theorem rn_v {f : Nat → Nat} {x : Value} : CV.rn f (.v x) = .v x := (rfl)
theorem rn_p {f : Nat → Nat} {b i q : Nat} : CV.rn f (.p b i q) = .p (f b) i q := (rfl)
theorem rn_s {f : Nat → Nat} {b i l c : Nat} : CV.rn f (.s b i l c) = .s (f b) i l c := (rfl)
theorem rnL_v {f : Nat → Nat} (l : List Value) : CV.rnL f (l.map .v) = l.map .v := by
  rw [CV.rnL_eq, List.map_map]; rfl
theorem app_n {l : List (Nat × Blk)} : ([] : List (Nat × Blk)) ++ l = l := (rfl)
theorem app_c {x : Nat × Blk} {r l : List (Nat × Blk)} : (x :: r) ++ l = x :: (r ++ l) := (rfl)
theorem bfun {f : Nat → Nat} {k : Nat} : (fun j => f j) k = f k := (rfl)
attribute [go_sem] renL_n renL_c hremL_n hremL_c ptsC_n ptsC_c rnB_cells rnB_rows rnB_obj rnB_pred rnL_n rnL_c rn_v rn_p rn_s rnL_v app_n app_c
end
end Go.Sx
namespace Go.Sx
open Go.RowKit
section
variable {P : Program} {C : Cx} {fr : List (Nat × SV)} {hp : List (Nat × Blk)} {nx : Nat}
def Cell0 (Sh : Nat → List (Nat × Blk) → Prop) : Prop := ∀ nx hp, Sh nx hp → ∃ ty cs, hget hp 0 = some (.cells ty cs)
theorem on_calls3 {f : FuncId} {fn : Func} {c : Code} {args : Array Value} {w : World} {R : Ending → World → Prop} {g : Nat} {Sh : Nat → List (Nat × Blk) → Prop} {fp : List Nat} (ho : On g Sh fp w) (hcell : Cell0 Sh) (n : Nat) (rs : List ResultVar) (hf : P.funcs[f]? = some fn) (hb : fn.body = some c) (hn : fn.ntmps = n) (hr : fn.results = rs.toArray)
    (xs : List SV) (hl : xs.length ≤ n) (ha : ∀ ρ' : Env, ρ' 0 = ⟨g, 0, 1⟩ → args.toList = SV.denL ρ' xs)
    (h : ∀ ρ nx hp, Sh nx hp → ρ 0 = ⟨g, 0, 1⟩ ∧ 0 < nx → X P ⟨w, (· ∈ fp), n, nx, ρ⟩ c (retQ P ⟨w, (· ∈ fp), n, nx, ρ⟩ rs R) ⟨frOf 0 xs, hp, nx⟩) : Calls P f args w R := by
  obtain ⟨ρ, nx, hp, h1, h2, h3, h4, h5, h6, h7, h8⟩ := ho
  obtain ⟨ty, cs, hc⟩ := hcell _ _ h1
  have he := (h2 _ _ (mem_hget hc)).2.2.2
  have h10 : ρ 0 = ⟨g, 0, 1⟩ := by
    have : ρ 0 = ⟨(ρ 0).blk, (ρ 0).base, (ρ 0).esz⟩ := rfl
    rw [this, h6, h7, he]
  have hfoot : ∀ ρ' : Env, (∀ k, k < nx → ρ' k = ρ k) → ∀ l : List (Nat × Blk), (∀ x, x ∈ l → x ∈ hp) → footL ρ' l = footL ρ l := fun ρ' hρ l => by
    induction l with
    | nil => intro _; rfl
    | cons x r ih =>
      obtain ⟨m, b⟩ := x
      intro hs
      have hm := (h2 m b (hs _ (by simp))).1.1
      simp only [footL]
      rw [ih fun x hx => hs x (by simp [hx])]
      congr 1
      cases b <;> simp [Blk.foot, hρ m hm]
  refine calls_of (· ∈ fp) n rs hf hb hn hr xs hp nx ρ hl (fun ρ' hρ => ha ρ' (by rw [hρ 0 h8]; exact h10)) (fun ρ' hρ => ⟨fun m b hm => ?_, ?_⟩) (fun m b hm => (h2 m b hm).1.1) h3 (h ρ nx hp h1 ⟨h10, h8⟩)
  · obtain ⟨⟨hm1, hm2⟩, hm3⟩ := h2 m b hm
    refine Blk.holds_of_lies (Blk.lies_env hm2 hm1 hρ hm3) fun k hk => .inr ?_
    show k ∈ fp
    rw [← h4, ← hfoot ρ' hρ hp fun _ h => h]
    exact foot_mem hm hk
  · rw [hfoot ρ' hρ hp fun _ h => h, h4]; exact h5
theorem scall_self {f : FuncId} {args : List SV} {d : Option Tmp} {K : St → Prop} {g : Nat} {Sh Sh' : Nat → List (Nat × Blk) → Prop} {v : Value} (fs : Nat → Nat) (nx' : Nat) (hp' : List (Nat × Blk)) (vs : List Value) (x : SV)
    (hpin : 0 < C.n0 ∧ C.ρ0 0 = ⟨g, 0, 1⟩) (hc : ∀ (v : Array Value) w, (callFunc f v).run P w = .ok (.enter f v) w) (hcall : ∀ fp w, On g Sh fp w → Calls P f vs.toArray w (Turn g fp v Sh' w)) (hcell : Cell0 Sh')
    (he : hpEnt fs nx' hp hp') (h1 : (hp'.map fun x => fs x.1).Nodup) (h2 : hp'.all (fun x => x.2.solid) = true) (hsh : Sh nx' hp') {b0 : Blk} (hb0 : (0, b0) ∈ hp') (hbb : b0.based = true) (h0 : 0 < nx') (hf0 : fs 0 = 0)
    (hok : SV.okL args = true) (hv : ∀ ρ : Env, ρ 0 = ⟨g, 0, 1⟩ → SV.denL ρ args = vs) (hx : ∀ ρ, v = x.den ρ) (hd : dkB C.N d = true)
    (hK : ∀ nx2 hp2, Sh' nx2 hp2 → kput K ⟨fr, renL (fun k => if k = 0 then 0 else nx + k) hp2 ++ hremL hp (hp'.map fun x => fs x.1), nx + nx2⟩ d x) : SCall P C f args d K ⟨fr, hp, nx⟩ := by
  refine ⟨hok, fun ρ w a hs _ => .inl ⟨fun v w => hc _ w, ?_⟩⟩
  have hρ0 : ρ 0 = ⟨g, 0, 1⟩ := (hs.now.size.2 0 hpin.1).trans hpin.2
  rw [hv ρ hρ0]
  obtain ⟨_, fp', hs1⟩ := hs.close_ fs he h1 h2 hsh hb0 hbb h0 [] (fun t h => by cases h)
  have hgb : (ρ (fs 0)).blk = g := by rw [hf0, hρ0]
  rw [hgb, hf0] at hs1
  have hg : hget ((0, Blk.pred fp' (On g Sh fp')) :: hremL hp (hp'.map fun x => fs x.1)) 0 = some (.pred fp' (On g Sh fp')) := rfl
  refine (hcall fp' w (hs1.now.hp _ _ (mem_hget hg)).1).mono fun e w' ⟨fp2, he, hR, hch⟩ => ⟨_, he, ?_⟩
  have hs2 := hs1.pred hg hch hR On.stable
  have hg2 : hget (hset ((0, Blk.pred fp' (On g Sh fp')) :: hremL hp (hp'.map fun x => fs x.1)) 0 (.pred fp2 (On g Sh' fp2))) 0 = some (.pred fp2 (On g Sh' fp2)) := rfl
  obtain ⟨nx2, hp2, ρ2, q1, q2, q3⟩ := hs2.openAt hg2 hpin hcell
  have hrr : ∀ (l : List (Nat × Blk)), hrem ((0, Blk.pred fp2 (On g Sh' fp2)) :: l) 0 = hrem l 0 := fun l => by simp [hrem]
  have hro : ∀ (l : List Nat) (h : List (Nat × Blk)), (∀ x, x ∈ h → x.1 ≠ 0) → hrem h 0 = h := fun _ h => by
    induction h with
    | nil => intro _; rfl
    | cons x r ih =>
      intro hn
      obtain ⟨m, b⟩ := x
      simp only [hrem]
      rw [if_neg (hn (m, b) (by simp)), ih fun y hy => hn y (by simp [hy])]
  have hst : hrem (hset ((0, Blk.pred fp' (On g Sh fp')) :: hremL hp (hp'.map fun x => fs x.1)) 0 (.pred fp2 (On g Sh' fp2))) 0 = hremL hp (hp'.map fun x => fs x.1) := by
    show hrem ((0, Blk.pred fp2 (On g Sh' fp2)) :: hremL hp (hp'.map fun x => fs x.1)) 0 = _
    rw [hrr]
    refine hro [] _ fun x hx e => ?_
    have := (hremL_mem (m := x.1) (b := x.2) hx).2
    rw [e] at this
    exact this (List.mem_map.2 ⟨(0, b0), hb0, hf0⟩)
  rw [hst] at q3
  exact ⟨_, ρ2, hK nx2 hp2 q1, q3.put (dk_of hd) fun _ ρ' _ => hx ρ', by cases d <;> simp [St.put], q2⟩
end
end Go.Sx
namespace Go.Sx
open Go.RowKit
section
variable {P : Program} {C : Cx} {fr : List (Nat × SV)} {hp : List (Nat × Blk)} {nx : Nat}
def brow (s : ByteArray) (i : Nat) : List CV := [.v (.int .u8 (bt s i))]
theorem freeze_new (w : World) (arr : Array Value) (E : TypeId) (n : Nat) : ((w.alloc (.cells arr E)).freeze ⟨w.heap.size, n, none⟩ 1).heap[w.heap.size]? = some (.cells arr E (n, n + 1)) := by
  unfold World.freeze
  rw [if_neg (by omega)]
  show (Array.modify _ _ _)[w.heap.size]? = _
  rw [Array.getElem?_modify, if_pos rfl, heap_push_new]
  rfl
theorem run_mark (w : World) (a : Addr) (t n : Nat) (h : w.shape? a.block = some (t, n)) : (markStringish a).run P w = .ok () (w.freeze ⟨a.block, n, none⟩ 1) := by
  have h1 : (shape a.block).run P w = .ok (some (t, n)) w := by rw [← h]; rfl
  simp only [markStringish, Sem.run_bind, h1, Result.andThen_ok]
  rfl
theorem freeze_old (w : World) (a : Addr) (n k : Nat) (hk : k ≠ a.block) : (w.freeze a n).heap[k]? = w.heap[k]? := by
  unfold World.freeze
  split
  · rfl
  · simp [Array.getElem?_modify, Ne.symm hk]
theorem freeze_size (w : World) (a : Addr) (n : Nat) : (w.freeze a n).heap.size = w.heap.size := by
  unfold World.freeze
  split <;> simp
theorem freeze_rest (w : World) (a : Addr) (n : Nat) : (w.freeze a n).os = w.os ∧ (w.freeze a n).tape = w.tape ∧ (w.freeze a n).output = w.output := by
  unfold World.freeze
  split <;> exact ⟨rfl, rfl, rfl⟩
theorem run_bytes (w : World) (E : TypeId) (s : ByteArray) : ∃ cap arr, s.size ≤ cap ∧ arr.size = cap ∧ (∀ i, i < s.size → arr[i]? = some (.int .u8 (bt s i))) ∧ (Conv.stringToBytes E s).run P w = .ok (.slice (some ⟨w.heap.size, 0, none⟩) s.size cap) ((w.drew.alloc (.cells arr E)).freeze ⟨w.heap.size, cap, none⟩ 1) := by
  have hge := grownCap_ge w s.size 0 E
  refine ⟨grownCap w s.size 0 E, (s.data.map fun b => Value.int .u8 b.toNat) ++ Array.replicate (grownCap w s.size 0 E - s.size) (.int .u8 0), hge, ?_, fun i hi => ?_, ?_⟩
  · have : s.data.size = s.size := rfl
    simp; omega
  · have hi' : i < s.data.size := hi
    rw [Array.getElem?_append_left (by simpa using hi'), Array.getElem?_map, Array.getElem?_eq_getElem hi']
    have : s.data.toList[i]? = some s.data[i] := by rw [Array.getElem?_toList]; exact Array.getElem?_eq_getElem hi'
    simp only [bt, Int.toNat_natCast, List.getD_eq_getElem?_getD, this, Option.map_some, Option.getD_some]
  · have hsz : s.data.size = s.size := rfl
    have hq : (Question.appendCap s.size 0 E).forced = false := rfl
    have hc : (choose (.appendCap s.size 0 E)).run P w = .ok (grownCap w s.size 0 E) w.drew := by rw [run_choose, hq]; rfl
    have hn : ∀ (cs : Array Value) (w : World), (newRow E cs).run P w = .ok ⟨w.heap.size, 0, none⟩ (w.alloc (.cells cs E)) := fun cs w => rfl
    simp only [Conv.stringToBytes, Sem.run_bind, hc, Result.andThen_ok, hn]
    rw [run_mark _ _ E (grownCap w s.size 0 E)]
    · rfl
    · simp only [World.shape?, heap_push_new]
      simp only [Array.size_append, Array.size_map, Array.size_replicate, hsz]
      congr 2; omega
theorem Sat.allocBytes {ρ : Env} {a : Act} {w : World} (h : Sat C ⟨fr, hp, nx⟩ ρ a w) {E : TypeId} {s : ByteArray} {arr : Array Value} {cap : Nat} {d : Tmp} (hd : d < C.N) (hc : s.size ≤ cap) (ha : arr.size = cap) (hg : ∀ i, i < s.size → arr[i]? = some (.int .u8 (bt s i))) :
    Sat C ⟨(d, .c (.s nx 0 s.size cap)) :: fr, (nx, .rows E 1 s.size cap (brow s)) :: hp, nx + 1⟩ (envSet ρ nx ⟨w.heap.size, 0, 1⟩) (a.put (some d) (.slice (some ⟨w.heap.size, 0, none⟩) s.size cap)) ((w.alloc (.cells arr E)).freeze ⟨w.heap.size, cap, none⟩ 1) := by
  have hb : Below w.heap.size w ((w.alloc (.cells arr E)).freeze ⟨w.heap.size, cap, none⟩ 1) := by
    obtain ⟨e1, e2, e3⟩ := freeze_rest (w.alloc (.cells arr E)) ⟨w.heap.size, cap, none⟩ 1
    refine ⟨e1, e2, e3, ?_, fun k hk => ?_⟩
    · rw [freeze_size]; simp
    · rw [freeze_old _ _ _ _ (by simp; omega)]
      exact ((Below.refl w.heap.size w).alloc (Nat.le_refl _) (.cells arr E)).block k hk
  have h1 := (h.below hb).add (.rows E 1 s.size cap (brow s)) ⟨w.heap.size, 0, 1⟩ [w.heap.size] (fun ρ' hρ hn => by
      refine ⟨by rw [hn], by rw [hn], ⟨arr, ?_, by omega, fun i hi => ⟨rfl, fun k hk => ?_⟩⟩, by rw [hn]; exact .inl h.now.keeps.size⟩
      · rw [hn]
        exact ⟨_, freeze_new _ _ _ _, .inr ⟨by simp [ha], rfl⟩⟩
      · have : k = 0 := by omega
        subst this
        rw [Nat.mul_one, Nat.add_zero, hg i hi]; rfl)
    (fun ρ' hn => by simp [Blk.foot, hn]) (fun k hk hm => by
      simp at hk; subst hk; exact absurd (h.now.foot_lt hm).1 (Nat.lt_irrefl _)) (by simp)
  refine Sat.put (st := ⟨fr, _, _⟩) (d := some d) h1 hd fun _ ρ' hρ => ?_
  have := hρ nx (by simp)
  simp [SV.den, CV.den, this, envSet]
theorem sbytes {d : Tmp} {x : Operand} {t1 t E ty : TypeId} {pos : String} {af : Array Edge} {g : Option (Nat × Bool)} {K : St → Prop} {s : ByteArray} {tk : TK}
    (hx : St.ev ⟨fr, hp, nx⟩ x = .c (.v (.string s))) (h1 : tkind P t1 = some tk) (hk : tkind P t = some (.slc E)) (hE : tint P E = some (some .u8))
    (hK : d < C.N ∧ ∀ c', s.size ≤ c' → K ⟨(d, .c (.s nx 0 s.size c')) :: fr, (nx, .rows E 1 s.size c' (brow s)) :: hp, nx + 1⟩) :
    SOp P C ⟨some d, .convert t1 t x, ty, pos, af, g⟩ K ⟨fr, hp, nx⟩ := fun ρ a w hs => by
  obtain ⟨d1, hu1, _⟩ := kind_of h1
  obtain ⟨ds, hu, hds⟩ := kind_of hk
  simp only at hds; subst hds
  obtain ⟨cap, arr, c1, c2, c3, c4⟩ := run_bytes (P := P) w E s
  refine wp_value (v := .slice (some ⟨w.heap.size, 0, none⟩) s.size cap) ?_ ⟨_, _, hK.2 cap c1, (hs.drew).allocBytes hK.1 c1 c2 c3, Nat.le_succ _, fun k hk => by simp [envSet, Nat.ne_of_lt hk]⟩
  simp only [execOp]
  have : (convert t1 t (.string s)).run P w = (Conv.stringToBytes E s).run P w := by
    simp only [convert, Sem.run_bind, run_underlying hu1, run_underlying hu, Result.andThen_ok, run_underlying (tint_of hE)]
  simp [ev_c hs.fr' hx rfl, SV.den, CV.den, this, c4]
end
end Go.Sx
namespace Go.Sx
open Go.RowKit
def bl (s : ByteArray) : List Nat := s.data.toList.map (·.toNat)
def strN (l : List Nat) : ByteArray := ⟨(l.map UInt8.ofNat).toArray⟩
abbrev c8 (n : Nat) : CV := .v (.int .u8 n)
def brL (L : List Nat) (i : Nat) : List CV := ((L.drop i).take 1).map c8

theorem bl_len (s : ByteArray) : (bl s).length = s.size := by simp [bl]
theorem bl_lt (s : ByteArray) : ∀ x, x ∈ bl s → x < 256 := fun x hx => by
  obtain ⟨b, _, rfl⟩ := List.mem_map.1 hx
  exact b.toNat_lt
theorem bl_app (a b : ByteArray) : bl (a ++ b) = bl a ++ bl b := by simp [bl, ByteArray.data_append]
theorem bl_extract (s : ByteArray) (i j : Nat) : bl (s.extract i j) = ((bl s).take j).drop i := by
  simp only [bl, ByteArray.data_extract, Array.toList_extract, List.extract_eq_take_drop, List.map_take, List.map_drop]
  rw [List.drop_take]
theorem bl_strN {l : List Nat} (h : ∀ x, x ∈ l → x < 256) : bl (strN l) = l := by
  unfold bl strN
  rw [List.toList_toArray, List.map_map]
  conv => rhs; rw [← List.map_id l]
  refine List.map_congr_left fun x hx => ?_
  have := h x hx
  simp [Nat.mod_eq_of_lt this]
theorem strN_bl (s : ByteArray) : strN (bl s) = s := by
  unfold bl strN
  rw [List.map_map]
  have : (UInt8.ofNat ∘ fun x : UInt8 => x.toNat) = id := by funext x; simp
  rw [this, List.map_id]
theorem strN_size (l : List Nat) : (strN l).size = l.length := by
  show (strN l).data.size = _
  simp [strN]
theorem strN_app (a b : List Nat) : strN (a ++ b) = strN a ++ strN b := by
  apply ByteArray.ext
  simp [strN, ByteArray.data_append]
theorem bl_inj {a b : ByteArray} (h : bl a = bl b) : a = b := by rw [← strN_bl a, ← strN_bl b, h]
theorem strN_nil : strN [] = ByteArray.empty := rfl
theorem bt_get {s : ByteArray} {i x : Nat} (h : (bl s)[i]? = some x) : bt s (i : Int) = (x : Int) := by
  unfold bl at h
  rw [List.getElem?_map] at h
  unfold bt
  rw [Int.toNat_natCast, List.getD_eq_getElem?_getD]
  cases hq : s.data.toList[i]? with
  | none => rw [hq] at h; cases h
  | some b => rw [hq] at h; injection h with h; rw [← h]; rfl
theorem brL_get {L : List Nat} {i x : Nat} (h : L[i]? = some x) : brL L i = [c8 x] := by
  unfold brL
  obtain ⟨h1, rfl⟩ := List.getElem?_eq_some_iff.1 h
  rw [List.drop_eq_getElem_cons h1]; rfl
theorem brL_one (L : List Nat) (i : Nat) : (brL L i).all one1 = true := by
  unfold brL
  rw [List.all_map, List.all_eq_true]
  intro x _; rfl
theorem brow_br {s : ByteArray} {i : Nat} (h : i < s.size) : brow s i = brL (bl s) i := by
  have h1 : i < (bl s).length := by rw [bl_len]; exact h
  rw [brL_get (List.getElem?_eq_getElem h1)]
  unfold brow c8
  rw [bt_get (List.getElem?_eq_getElem h1)]
theorem rapp_br {L M : List Nat} {n j : Nat} (h : n = L.length) : rapp (brL L) n (fun i => brL M (j + i)) = brL (L ++ M.drop j) := by
  subst h
  funext i
  unfold rapp brL
  by_cases hi : i < L.length
  · rw [if_pos hi, List.drop_append_of_le_length (by omega), List.take_append_of_le_length (by simp; omega)]
  · rw [if_neg hi, List.drop_append, List.drop_eq_nil_of_le (by omega), List.nil_append, List.drop_drop]
theorem rupd_br {L : List Nat} {i x : Nat} (h : i < L.length) : rupd (brL L) i [c8 x] = brL (L.set i x) := by
  funext k
  unfold rupd
  by_cases hk : k = i
  · subst hk
    rw [if_pos rfl, brL_get (by rw [List.getElem?_set_self h])]
  · rw [if_neg hk]
    have : (L.set i x)[k]? = L[k]? := by rw [List.getElem?_set_ne (Ne.symm hk)]
    cases hq : L[k]? with
    | some y => rw [brL_get hq, brL_get (by rw [this, hq])]
    | none =>
      have h1 := List.getElem?_eq_none_iff.1 hq
      unfold brL
      rw [List.drop_eq_nil_of_le h1, List.drop_eq_nil_of_le (by simpa using h1)]
theorem byL_br {L : List Nat} : ∀ {n i : Nat}, i + n ≤ L.length → byL (brL L) i n = some (((L.drop i).take n).map fun x : Nat => (x : Int))
  | 0, i, _ => by simp [byL]
  | n + 1, i, h => by
    have h1 : i < L.length := by omega
    rw [byL, brL_get (List.getElem?_eq_getElem h1), byL_br (by omega), List.drop_eq_getElem_cons h1]
    rfl
theorem strB_map (l : List Nat) : strB (l.map fun x : Nat => (x : Int)) = strN l := by
  unfold strB strN
  rw [List.map_map]
  congr 2
theorem rowsOf_br (L : List Nat) : rowsOf 1 (L.map c8) = brL L := by
  funext i
  unfold rowsOf brL
  rw [Nat.mul_one, ← List.map_drop, ← List.map_take]
section
variable {P : Program} {C : Cx} {fr : List (Nat × SV)} {hp : List (Nat × Blk)} {nx : Nat}
theorem sbytes2 {d : Tmp} {x : Operand} {t1 t E ty : TypeId} {pos : String} {af : Array Edge} {g : Option (Nat × Bool)} {K : St → Prop} {s : ByteArray} {tk : TK}
    (hx : St.ev ⟨fr, hp, nx⟩ x = .c (.v (.string s))) (h1 : tkind P t1 = some tk) (hk : tkind P t = some (.slc E)) (hE : tint P E = some (some .u8))
    (hK : d < C.N ∧ ∀ c', s.size ≤ c' → K ⟨(d, .c (.s nx 0 s.size c')) :: fr, (nx, .rows E 1 s.size c' (brL (bl s))) :: hp, nx + 1⟩) :
    SOp P C ⟨some d, .convert t1 t x, ty, pos, af, g⟩ K ⟨fr, hp, nx⟩ := fun ρ a w hs => by
  obtain ⟨hd, hK⟩ := hK
  have := sbytes (P := P) (C := C) (ty := ty) (pos := pos) (af := af) (g := g) (K := fun st => ∃ c', s.size ≤ c' ∧ st = ⟨(d, .c (.s nx 0 s.size c')) :: fr, (nx, .rows E 1 s.size c' (brow s)) :: hp, nx + 1⟩) hx h1 hk hE ⟨hd, fun c' hc' => ⟨c', hc', rfl⟩⟩ ρ a w hs
  refine Oper.wp_to this fun a' w' hk => ?_
  obtain ⟨st1, ρ1, ⟨c', hc', rfl⟩, h5, h6, h7⟩ := hk
  refine ⟨_, ρ1, hK c' hc', ?_, h6, h7⟩
  have := h5.set (b := nx) (old := .rows E 1 s.size c' (brow s)) (new := .rows E 1 s.size c' (brL (bl s))) (w' := w') (by simp [hget]) h5.now.keeps (Nat.le_refl _) (fun _ _ _ _ => rfl) (fun ρ' hρ => ⟨rfl, by
    obtain ⟨g0, g1, ⟨arr, g2, gc, g3⟩, g4⟩ := (h5 ρ' hρ).hp nx (.rows E 1 s.size c' (brow s)) (by simp)
    exact ⟨g0, g1, ⟨arr, g2, gc, fun i hi => by rw [← brow_br hi]; exact g3 i hi⟩, g4⟩⟩)
  simpa [hset] using this
end
end Go.Sx
namespace Go.Sx
open Go.RowKit
section
variable {P : Program} {C : Cx} {fr : List (Nat × SV)} {hp : List (Nat × Blk)} {nx : Nat}
theorem SOp_ent {o : Oper} {K : St → Prop} {st : St} (h : SOp P C o (fun st' => ∃ st2, (∀ ρ a w, Sat C st' ρ a w → Sat C st2 ρ a w) ∧ st'.nx ≤ st2.nx ∧ K st2) st) : SOp P C o K st := fun ρ a w hs => by
  refine Oper.wp_to (h ρ a w hs) fun a' w' hk => ?_
  obtain ⟨st1, ρ1, ⟨st2, h1, h2, h4⟩, h5, h6, h7⟩ := hk
  exact ⟨st2, ρ1, h4, h1 _ _ _ h5, Nat.le_trans h6 h2, h7⟩
theorem Sat.rows_eq {ρ : Env} {a : Act} {w : World} (hs : Sat C ⟨fr, hp, nx⟩ ρ a w) {n ty e m c : Nat} {r r' : Nat → List CV} (hg : hget hp n = some (.rows ty e m c r)) (h : ∀ i, i < m → r' i = r i) : Sat C ⟨fr, hset hp n (.rows ty e m c r'), nx⟩ ρ a w := by
  refine hs.set hg hs.now.keeps (Nat.le_refl _) (fun _ _ _ _ => rfl) fun ρ' hρ => ⟨rfl, ?_⟩
  obtain ⟨h1, h2, ⟨arr, h3, h4, h5⟩, h6⟩ := (hs ρ' hρ).hp _ _ (mem_hget hg)
  exact ⟨h1, h2, ⟨arr, h3, h4, fun i hi => by rw [h i hi]; exact h5 i hi⟩, h6⟩
theorem brL_out {L : List Nat} {i : Nat} (h : L.length ≤ i) : brL L i = [] := by
  unfold brL; rw [List.drop_eq_nil_of_le h]; rfl
theorem rapp_agree {L M : List Nat} {r r2 : Nat → List CV} {n j : Nat} (hn : n = L.length) (hr : ∀ i, i < n → r i = brL L i) (hr2 : ∀ i, i < M.length → r2 (j + i) = brL M i) : ∀ i, i < n + M.length → brL (L ++ M) i = rapp r n (fun i => r2 (j + i)) i := fun i hi => by
  subst hn
  unfold rapp
  by_cases h : i < L.length
  · rw [if_pos h, hr i h]
    unfold brL
    rw [List.drop_append_of_le_length (by omega), List.take_append_of_le_length (by simp; omega)]
  · rw [if_neg h]
    show brL (L ++ M) i = r2 (j + (i - L.length))
    rw [hr2 _ (by omega)]
    unfold brL
    rw [List.drop_append, List.drop_eq_nil_of_le (by omega), List.nil_append]
theorem sappendB {d : Tmp} {x y : Operand} {t E ty : TypeId} {pos : String} {af : Array Edge} {g : Option (Nat × Bool)} {K : St → Prop} {b n m c b2 j k c2 m2 : Nat} {zs : List Value} {r r2 : Nat → List CV} (L M : List Nat)
    (hx : St.ev ⟨fr, hp, nx⟩ x = .c (.s b 0 n c)) (hy : St.ev ⟨fr, hp, nx⟩ y = .c (.s b2 j k c2)) (hk : tkind P t = some (.slc E)) (h1 : tsz P E = some 1) (h2 : tby P E = some 1) (h3 : tzero P E = some zs)
    (hb : hget hp b = some (.rows E 1 m c r)) (hb2 : rowRd (hget hp b2) = some (1, m2, r2)) (hz : zs.length = 1) (hL : n = L.length ∧ n ≤ m ∧ ∀ i, i < n → r i = brL L i) (hM : k = M.length ∧ j + k ≤ m2 ∧ 0 < k ∧ ∀ i, i < M.length → r2 (j + i) = brL M i) (hsz : n + k ≤ 140737488355328)
    (hK : d < C.N ∧ ∀ c', n + k ≤ c' → K ⟨(d, .c (.s nx 0 (n + k) c')) :: fr, (nx, .rows E 1 (n + k) c' (brL (L ++ M))) :: hrem hp b, nx + 1⟩) :
    SOp P C ⟨some d, .call { callee := .builtin .append, args := #[x, y], argTypes := #[t, t] }, ty, pos, af, g⟩ K ⟨fr, hp, nx⟩ := by
  obtain ⟨hd, hK⟩ := hK
  refine SOp_ent ?_
  refine sappend hx hy hk h1 h2 h3 hb hb2 ⟨⟨hz, by omega, hM.2.2.1, hL.2.1⟩, hM.2.1, by omega, by omega⟩ (fun q hq => ?_) ⟨hd, fun c' hc' => ⟨⟨(d, .c (.s nx 0 (n + k) c')) :: fr, (nx, .rows E 1 (n + k) c' (brL (L ++ M))) :: hrem hp b, nx + 1⟩, fun ρ a w hs => ?_, Nat.le_refl _, hK c' hc'⟩⟩
  · rw [hM.2.2.2 q (by omega)]; exact brL_one _ _
  · have hag := rapp_agree (M := M) hL.1 hL.2.2 (r2 := r2) (j := j) hM.2.2.2
    have hh : hget ((nx, Blk.rows E 1 (n + k) c' (rapp r n fun i => r2 (j + i))) :: hrem hp b) nx = some (Blk.rows E 1 (n + k) c' (rapp r n fun i => r2 (j + i))) := by simp [hget]
    have := hs.rows_eq (r' := brL (L ++ M)) hh (fun i hi => hag i (by omega))
    simpa [hset] using this
theorem sappendB_nil {d : Tmp} {x y : Operand} {t E ty : TypeId} {pos : String} {af : Array Edge} {g : Option (Nat × Bool)} {K : St → Prop} {b2 j k c2 m2 : Nat} {zs : List Value} {r2 : Nat → List CV} (M : List Nat)
    (hx : St.ev ⟨fr, hp, nx⟩ x = .c (.v (.slice none 0 0))) (hy : St.ev ⟨fr, hp, nx⟩ y = .c (.s b2 j k c2)) (hk : tkind P t = some (.slc E)) (h1 : tsz P E = some 1) (h2 : tby P E = some 1) (h3 : tzero P E = some zs)
    (hb2 : rowRd (hget hp b2) = some (1, m2, r2)) (hz : zs.length = 1) (hM : (k = M.length ∧ 0 < k) ∧ j + k ≤ m2 ∧ ∀ i, i < M.length → r2 (j + i) = brL M i) (hsz : k ≤ 140737488355328)
    (hK : d < C.N ∧ ∀ c', k ≤ c' → K ⟨(d, .c (.s nx 0 k c')) :: fr, (nx, .rows E 1 k c' (brL M)) :: hp, nx + 1⟩) :
    SOp P C ⟨some d, .call { callee := .builtin .append, args := #[x, y], argTypes := #[t, t] }, ty, pos, af, g⟩ K ⟨fr, hp, nx⟩ := by
  obtain ⟨hd, hK⟩ := hK
  refine SOp_ent ?_
  refine sappend_nil hx hy hk h1 h2 h3 hb2 ⟨⟨hz, by omega, hM.1.2⟩, hM.2.1, by omega, by omega⟩ ⟨hd, fun c' hc' => ⟨⟨(d, .c (.s nx 0 k c')) :: fr, (nx, .rows E 1 k c' (brL M)) :: hp, nx + 1⟩, fun ρ a w hs => ?_, Nat.le_refl _, hK c' hc'⟩⟩
  have hh : hget ((nx, Blk.rows E 1 k c' (fun i => r2 (j + i))) :: hp) nx = some (Blk.rows E 1 k c' (fun i => r2 (j + i))) := by simp [hget]
  have := hs.rows_eq (r' := brL M) hh (fun i hi => (hM.2.2 i (by omega)).symm)
  simpa [hset] using this
theorem sappend_z0 {d : Tmp} {x y : Operand} {t tn E ty0 : TypeId} {pos : String} {af : Array Edge} {g : Option (Nat × Bool)} {K : St → Prop} {b i n c sz bb : Nat} {kk kn : IntKind} {zs : List Value}
    (hx : St.ev ⟨fr, hp, nx⟩ x = .c (.s b i n c)) (hy : St.ev ⟨fr, hp, nx⟩ y = .c (.v (.int kk 0))) (hk : tkind P t = some (.slc E)) (hkn : tint P tn = some (some kn)) (h1 : tsz P E = some sz) (h2 : tby P E = some bb) (h3 : tzero P E = some zs) (hn : n ≤ c) (hbn : b < nx)
    (hK : d < C.N ∧ K ⟨(d, .c (.s b i n c)) :: fr, hp, nx⟩) :
    SOp P C ⟨some d, .call { callee := .builtin .append, args := #[x, y], argTypes := #[t, tn] }, ty0, pos, af, g⟩ K ⟨fr, hp, nx⟩ := by
  obtain ⟨ds, hu, hds⟩ := kind_of hk
  simp only at hds; subst hds
  obtain ⟨ti, z, hi, rfl, rfl, hiz, hzc⟩ := info_of h1 h2 h3
  refine SOp_put (.c (.s b i n c)) rfl rfl (fun ρ a w hs => ?_) (fun ρ a w hs ρ' hρ => by simp [SV.den, CV.den, hρ b hbn]) hK
  have hw : IntKind.i64.wrap 0 = 0 := rfl
  simp [execOp, resolve, invoke, builtin, Builtin.append_, ev_c hs.fr' hx rfl, ev_c hs.fr' hy rfl, SV.den, CV.den, run_underlying hu, run_underlying (tint_of hkn), sizeOf, typeInfo, hi, Builtin.lenOf, Builtin.firstCells, hn, storeCells, asInt, asIntOf, hw]
end
end Go.Sx
namespace Go.Sx
open Go.RowKit Go.ChangeShapes Go.WideShapes
theorem u64_nat {a : Int} (hw : (Lit.int .u64 a).wf = true) : ∃ n : Nat, a = (n : Int) ∧ n < 18446744073709551616 := by
  simp [Lit.wf, IntKind.min, IntKind.max, IntKind.signed, IntKind.bits] at hw
  exact ⟨a.toNat, by omega, by omega⟩
theorem u8_nat {a : Int} (hw : (Lit.int .u8 a).wf = true) : ∃ n : Nat, a = (n : Int) ∧ n < 256 := by
  simp [Lit.wf, IntKind.min, IntKind.max, IntKind.signed, IntKind.bits] at hw
  exact ⟨a.toNat, by omega, by omega⟩
theorem i8_in {a : Int} (hw : (Lit.int .i8 a).wf = true) : -128 ≤ a ∧ a ≤ 127 := by
  simp [Lit.wf, IntKind.min, IntKind.max, IntKind.signed, IntKind.bits] at hw
  omega
theorem fokI {k : IntKind} {ks : List FK} : ∀ {l : List Value}, FOk (.i k :: ks) l → ∃ n r, l = .int k n :: r ∧ (Lit.int k n).wf = true ∧ FOk ks r
  | _ :: r, ⟨⟨n, h1, h2⟩, h3⟩ => ⟨n, r, by rw [h1], h2, h3⟩
theorem fokB {ks : List FK} : ∀ {l : List Value}, FOk (.b :: ks) l → ∃ b r, l = .bool b :: r ∧ FOk ks r
  | _ :: r, ⟨⟨n, h1⟩, h3⟩ => ⟨n, r, by rw [h1], h3⟩
theorem fokS {ks : List FK} : ∀ {l : List Value}, FOk (.s :: ks) l → ∃ b r, l = .string b :: r ∧ b.size ≤ maxLen ∧ FOk ks r
  | _ :: r, ⟨⟨n, h1, h2⟩, h3⟩ => ⟨n, r, by rw [h1], h2, h3⟩
theorem fok0 : ∀ {l : List Value}, FOk [] l → l = []
  | [], _ => rfl
end Go.Sx
namespace Go.Sx
open Go.RowKit
section
variable {P : Program} {C : Cx} {fr : List (Nat × SV)} {hp : List (Nat × Blk)} {nx : Nat}

theorem Chg.less {fp fp' : List Nat} {w : World} (h : ∀ k, k ∈ fp → k < w.heap.size) (hs : ∀ k, k ∈ fp' → k ∈ fp) (hn : fp'.Nodup) : Chg fp fp' w w :=
  ⟨Keeps.refl _ _, fun k hk => ⟨.inl (hs k hk), h k (hs k hk)⟩, hn⟩
theorem Sat.split {ρ : Env} {a : Act} {w : World} (h : Sat C ⟨fr, hp, nx⟩ ρ a w) {n : Nat} {fp fp1 fp2 : List Nat} {R R1 R2 : World → Prop} (hg : hget hp n = some (.pred fp R)) (hs : ∀ k, k ∈ fp1 ++ fp2 → k ∈ fp) (hn : (fp1 ++ fp2).Nodup)
    (h1 : R1 w) (h2 : R2 w) (s1 : Stable fp1 R1) (s2 : Stable fp2 R2) : Sat C ⟨fr, (nx, .pred fp2 R2) :: hset hp n (.pred fp1 R1), nx + 1⟩ (envSet ρ nx ⟨0, 0, 0⟩) a w := by
  have h0 := h.now
  obtain ⟨_, _, _, hown⟩ := h0.hp _ _ (mem_hget hg)
  obtain ⟨n1, n2, n3⟩ := List.nodup_append.1 hn
  have ha := h.pred hg (Chg.less (fun k hk => (hown k hk).1) (fun k hk => hs k (List.mem_append.2 (.inl hk))) n1) h1 s1
  refine ha.add (.pred fp2 R2) ⟨0, 0, 0⟩ fp2 (fun ρ' hρ hn' => ⟨h2, s2, n2, fun k hk => hown k (hs k (List.mem_append.2 (.inr hk)))⟩) (fun _ _ => rfl) (fun k hk hm => ?_) n2
  obtain ⟨m, b, hm, hkb⟩ := footL_out hm
  rcases hset_mem hg h0.once hm with ⟨rfl, rfl⟩ | ⟨hne, hm⟩
  · exact n3 k hkb k hk rfl
  · exact foot_disj h0.nodup hm (mem_hget hg) hne hkb (hs k (List.mem_append.2 (.inr hk)))
theorem hget_hrem_ne {n m : Nat} (hne : n ≠ m) : ∀ (hp : List (Nat × Blk)), hget (hrem hp m) n = hget hp n
  | [] => rfl
  | (a, x) :: r => by
    by_cases h : a = m
    · subst h
      rw [hrem, if_pos rfl, hget_hrem_ne hne r]
      have : Nat.beq a n = false := by
        cases hb : Nat.beq a n
        · rfl
        · exact absurd (Nat.eq_of_beq_eq_true hb).symm hne
      simp [hget, this]
    · rw [hrem, if_neg h]
      simp only [hget]
      rw [hget_hrem_ne hne r]
theorem Sat.join {ρ : Env} {a : Act} {w : World} (h : Sat C ⟨fr, hp, nx⟩ ρ a w) {n m : Nat} (hne : n ≠ m) {fp1 fp2 : List Nat} {R R1 R2 : World → Prop} (hg1 : hget hp n = some (.pred fp1 R1)) (hg2 : hget hp m = some (.pred fp2 R2)) (hR : R w) (hst : Stable (fp1 ++ fp2) R) :
    Sat C ⟨fr, hset (hrem hp m) n (.pred (fp1 ++ fp2) R), nx⟩ ρ a w := fun ρ' hρ => by
  have h0 := h ρ' hρ
  have hr := (h.rem m) ρ' hρ
  have hg1' : hget (hrem hp m) n = some (.pred fp1 R1) := by rw [hget_hrem_ne hne]; exact hg1
  obtain ⟨_, _, d1, o1⟩ := h0.hp _ _ (mem_hget hg1)
  obtain ⟨_, _, d2, o2⟩ := h0.hp _ _ (mem_hget hg2)
  have hdis : ∀ k, k ∈ fp1 → k ∈ fp2 → False := fun k h1 h2 => foot_disj h0.nodup (mem_hget hg1) (mem_hget hg2) hne h1 h2
  have hnd : (fp1 ++ fp2).Nodup := List.nodup_append.2 ⟨d1, d2, fun k h1 j h2 e => hdis k h1 (e ▸ h2)⟩
  obtain ⟨nd, _⟩ := hset_nodup (ρ := ρ') (R' := R) (hrem hp m) n hg1' hr.nodup hnd fun k hk => by
    rcases List.mem_append.1 hk with hk | hk
    · exact .inl hk
    · refine .inr fun hm => ?_
      obtain ⟨q, b, hm, hkb⟩ := footL_out hm
      obtain ⟨hm, hq⟩ := hrem_mem hm
      exact foot_disj h0.nodup hm (mem_hget hg2) hq hkb hk
  refine ⟨h0.fr, h0.defers, h0.size, h0.keeps, fun q x hm => ?_, nd, fun q x hm => ?_, by rw [hset_names]; exact hr.once, h0.n0le⟩
  · rcases hset_mem hg1' hr.once hm with ⟨rfl, rfl⟩ | ⟨_, hm⟩
    · refine ⟨hR, hst, hnd, fun k hk => ?_⟩
      rcases List.mem_append.1 hk with hk | hk
      · exact o1 k hk
      · exact o2 k hk
    · exact hr.hp q x hm
  · rcases hset_mem hg1' hr.once hm with ⟨rfl, rfl⟩ | ⟨_, hm⟩
    · exact hr.names _ _ (mem_hget hg1')
    · exact hr.names _ _ hm
theorem scode_split {α : Type} {c : Code} {Q : Exit → St → Prop} (n : Nat) {fp : List Nat} {R : World → Prop} (R1 R2 : α → List Nat → World → Prop) (hg : hget hp n = some (.pred fp R))
    (hsp : ∀ w, R w → fp.Nodup → ∃ y fp1 fp2, (∀ k, k ∈ fp1 ++ fp2 → k ∈ fp) ∧ (fp1 ++ fp2).Nodup ∧ R1 y fp1 w ∧ R2 y fp2 w) (s1 : ∀ y fp1, Stable fp1 (R1 y fp1)) (s2 : ∀ y fp2, Stable fp2 (R2 y fp2))
    (h : ∀ y fp1 fp2, SCode P C c Q ⟨fr, (nx, .pred fp2 (R2 y fp2)) :: hset hp n (.pred fp1 (R1 y fp1)), nx + 1⟩) : SCode P C c Q ⟨fr, hp, nx⟩ := fun ρ a w hs => by
  obtain ⟨hR, _, hn, _⟩ := hs.now.hp _ _ (mem_hget hg)
  obtain ⟨y, fp1, fp2, h1, h2, h3, h4⟩ := hsp w hR hn
  have := hs.split hg h1 h2 h3 h4 (s1 y fp1) (s2 y fp2)
  refine Code.wp_mono (QQ_to fun k hk => ?_) (h y fp1 fp2 _ a w this)
  have := hs.now.n0le
  simp only at this
  simp [envSet, Nat.ne_of_lt (Nat.lt_of_lt_of_le hk this)]
theorem scode_join {c : Code} {Q : Exit → St → Prop} (n m : Nat) {fp1 fp2 : List Nat} {R1 R2 : World → Prop} (R : World → Prop) (hne : n ≠ m) (hg1 : hget hp n = some (.pred fp1 R1)) (hg2 : hget hp m = some (.pred fp2 R2)) (hR : ∀ w, R1 w → R2 w → (fp1 ++ fp2).Nodup → R w) (hst : Stable (fp1 ++ fp2) R)
    (h : SCode P C c Q ⟨fr, hset (hrem hp m) n (.pred (fp1 ++ fp2) R), nx⟩) : SCode P C c Q ⟨fr, hp, nx⟩ := fun ρ a w hs => by
  have h0 := hs.now
  obtain ⟨r1, _, d1, _⟩ := h0.hp _ _ (mem_hget hg1)
  obtain ⟨r2, _, d2, _⟩ := h0.hp _ _ (mem_hget hg2)
  refine h ρ a w (hs.join hne hg1 hg2 (hR w r1 r2 (List.nodup_append.2 ⟨d1, d2, fun k h1 j h2 e => foot_disj h0.nodup (mem_hget hg1) (mem_hget hg2) hne h1 (e ▸ h2)⟩)) hst)
end
end Go.Sx
namespace Go.Sx
open Go.RowKit
structure KeyEnc (P : Program) (kt : TypeId) (κ : Type) [DecidableEq κ] (enc : κ → Value) : Prop where
  eq : ∀ (a b : κ) (w : World), (Op.equal kt (enc a) (enc b)).run P w = .ok (decide (a = b)) w
  chk : ∀ (e : Bool) (a : κ) (w : World), (Instr.checkKey e 10000 kt (enc a)).run P w = .ok () w
  bits : ∀ a : κ, Instr.sameBits 10000 (enc a) (enc a) = true
  und : ∃ d, P.underlying kt = some d ∧ ∀ a b : κ, Instr.sameNow d (enc a) (enc b) = none
section
variable {P : Program} {κ : Type} [DecidableEq κ] {enc : κ → Value}
def ents (enc : κ → Value) : List (κ × Value) → Nat → List MapEntry
  | [], _ => []
  | (k, v) :: r, i => ⟨enc k, v, i⟩ :: ents enc r (i + 1)
def MapAt (enc : κ → Value) (m : Nat) (l : List (κ × Value)) (w : World) : Prop := w.heap[m]? = some (.map (ents enc l 0).toArray l.length)
theorem MapAt.stable {m : Nat} {l : List (κ × Value)} : Stable [m] (MapAt enc m l) := fun w w' h hs => by
  unfold MapAt at h ⊢
  rw [hs m (by simp)]; exact h
def fnd (k : κ) : List (κ × Value) → Nat → Option (Nat × Value)
  | [], _ => none
  | (a, v) :: r, i => if k = a then some (i, v) else fnd k r (i + 1)
theorem ents_app : ∀ (l : List (κ × Value)) (k : κ) (v : Value) (i : Nat), ents enc (l ++ [(k, v)]) i = ents enc l i ++ [⟨enc k, v, i + l.length⟩]
  | [], k, v, i => rfl
  | (a, x) :: r, k, v, i => by
    simp only [List.cons_append, ents, ents_app r k v (i + 1), List.length_cons]
    rw [show i + 1 + r.length = i + (r.length + 1) by omega]
theorem run_findAsking {kt : TypeId} (hk : KeyEnc P kt κ enc) (k : κ) (w : World) : ∀ (l : List (κ × Value)) (i j : Nat), (Instr.findAsking kt (enc k) (ents enc l j) i).run P w = .ok (fnd k l i) w
  | [], i, j => by simp [ents, fnd, Instr.findAsking]
  | (a, v) :: r, i, j => by
    simp only [ents, fnd, Instr.findAsking]
    by_cases h : k = a
    · simp [hk.eq, h]
    · simp [hk.eq, h, run_findAsking hk k w r (i + 1) (j + 1)]
theorem run_findKey {kt : TypeId} (hk : KeyEnc P kt κ enc) (k : κ) (w : World) (l : List (κ × Value)) : (Instr.findKey kt (enc k) (ents enc l 0)).run P w = .ok (fnd k l 0) w := by
  obtain ⟨d, hd, hn⟩ := hk.und
  cases l with
  | nil => simp [Instr.findKey, run_underlying hd, ents, fnd, Instr.findNow]
  | cons x r =>
    have := run_findAsking hk k w (x :: r) 0 0
    simp only [ents] at this
    simp [Instr.findKey, run_underlying hd, ents, Instr.findNow, hn, this]
def lkp (z : Value) (k : κ) (l : List (κ × Value)) : Value := match fnd k l 0 with
  | some (_, v) => v
  | none => z
theorem run_lookupM {t kt E : TypeId} (ht : P.underlying t = some (.map kt E)) (hk : KeyEnc P kt κ enc) {z : Value} {w : World} (hz : (zeroValue E).run P w = .ok z w) {m : Nat} {l : List (κ × Value)} (hm : MapAt enc m l w) (k : κ) :
    (Instr.lookup t (.map (some m)) (enc k) false).run P w = .ok (lkp z k l) w := by
  have hf := run_findKey hk k w l
  unfold lkp
  cases h : fnd k l 0 with
  | none => rw [h] at hf; simp [Instr.lookup, run_underlying ht, MapKept.run_getObj_map hm, hk.chk, hf, hz]
  | some p => rw [h] at hf; simp [Instr.lookup, run_underlying ht, MapKept.run_getObj_map hm, hk.chk, hf]
theorem run_putM {t kt E : TypeId} (ht : P.underlying t = some (.map kt E)) (hk : KeyEnc P kt κ enc) {w : World} {m : Nat} {l : List (κ × Value)} (hm : MapAt enc m l w) (k : κ) (v : Value) (hn : fnd k l 0 = none) :
    (Instr.mapUpdate t (.map (some m)) (enc k) v).run P w = .ok () { w with heap := w.heap.setIfInBounds m (.map (ents enc (l ++ [(k, v)]) 0).toArray (l ++ [(k, v)]).length) } := by
  have hf := run_findKey hk k w l
  rw [hn] at hf
  simp [Instr.mapUpdate, run_underlying ht, MapKept.run_getObj_map hm, hk.chk, hf, MapKept.run_setObj_map _ hm, ents_app]
end
section
variable {P : Program} {C : Cx} {fr : List (Nat × SV)} {hp : List (Nat × Blk)} {nx : Nat} {κ : Type} [DecidableEq κ] {enc : κ → Value}
theorem smakeMap {K : St → Prop} {d : Tmp} {t ty : TypeId} {pos : String} {af : Array Edge} {g : Option (Nat × Bool)} (enc : κ → Value) (hK : d < C.N ∧ ∀ m, K ⟨(d, .c (.v (.map (some m)))) :: fr, (nx, .pred [m] (MapAt enc m [])) :: hp, nx + 1⟩) :
    SOp P C ⟨some d, .makeMap t none, ty, pos, af, g⟩ K ⟨fr, hp, nx⟩ := fun ρ a w hs => by
  have hrun : (Instr.makeMap t none).run P w = .ok (.map (some w.heap.size)) (w.alloc (.map #[] 0)) := rfl
  have hb : Below w.heap.size w (w.alloc (.map #[] 0)) := (Below.refl _ _).alloc (Nat.le_refl _) _
  have h1 := (hs.below hb).add (.pred [w.heap.size] (MapAt enc w.heap.size [])) ⟨0, 0, 0⟩ [w.heap.size] (fun ρ' hρ hn => ⟨by
      show (w.alloc (Obj.map #[] 0)).heap[w.heap.size]? = some (.map #[] 0)
      rw [heap_push_new], MapAt.stable, by simp, fun k hk => by
        simp only [List.mem_singleton] at hk
        subst hk
        exact ⟨by simp, .inl hs.now.keeps.size⟩⟩) (fun _ _ => rfl) (fun k hk hm => by
      have := (hs.now.foot_lt hm).1
      simp only [List.mem_singleton] at hk
      omega) (by simp)
  exact wp_value (v := .map (some w.heap.size)) (by simp [execOp, hrun]) ⟨_, _, hK.2 w.heap.size, h1.put (d := some d) (x := .c (.v (.map (some w.heap.size)))) hK.1 fun _ _ _ => rfl, Nat.le_succ _, fun k hk => by simp [envSet, Nat.ne_of_lt hk]⟩
theorem slookup {K : St → Prop} {d : Tmp} {x ix : Operand} {t kt E ty : TypeId} {pos : String} {af : Array Edge} {g : Option (Nat × Bool)} {m : Nat} {l : List (κ × Value)} {y : SV} {k : κ} {z : Value} (n : Nat) (hk : KeyEnc P kt κ enc) (ht : P.underlying t = some (.map kt E)) (hz : ∀ w, (zeroValue E).run P w = .ok z w)
    (hx : St.ev ⟨fr, hp, nx⟩ x = .c (.v (.map (some m)))) (hi : St.ev ⟨fr, hp, nx⟩ ix = y) (hy : y.ok = true ∧ ∀ ρ, y.den ρ = enc k) (hg : hget hp n = some (.pred [m] (MapAt enc m l)))
    (hK : d < C.N ∧ K ⟨(d, .c (.v (lkp z k l))) :: fr, hp, nx⟩) : SOp P C ⟨some d, .lookup t x ix false, ty, pos, af, g⟩ K ⟨fr, hp, nx⟩ := fun ρ a w hs => by
  obtain ⟨hm, _⟩ := hs.now.hp _ _ (mem_hget hg)
  refine wp_value (v := lkp z k l) ?_ ⟨_, ρ, hK.2, hs.put (d := some d) (x := .c (.v (lkp z k l))) hK.1 fun _ _ _ => rfl, Nat.le_refl _, fun _ _ => rfl⟩
  have hrun := run_lookupM ht hk (hz w) hm k
  have e1 : a.eval x = .map (some m) := by rw [ev_c hs.now.fr hx rfl]; rfl
  have e2 : a.eval ix = enc k := by rw [ev_c hs.now.fr hi hy.1, hy.2]
  simp [execOp, e1, e2, hrun]
theorem smapPut {K : St → Prop} {x ix iy : Operand} {t kt E ty : TypeId} {pos : String} {af : Array Edge} {g : Option (Nat × Bool)} {m : Nat} {l : List (κ × Value)} {y : SV} {k : κ} {v : Value} (n : Nat) (hk : KeyEnc P kt κ enc) (ht : P.underlying t = some (.map kt E))
    (hx : St.ev ⟨fr, hp, nx⟩ x = .c (.v (.map (some m)))) (hi : St.ev ⟨fr, hp, nx⟩ ix = y) (hy : y.ok = true ∧ ∀ ρ, y.den ρ = enc k) (hv : St.ev ⟨fr, hp, nx⟩ iy = .c (.v v)) (hg : hget hp n = some (.pred [m] (MapAt enc m l))) (hn : fnd k l 0 = none)
    (hK : K ⟨fr, hset hp n (.pred [m] (MapAt enc m (l ++ [(k, v)]))), nx⟩) : SOp P C ⟨none, .mapUpdate t x ix iy, ty, pos, af, g⟩ K ⟨fr, hp, nx⟩ := fun ρ a w hs => by
  obtain ⟨hm, _⟩ := hs.now.hp _ _ (mem_hget hg)
  have hlt : m < w.heap.size := (Array.getElem?_eq_some_iff.1 hm).1
  have hrun := run_putM ht hk hm k v hn
  have e1 : a.eval x = .map (some m) := by rw [ev_c hs.now.fr hx rfl]; rfl
  have e2 : a.eval ix = enc k := by rw [ev_c hs.now.fr hi hy.1, hy.2]
  have e3 : a.eval iy = v := by rw [ev_c hs.now.fr hv rfl]; rfl
  have hex : (execOp a.eval ⟨none, .mapUpdate t x ix iy, ty, pos, af, g⟩).run P w = .ok .skip { w with heap := w.heap.setIfInBounds m (.map (ents enc (l ++ [(k, v)]) 0).toArray (l ++ [(k, v)]).length) } := by
    simp [execOp, e1, e2, e3, hrun]
  unfold Oper.wp
  rw [hex]
  refine ⟨_, ρ, hK, hs.pred hg ⟨⟨rfl, rfl, rfl, by simp, fun q hq hne => ?_⟩, fun q hq => ?_, by simp⟩ ?_ MapAt.stable, Nat.le_refl _, fun _ _ => rfl⟩
  · have : m ≠ q := fun e => hne (by simp [e])
    simp [Array.getElem?_setIfInBounds_ne this]
  · exact ⟨.inl hq, by simp only [List.mem_singleton] at hq; subst hq; simpa using hlt⟩
  · unfold MapAt
    simp [hlt]
end
end Go.Sx
namespace Go.Sx
open Go.RowKit Go.Conc
section
variable {P : Program} {C : Cx} {fr : List (Nat × SV)} {hp : List (Nat × Blk)} {nx : Nat}
def ChAt (c cap : Nat) (buf : List Value) (s r : Nat) (w : World) : Prop := w.heap[c]? = some (.chan cap buf.toArray false s r false)
theorem ChAt.stable {c cap : Nat} {buf : List Value} {s r : Nat} : Stable [c] (ChAt c cap buf s r) := fun w w' h hs => by
  unfold ChAt at h ⊢
  rw [hs c (by simp)]; exact h
theorem smakeChan {K : St → Prop} {d : Tmp} {x : Operand} {t ty : TypeId} {pos : String} {af : Array Edge} {g : Option (Nat × Bool)} (n : Nat) (hrun : ∀ w, (Instr.makeChan t (.int .i64 n)).run P w = .ok (.chan (some w.heap.size)) (w.alloc (.chan n #[] false 0 0 false)))
    (hx : St.ev ⟨fr, hp, nx⟩ x = .c (.v (.int .i64 n))) (hK : d < C.N ∧ ∀ c, K ⟨(d, .c (.v (.chan (some c)))) :: fr, (nx, .pred [c] (ChAt c n [] 0 0)) :: hp, nx + 1⟩) :
    SOp P C ⟨some d, .makeChan t x, ty, pos, af, g⟩ K ⟨fr, hp, nx⟩ := fun ρ a w hs => by
  have hb : Below w.heap.size w (w.alloc (.chan n #[] false 0 0 false)) := (Below.refl _ _).alloc (Nat.le_refl _) _
  have h1 := (hs.below hb).add (.pred [w.heap.size] (ChAt w.heap.size n [] 0 0)) ⟨0, 0, 0⟩ [w.heap.size] (fun ρ' hρ hn => ⟨by
      show (w.alloc (Obj.chan n #[] false 0 0 false)).heap[w.heap.size]? = some (.chan n #[] false 0 0 false)
      rw [heap_push_new], ChAt.stable, by simp, fun k hk => by
        simp only [List.mem_singleton] at hk
        subst hk
        exact ⟨by simp, .inl hs.now.keeps.size⟩⟩) (fun _ _ => rfl) (fun k hk hm => by
      have := (hs.now.foot_lt hm).1
      simp only [List.mem_singleton] at hk
      omega) (by simp)
  have e1 : a.eval x = .int .i64 n := by rw [ev_c hs.now.fr hx rfl]; rfl
  exact wp_value (v := .chan (some w.heap.size)) (by simp [execOp, e1, hrun]) ⟨_, _, hK.2 w.heap.size, h1.put (d := some d) (x := .c (.v (.chan (some w.heap.size)))) hK.1 fun _ _ _ => rfl, Nat.le_succ _, fun k hk => by simp [envSet, Nat.ne_of_lt hk]⟩
end
end Go.Sx
namespace Go.Sx
open Go.RowKit
section
variable {α : Type} {R : α → List Nat → World → Prop}
def AllL (R : α → List Nat → World → Prop) : List α → List Nat → World → Prop
  | [], fp, _ => fp = []
  | x :: r, fp, w => ∃ f1 f2, fp = f1 ++ f2 ∧ R x f1 w ∧ AllL R r f2 w
def All (R : α → List Nat → World → Prop) (xs : List α) (fp : List Nat) (w : World) : Prop := (∃ fp', fp'.Perm fp ∧ AllL R xs fp' w) ∧ fp.Nodup ∧ ∀ k, k ∈ fp → k < w.heap.size
theorem AllL.same (hst : ∀ x fp, Stable fp (R x fp)) : ∀ {xs : List α} {fp : List Nat} {w w' : World}, AllL R xs fp w → (∀ k, k ∈ fp → w'.heap[k]? = w.heap[k]?) → AllL R xs fp w'
  | [], fp, w, w', h, _ => h
  | x :: r, fp, w, w', ⟨f1, f2, e, h1, h2⟩, hs => by
    subst e
    exact ⟨f1, f2, rfl, hst x f1 w w' h1 fun k hk => hs k (List.mem_append.2 (.inl hk)), AllL.same hst h2 fun k hk => hs k (List.mem_append.2 (.inr hk))⟩
theorem lt_same {w w' : World} {k : Nat} (h : k < w.heap.size) (hs : w'.heap[k]? = w.heap[k]?) : k < w'.heap.size := by
  rw [Array.getElem?_eq_getElem h] at hs
  exact (Array.getElem?_eq_some_iff.1 hs).1
theorem All.stable (hst : ∀ x fp, Stable fp (R x fp)) {xs : List α} {fp : List Nat} : Stable fp (All R xs fp) := fun w w' ⟨⟨fp', hp, h⟩, hn, hl⟩ hs =>
  ⟨⟨fp', hp, h.same hst fun k hk => hs k (hp.mem_iff.1 hk)⟩, hn, fun k hk => lt_same (hl k hk) (hs k hk)⟩
theorem All.nil {w : World} : All R [] [] w := ⟨⟨[], .refl _, rfl⟩, List.nodup_nil, fun k hk => by cases hk⟩
theorem AllL.app : ∀ {a b : List α} {fp : List Nat} {w : World}, AllL R (a ++ b) fp w ↔ ∃ f1 f2, fp = f1 ++ f2 ∧ AllL R a f1 w ∧ AllL R b f2 w
  | [], b, fp, w => ⟨fun h => ⟨[], fp, rfl, rfl, h⟩, fun ⟨f1, f2, e, h1, h2⟩ => by
    have : f1 = [] := h1
    subst this
    rw [e]; exact h2⟩
  | x :: a, b, fp, w => by
    constructor
    · rintro ⟨f1, f2, e, h1, h2⟩
      obtain ⟨f3, f4, e2, h3, h4⟩ := AllL.app.1 h2
      exact ⟨f1 ++ f3, f4, by rw [e, e2, List.append_assoc], ⟨f1, f3, rfl, h1, h3⟩, h4⟩
    · rintro ⟨f1, f2, e, ⟨f3, f4, e2, h3, h4⟩, h2⟩
      exact ⟨f3, f4 ++ f2, by rw [e, e2, List.append_assoc], h3, AllL.app.2 ⟨f4, f2, rfl, h4, h2⟩⟩
theorem All.split {a b : List α} {x : α} {fp : List Nat} {w : World} (h : All R (a ++ x :: b) fp w) : ∃ f1 f2, (f1 ++ f2).Perm fp ∧ R x f1 w ∧ All R (a ++ b) f2 w := by
  obtain ⟨⟨fp', hp, h⟩, hn, hl⟩ := h
  obtain ⟨fa, f2, e, h1, f3, f4, e2, h3, h4⟩ := AllL.app.1 h
  subst e e2
  have hperm : (f3 ++ (fa ++ f4)).Perm fp := by
    refine .trans ?_ hp
    rw [← List.append_assoc, ← List.append_assoc]
    exact List.Perm.append_right _ List.perm_append_comm
  refine ⟨f3, fa ++ f4, hperm, h3, ⟨_, .refl _, AllL.app.2 ⟨fa, f4, rfl, h1, h4⟩⟩, ?_, fun k hk => hl k (hperm.mem_iff.1 (List.mem_append.2 (.inr hk)))⟩
  exact (List.nodup_append.1 (hperm.nodup_iff.2 hn)).2.1
theorem All.join {a b : List α} {x : α} {f1 f2 : List Nat} {w : World} (h1 : R x f1 w) (h2 : All R (a ++ b) f2 w) (hn : (f1 ++ f2).Nodup) (hl : ∀ k, k ∈ f1 → k < w.heap.size) : All R (a ++ x :: b) (f1 ++ f2) w := by
  obtain ⟨⟨fp', hp, h⟩, hn2, hl2⟩ := h2
  obtain ⟨fa, fb, e, h3, h4⟩ := AllL.app.1 h
  subst e
  refine ⟨⟨fa ++ (f1 ++ fb), ?_, AllL.app.2 ⟨fa, f1 ++ fb, rfl, h3, f1, fb, rfl, h1, h4⟩⟩, hn, fun k hk => (List.mem_append.1 hk).elim (hl k) (hl2 k)⟩
  refine .trans ?_ (List.Perm.append_left f1 hp)
  rw [← List.append_assoc, ← List.append_assoc]
  exact List.Perm.append_right _ List.perm_append_comm
theorem All.mono {R' : α → List Nat → World → Prop} (hR : ∀ x fp w, R x fp w → R' x fp w) {xs : List α} {fp : List Nat} {w : World} (h : All R xs fp w) : All R' xs fp w := by
  obtain ⟨⟨fp', hp, h⟩, hn⟩ := h
  refine ⟨⟨fp', hp, ?_⟩, hn⟩
  clear hp hn
  induction xs generalizing fp' with
  | nil => exact h
  | cons x r ih =>
    obtain ⟨f1, f2, e, h1, h2⟩ := h
    exact ⟨f1, f2, e, hR _ _ _ h1, ih f2 h2⟩
theorem All.get {a b : List α} {x : α} {fp : List Nat} {w : World} (h : All R (a ++ x :: b) fp w) : ∃ f1, R x f1 w := by
  obtain ⟨f1, f2, _, h1, _⟩ := h.split
  exact ⟨f1, h1⟩
theorem Chg.part {f1 f1' f2 fp : List Nat} {w w' : World} (hc : Chg f1 f1' w w') (hp : (f1 ++ f2).Perm fp) (hn : fp.Nodup) (hl : ∀ k, k ∈ fp → k < w.heap.size) : Chg fp (f1' ++ f2) w w' := by
  have hn' := hp.nodup_iff.2 hn
  obtain ⟨n1, n2, n3⟩ := List.nodup_append.1 hn'
  have l2 : ∀ k, k ∈ f2 → k ∈ fp := fun k hk => hp.mem_iff.1 (List.mem_append.2 (.inr hk))
  have l1 : ∀ k, k ∈ f1 → k ∈ fp := fun k hk => hp.mem_iff.1 (List.mem_append.2 (.inl hk))
  refine ⟨⟨hc.keeps.os, hc.keeps.tape, hc.keeps.output, hc.keeps.size, fun k hk hm => hc.keeps.block k hk fun h => hm (l1 k h)⟩, fun k hk => ?_, ?_⟩
  · rcases List.mem_append.1 hk with hk | hk
    · exact ⟨((hc.sub k hk).1).imp (l1 k) id, (hc.sub k hk).2⟩
    · exact ⟨.inl (l2 k hk), Nat.lt_of_lt_of_le (hl k (l2 k hk)) hc.keeps.size⟩
  · refine List.nodup_append.2 ⟨hc.nodup, n2, fun k hk j hj e => ?_⟩
    subst e
    rcases (hc.sub k hk).1 with h | h
    · exact n3 k h k hj rfl
    · have := hl k (l2 k hj); omega
theorem Chg.rest {f1 f1' f2 fp : List Nat} {w w' : World} (hc : Chg f1 f1' w w') (hp : (f1 ++ f2).Perm fp) (hn : fp.Nodup) (hl : ∀ k, k ∈ fp → k < w.heap.size) : ∀ k, k ∈ f2 → w'.heap[k]? = w.heap[k]? := fun k hk => by
  obtain ⟨n1, n2, n3⟩ := List.nodup_append.1 (hp.nodup_iff.2 hn)
  exact hc.keeps.block k (hl k (hp.mem_iff.1 (List.mem_append.2 (.inr hk)))) fun h => n3 k h k hk rfl
variable {P : Program}
theorem all_call {f : FuncId} {vs : Array Value} {w : World} {a b : List α} {x : α} {fp : List Nat} {Q : Ending → Prop} {β : Type} (y : β → α) (φ : β → Ending → Prop) (hst : ∀ x fp, Stable fp (R x fp)) (h : All R (a ++ x :: b) fp w)
    (hc : ∀ f1, R x f1 w → Calls P f vs w fun e w' => ∃ z f1', φ z e ∧ R (y z) f1' w' ∧ Chg f1 f1' w w') :
    Calls P f vs w fun e w' => ∃ z fp', φ z e ∧ All R (a ++ y z :: b) fp' w' ∧ Chg fp fp' w w' := by
  obtain ⟨f1, f2, hp, h1, h2⟩ := h.split
  refine (hc f1 h1).mono fun e w' ⟨z, f1', hz, hR, hch⟩ => ?_
  have hcp := hch.part hp h.2.1 h.2.2
  refine ⟨z, f1' ++ f2, hz, All.join hR (All.stable hst w w' h2 (hch.rest hp h.2.1 h.2.2)) hcp.nodup fun k hk => (hch.sub k hk).2, hcp⟩
theorem all_new {f : FuncId} {vs : Array Value} {w : World} {xs : List α} {fp : List Nat} {β : Type} (y : β → α) (φ : β → Ending → Prop) (hst : ∀ x fp, Stable fp (R x fp)) (h : All R xs fp w)
    (hc : Calls P f vs w fun e w' => ∃ z f1', φ z e ∧ R (y z) f1' w' ∧ Chg [] f1' w w') :
    Calls P f vs w fun e w' => ∃ z fp', φ z e ∧ All R (xs ++ [y z]) fp' w' ∧ Chg fp fp' w w' := by
  refine hc.mono fun e w' ⟨z, f1', hz, hR, hch⟩ => ?_
  have hcp := hch.part (f2 := fp) (.refl _) h.2.1 h.2.2
  have h2 := All.stable hst w w' h (hch.rest (f2 := fp) (.refl _) h.2.1 h.2.2)
  refine ⟨z, f1' ++ fp, hz, All.join hR (by rw [List.append_nil]; exact h2) hcp.nodup fun k hk => (hch.sub k hk).2, hcp⟩
end
section
variable {P : Program} {C : Cx} {fr : List (Nat × SV)} {hp : List (Nat × Blk)} {nx : Nat} {α : Type} {R : α → List Nat → World → Prop}
theorem all_call_s {f : FuncId} {args : List SV} {d : Option Tmp} {K : St → Prop} {β : Type} (n : Nat) (a b : List α) (x : α) {fp : List Nat} (y : β → α) (hst : ∀ x fp, Stable fp (R x fp)) (vs : List Value) (v : β → Value) (xv : β → SV) (φ : β → Prop)
    (hc : ∀ (v : Array Value) w, (callFunc f v).run P w = .ok (.enter f v) w)
    (hcall : ∀ f1 w, R x f1 w → Calls P f vs.toArray w fun e w' => ∃ z f1', (φ z ∧ e = .returned (v z)) ∧ R (y z) f1' w' ∧ Chg f1 f1' w w')
    (hg : hget hp n = some (.pred fp (All R (a ++ x :: b) fp))) (hok : SV.okL args = true) (hv : ∀ ρ, SV.denL ρ args = vs) (hx : ∀ z ρ, v z = (xv z).den ρ) (hd : dkB C.N d = true)
    (hK : ∀ z fp', φ z → kput K ⟨fr, hset hp n (.pred fp' (All R (a ++ y z :: b) fp')), nx⟩ d (xv z)) : SCall P C f args d K ⟨fr, hp, nx⟩ :=
  scall_pred n fp _ (fun z fp' => All R (a ++ y z :: b) fp') vs xv v φ hc
    (fun w h => (all_call (Q := fun _ => True) y (fun z e => φ z ∧ e = .returned (v z)) hst h fun f1 h1 => hcall f1 w h1).mono fun e w' ⟨z, fp', h1, h2, h3⟩ => ⟨z, fp', h1.1, h1.2, h2, h3⟩)
    (fun _ _ => All.stable hst) hg hok hv hx ⟨dk_of hd, hK⟩
theorem all_same_s {f : FuncId} {args : List SV} {d : Option Tmp} {K : St → Prop} (n : Nat) (a b : List α) (x : α) {fp : List Nat} (hst : ∀ x fp, Stable fp (R x fp)) (vs : List Value) (v : Value) (xv : SV)
    (hc : ∀ (v : Array Value) w, (callFunc f v).run P w = .ok (.enter f v) w)
    (hcall : ∀ f1 w, R x f1 w → Calls P f vs.toArray w fun e w' => e = .returned v ∧ R x f1 w' ∧ Chg f1 f1 w w')
    (hg : hget hp n = some (.pred fp (All R (a ++ x :: b) fp))) (hok : SV.okL args = true) (hv : ∀ ρ, SV.denL ρ args = vs) (hx : ∀ ρ, v = xv.den ρ) (hd : dkB C.N d = true)
    (hK : kput K ⟨fr, hp, nx⟩ d xv) : SCall P C f args d K ⟨fr, hp, nx⟩ := by
  refine ⟨hok, fun ρ w a' hs _ => .inl ⟨fun v w => hc _ w, ?_⟩⟩
  rw [hv ρ]
  obtain ⟨hA, _, _, hown⟩ := hs.now.hp _ _ (mem_hget hg)
  obtain ⟨f1, f2, hperm, h1, h2⟩ := hA.split
  refine (hcall f1 w h1).mono fun e w' ⟨he, hR, hch⟩ => ?_
  have hcp := hch.part hperm hA.2.1 hA.2.2
  have hA' : All R (a ++ x :: b) fp w' := by
    have := All.join hR (All.stable hst w w' h2 (hch.rest hperm hA.2.1 hA.2.2)) hcp.nodup fun k hk => (hch.sub k hk).2
    obtain ⟨⟨fp', hp', h⟩, _, hl⟩ := this
    exact ⟨⟨fp', hp'.trans hperm, h⟩, hA.2.1, fun k hk => Nat.lt_of_lt_of_le (hA.2.2 k hk) hch.keeps.size⟩
  have hch' : Chg fp fp w w' := ⟨hcp.keeps, fun k hk => ⟨.inl hk, Nat.lt_of_lt_of_le (hA.2.2 k hk) hch.keeps.size⟩, hA.2.1⟩
  have hs' := hs.pred hg hch' hA' (All.stable hst)
  rw [hset_eq hg] at hs'
  exact ⟨_, he, _, ρ, hK, hs'.put (dk_of hd) fun _ ρ' _ => hx ρ', (by cases d <;> simp [St.put]), fun _ _ => rfl⟩
theorem all_new_s {f : FuncId} {args : List SV} {d : Option Tmp} {K : St → Prop} {β : Type} (n : Nat) (xs : List α) {fp : List Nat} (y : β → α) (hst : ∀ x fp, Stable fp (R x fp)) (vs : List Value) (v : β → Value) (xv : β → SV) (φ : β → Prop)
    (hc : ∀ (v : Array Value) w, (callFunc f v).run P w = .ok (.enter f v) w)
    (hcall : ∀ w, Calls P f vs.toArray w fun e w' => ∃ z f1', (φ z ∧ e = .returned (v z)) ∧ R (y z) f1' w' ∧ Chg [] f1' w w')
    (hg : hget hp n = some (.pred fp (All R xs fp))) (hok : SV.okL args = true) (hv : ∀ ρ, SV.denL ρ args = vs) (hx : ∀ z ρ, v z = (xv z).den ρ) (hd : dkB C.N d = true)
    (hK : ∀ z fp', φ z → kput K ⟨fr, hset hp n (.pred fp' (All R (xs ++ [y z]) fp')), nx⟩ d (xv z)) : SCall P C f args d K ⟨fr, hp, nx⟩ :=
  scall_pred n fp _ (fun z fp' => All R (xs ++ [y z]) fp') vs xv v φ hc
    (fun w h => (all_new y (fun z e => φ z ∧ e = .returned (v z)) hst h (hcall w)).mono fun e w' ⟨z, fp', h1, h2, h3⟩ => ⟨z, fp', h1.1, h1.2, h2, h3⟩)
    (fun _ _ => All.stable hst) hg hok hv hx ⟨dk_of hd, hK⟩
theorem Sat.addNone {ρ : Env} {a : Act} {w : World} (hs : Sat C ⟨fr, hp, nx⟩ ρ a w) : Sat C ⟨fr, (nx, .pred [] (All R [] [])) :: hp, nx + 1⟩ (envSet ρ nx ⟨0, 0, 0⟩) a w :=
  hs.add (.pred [] (All R [] [])) ⟨0, 0, 0⟩ [] (fun ρ' _ _ => ⟨All.nil, fun w w' _ _ => All.nil, List.nodup_nil, fun k hk => by cases hk⟩) (fun _ _ => rfl) (fun k hk => by cases hk) List.nodup_nil
end
end Go.Sx
namespace Go.Sx
open Go.RowKit
def ItAt (r m n : Nat) (seen : List Nat) (w : World) : Prop := w.heap[r]? = some (.mapIter (some m) n seen.toArray n)
theorem ItAt.stable {r m n : Nat} {seen : List Nat} : Stable [r] (ItAt r m n seen) := fun w w' h hs => by
  unfold ItAt at h ⊢
  rw [hs r (by simp)]; exact h
section
variable {κ : Type} {enc : κ → Value}
theorem ents_mem : ∀ {l : List (κ × Value)} {i : Nat} {x : MapEntry}, x ∈ ents enc l i → ∃ j k v, l[j]? = some (k, v) ∧ x = ⟨enc k, v, i + j⟩
  | [], i, x, h => by cases h
  | (k, v) :: r, i, x, h => by
    rcases List.mem_cons.1 h with rfl | h
    · exact ⟨0, k, v, rfl, rfl⟩
    · obtain ⟨j, k', v', h1, h2⟩ := ents_mem h
      exact ⟨j + 1, k', v', h1, by rw [h2, Nat.add_right_comm]; rfl⟩
theorem mem_ents : ∀ {l : List (κ × Value)} {i j : Nat} {k : κ} {v : Value}, l[j]? = some (k, v) → (⟨enc k, v, i + j⟩ : MapEntry) ∈ ents enc l i
  | [], i, j, k, v, h => by simp at h
  | (a, b) :: r, i, 0, k, v, h => by
    simp at h
    obtain ⟨rfl, rfl⟩ := h
    exact List.mem_cons_self ..
  | (a, b) :: r, i, j + 1, k, v, h => by
    have := mem_ents (i := i + 1) (j := j) (l := r) (by simpa using h : r[j]? = some (k, v))
    rw [Nat.add_right_comm] at this
    exact List.mem_cons_of_mem _ this
theorem ents_born : ∀ (l : List (κ × Value)) (i : Nat), (ents enc l i).map (·.born) = List.range' i l.length
  | [], i => rfl
  | (a, b) :: r, i => by simp [ents, ents_born r (i + 1), List.range'_succ]
end
section
variable {P : Program} {C : Cx} {fr : List (Nat × SV)} {hp : List (Nat × Blk)} {nx : Nat} {κ : Type} {enc : κ → Value}
theorem srange {K : St → Prop} {d : Tmp} {x : Operand} {t kt E ty : TypeId} {pos : String} {af : Array Edge} {g : Option (Nat × Bool)} {m : Nat} {l : List (κ × Value)} (n : Nat) (ht : P.underlying t = some (.map kt E))
    (hx : St.ev ⟨fr, hp, nx⟩ x = .c (.v (.map (some m)))) (hg : hget hp n = some (.pred [m] (MapAt enc m l)))
    (hK : d < C.N ∧ ∀ r, K ⟨(d, .c (.v (gptr r))) :: fr, (nx, .pred [r] (ItAt r m l.length [])) :: hp, nx + 1⟩) : SOp P C ⟨some d, .range t x, ty, pos, af, g⟩ K ⟨fr, hp, nx⟩ := fun ρ a w hs => by
  obtain ⟨hm, _⟩ := hs.now.hp _ _ (mem_hget hg)
  have hrun := run_range_map (P := P) w t kt E m _ _ ht hm
  have hb : Below w.heap.size w (w.alloc (.mapIter (some m) l.length #[] l.length)) := (Below.refl _ _).alloc (Nat.le_refl _) _
  have h1 := (hs.below hb).add (.pred [w.heap.size] (ItAt w.heap.size m l.length [])) ⟨0, 0, 0⟩ [w.heap.size] (fun ρ' hρ hn => ⟨by
      show (w.alloc _).heap[w.heap.size]? = some _
      rw [heap_push_new], ItAt.stable, by simp, fun k hk => by
        simp only [List.mem_singleton] at hk
        subst hk
        exact ⟨by simp, .inl hs.now.keeps.size⟩⟩) (fun _ _ => rfl) (fun k hk hm => by
      have := (hs.now.foot_lt hm).1
      simp only [List.mem_singleton] at hk
      omega) (by simp)
  have e1 : a.eval x = .map (some m) := by rw [ev_c hs.now.fr hx rfl]; rfl
  exact wp_value (v := gptr w.heap.size) (by simp [execOp, e1, hrun]) ⟨_, _, hK.2 w.heap.size, h1.put (d := some d) (x := .c (.v (gptr w.heap.size))) hK.1 fun _ _ _ => rfl, Nat.le_succ _, fun k hk => by simp [envSet, Nat.ne_of_lt hk]⟩
theorem snext {K : St → Prop} {d : Tmp} {x : Operand} {ty : TypeId} {pos : String} {af : Array Edge} {g : Option (Nat × Bool)} {m r : Nat} {l : List (κ × Value)} {seen : List Nat} (n q : Nat)
    (hx : St.ev ⟨fr, hp, nx⟩ x = .c (.v (gptr r))) (hg : hget hp n = some (.pred [m] (MapAt enc m l))) (hq : hget hp q = some (.pred [r] (ItAt r m l.length seen)))
    (hK0 : (∀ i, i < l.length → i ∈ seen) → K ⟨(d, .tup [.c (.v (.bool false))]) :: fr, hp, nx⟩)
    (hK1 : ∀ i k v, i ∉ seen → l[i]? = some (k, v) → K ⟨(d, .tup [.c (.v (.bool true)), .c (.v (enc k)), .c (.v v)]) :: fr, hset hp q (.pred [r] (ItAt r m l.length (seen ++ [i]))), nx⟩) (hd : d < C.N) :
    SOp P C ⟨some d, .next x false, ty, pos, af, g⟩ K ⟨fr, hp, nx⟩ := fun ρ a w hs => by
  obtain ⟨hm, _⟩ := hs.now.hp _ _ (mem_hget hg)
  obtain ⟨hi, _⟩ := hs.now.hp _ _ (mem_hget hq)
  have e1 : a.eval x = gptr r := by rw [ev_c hs.now.fr hx rfl]; rfl
  rcases run_next_at (P := P) w ty r m l.length l.length seen.toArray _ _ hi hm (fun x hx => by
      obtain ⟨j, k, v, h1, h2⟩ := ents_mem (by simpa using hx)
      rw [h2]
      have := (List.getElem?_eq_some_iff.1 h1).1
      simp; omega) (Nat.le_refl _) with ⟨h0, hrun⟩ | ⟨e, he, w1, hw1, hrun⟩
  · refine wp_value (v := .tuple #[.bool false]) (by simp [execOp, e1, hrun]) ⟨_, ρ, hK0 fun i hi => ?_, hs.put (d := some d) (x := .tup [.c (.v (.bool false))]) hd fun _ _ _ => rfl, Nat.le_refl _, fun _ _ => rfl⟩
    obtain ⟨⟨k, v⟩, hkv⟩ : ∃ y, l[i]? = some y := ⟨_, List.getElem?_eq_getElem hi⟩
    have := all_seen _ _ h0 _ (by simpa using mem_ents (enc := enc) (i := 0) hkv)
    simpa using this
  · obtain ⟨h1, h2⟩ := mem_left he
    obtain ⟨i, k, v, hkv, rfl⟩ := ents_mem (by simpa using h1)
    simp only [Nat.zero_add] at h2 hrun
    have hk := hK1 i k v (by simpa using h2) hkv
    have hrl : r < w.heap.size := (Array.getElem?_eq_some_iff.1 hi).1
    have hh : w1.heap = w.heap ∧ w1.os = w.os ∧ w1.tape = w.tape ∧ w1.output = w.output := by rcases hw1 with rfl | rfl <;> exact ⟨rfl, rfl, rfl, rfl⟩
    have hhp : (ChangeMaps.setBlock w1 r (.mapIter (some m) l.length (seen.toArray.push i) l.length)).heap = w.heap.setIfInBounds r (.mapIter (some m) l.length (seen.toArray.push i) l.length) := by
      show w1.heap.setIfInBounds r _ = _
      rw [hh.1]
    have hch : Chg [r] [r] w (ChangeMaps.setBlock w1 r (.mapIter (some m) l.length (seen.toArray.push i) l.length)) := by
      refine ⟨⟨hh.2.1, hh.2.2.1, hh.2.2.2, ?_, fun k hk hne => ?_⟩, fun k hk => ⟨.inl hk, ?_⟩, by simp⟩
      · rw [hhp]; simp
      · have : r ≠ k := fun e => hne (by simp [e])
        rw [hhp, Array.getElem?_setIfInBounds_ne this]
      · simp only [List.mem_singleton] at hk
        subst hk
        rw [hhp]; simpa using hrl
    have hit : ItAt r m l.length (seen ++ [i]) (ChangeMaps.setBlock w1 r (.mapIter (some m) l.length (seen.toArray.push i) l.length)) := by
      unfold ItAt
      rw [hhp]; simp [hrl]
    refine wp_value (v := .tuple #[.bool true, enc k, v]) (by simp [execOp, e1, hrun]) ⟨_, ρ, hk, (hs.pred hq hch hit ItAt.stable).put (d := some d) (x := .tup [.c (.v (.bool true)), .c (.v (enc k)), .c (.v v)]) hd fun _ _ _ => rfl, Nat.le_refl _, fun _ _ => rfl⟩
theorem sentry {K : St → Prop} {d : Tmp} {x : Operand} {ty : TypeId} {pos : String} {af : Array Edge} {g : Option (Nat × Bool)} {m r : Nat} {l : List (κ × Value)} {seen : List Nat} {i : Nat} {k : κ} {v : Value} (n q : Nat)
    (hx : St.ev ⟨fr, hp, nx⟩ x = .c (.v (gptr r))) (hg : hget hp n = some (.pred [m] (MapAt enc m l))) (hq : hget hp q = some (.pred [r] (ItAt r m l.length (seen ++ [i])))) (hi : l[i]? = some (k, v))
    (hK : d < C.N ∧ K ⟨(d, .tup [.c (.v (enc k)), .c (.v v)]) :: fr, hp, nx⟩) :
    SOp P C ⟨some d, .entry x, ty, pos, af, g⟩ K ⟨fr, hp, nx⟩ := fun ρ a w hs => by
  obtain ⟨hm, _⟩ := hs.now.hp _ _ (mem_hget hg)
  obtain ⟨hit, _⟩ := hs.now.hp _ _ (mem_hget hq)
  have e1 : a.eval x = gptr r := by rw [ev_c hs.now.fr hx rfl]; rfl
  have hrun := run_entry_at (P := P) w r m l.length seen.toArray _ _ ⟨enc k, v, i⟩ (by rw [show w.heap[r]? = _ from hit]; simp) hm (by simpa using mem_ents (enc := enc) (i := 0) hi) (by
    simp only [ents_born]
    exact List.nodup_range' ..)
  exact wp_value (v := .tuple #[enc k, v]) (by simp [execOp, e1, hrun]) ⟨_, ρ, hK.2, hs.put (d := some d) (x := .tup [.c (.v (enc k)), .c (.v v)]) hK.1 fun _ _ _ => rfl, Nat.le_refl _, fun _ _ => rfl⟩
end
def undone (f : Nat → Int) (n : Nat) (seen : List Nat) : Int := match n with
  | 0 => 0
  | n + 1 => undone f n seen + if n ∈ seen then 0 else f n
theorem undone_add {f : Nat → Int} {i : Nat} {seen : List Nat} (hi : i ∉ seen) : ∀ {n : Nat}, undone f n (seen ++ [i]) = undone f n seen - (if i < n then f i else 0)
  | 0 => by simp [undone]
  | n + 1 => by
    simp only [undone, undone_add hi (n := n), List.mem_append, List.mem_singleton]
    by_cases h : n = i
    · subst h; simp [hi]
    · by_cases h2 : i < n
      · simp [h, h2, show i < n + 1 by omega]; omega
      · simp [h, h2, show ¬ i < n + 1 by omega]
theorem undone_all {f : Nat → Int} {seen : List Nat} : ∀ {n : Nat}, (∀ i, i < n → i ∈ seen) → undone f n seen = 0
  | 0, _ => rfl
  | n + 1, h => by simp [undone, undone_all (n := n) fun i hi => h i (by omega), h n (by omega)]
theorem undone_none {f : Nat → Int} : ∀ {n : Nat}, undone f n [] = ((List.range n).map f).sum
  | 0 => rfl
  | n + 1 => by simp [undone, undone_none (n := n), List.range_succ]
theorem left_less {seen : List Nat} {i n : Nat} (hi : i ∉ seen) (hn : i < n) : undone (fun _ => 1) n (seen ++ [i]) < undone (fun _ => 1) n seen := by
  rw [undone_add hi, if_pos hn]; omega
theorem undone_nn {seen : List Nat} : ∀ {n : Nat}, 0 ≤ undone (fun _ => 1) n seen
  | 0 => Int.le_refl _
  | n + 1 => by
    have := undone_nn (seen := seen) (n := n)
    simp only [undone]
    split <;> omega
end Go.Sx
namespace Go.Sx
open Go.RowKit
theorem RowsAt.stable {g ty e m c : Nat} {r : Nat → List Value} : Stable [g] (fun w => RowsAt w g ty e m c r) := fun w w' h hs => h.same (hs g (by simp))
theorem Below.chg {w w' : World} (h : Below w.heap.size w w') {fp : List Nat} (hn : fp.Nodup) (hl : ∀ k, k ∈ fp → k < w.heap.size) : Chg fp fp w w' :=
  ⟨⟨h.os, h.tape, h.output, h.size, fun k hk _ => h.block k hk⟩, fun k hk => ⟨.inl hk, Nat.lt_of_lt_of_le (hl k hk) h.size⟩, hn⟩
theorem On.nodup {g : Nat} {Sh : Nat → List (Nat × Blk) → Prop} {fp : List Nat} {w : World} (h : On g Sh fp w) : fp.Nodup := by
  obtain ⟨ρ, nx, hp, h1, h2, h3, h4, h5, h6⟩ := h
  exact h5
theorem On.below {g : Nat} {Sh : Nat → List (Nat × Blk) → Prop} {fp : List Nat} {w w' : World} (h : On g Sh fp w) (hb : Below w.heap.size w w') : On g Sh fp w' ∧ Chg fp fp w w' :=
  ⟨On.stable w w' h fun k hk => hb.block k (h.lt k hk), Below.chg hb h.nodup h.lt⟩
theorem Stable.and {f1 f2 : List Nat} {R1 R2 : World → Prop} (h1 : Stable f1 R1) (h2 : Stable f2 R2) : Stable (f1 ++ f2) (fun w => R1 w ∧ R2 w) := fun w w' h hs =>
  ⟨h1 w w' h.1 fun k hk => hs k (List.mem_append.2 (.inl hk)), h2 w w' h.2 fun k hk => hs k (List.mem_append.2 (.inr hk))⟩
section
variable {P : Program} {C : Cx} {fr : List (Nat × SV)} {hp : List (Nat × Blk)} {nx : Nat}
theorem Sat.rows_pred {ρ : Env} {a : Act} {w : World} (hs : Sat C ⟨fr, hp, nx⟩ ρ a w) (m : Nat) {ty e k c : Nat} {r : Nat → List CV} (rv : Nat → List Value) (hm : hget hp m = some (.rows ty e k c r)) (hr : ∀ i, i < k → r i = (rv i).map .v) :
    Sat C ⟨fr, hset hp m (.pred [(ρ m).blk] fun w => RowsAt w (ρ m).blk ty e k c rv), nx⟩ ρ a w := by
  have hn : m < nx := hs.now.names _ _ (mem_hget hm)
  have hh := hs.now.hp _ _ (mem_hget hm)
  refine hs.set hm hs.now.keeps (Nat.le_refl _) (fun _ _ _ _ => rfl) fun ρ' hρ => ⟨by simp [Blk.foot, hρ m hn], ?_, RowsAt.stable, by simp, fun q hq => ?_⟩
  · obtain ⟨h1, h2, ⟨arr, h3, h4, h5⟩, h6⟩ := hh
    refine ⟨arr, h3, h4, fun i hi => ?_⟩
    obtain ⟨h7, h8⟩ := h5 i hi
    rw [hr i hi] at h7 h8
    exact ⟨by simpa using h7, fun q hq => by rw [h8 q hq]; simp [List.getElem?_map]; cases (rv i)[q]? <;> simp [CV.den]⟩
  · have := Blk.foot_lt hh q (by simpa [Blk.foot] using hq)
    exact this
theorem hget_other {n m : Nat} (hne : n ≠ m) (b : Blk) : ∀ (hp : List (Nat × Blk)), hget (hset hp m b) n = hget hp n
  | [] => rfl
  | (q, v) :: y => by
    rw [hset_cons]
    by_cases hq : q = m
    · rw [if_pos hq, hget_cons, hget_cons, if_neg (by omega), if_neg (by omega)]
    · rw [if_neg hq, hget_cons, hget_cons, hget_other hne b y]
theorem hget_same {m : Nat} (b : Blk) : ∀ {hp : List (Nat × Blk)} {b' : Blk}, hget hp m = some b' → hget (hset hp m b) m = some b
  | [], _, h => by simp [hget] at h
  | (q, v) :: y, b', h => by
    rw [hget_cons] at h
    rw [hset_cons]
    by_cases hq : q = m
    · rw [if_pos hq, hget_cons, if_pos hq]
    · rw [if_neg hq, hget_cons, if_neg hq]; rw [if_neg hq] at h; exact hget_same b h
theorem hrem_hset (m : Nat) (b : Blk) : ∀ (hp : List (Nat × Blk)), hrem (hset hp m b) m = hrem hp m
  | [] => rfl
  | (q, v) :: y => by
    rw [hset_cons]
    by_cases hq : q = m
    · rw [if_pos hq]; simp [hrem, hq]
    · rw [if_neg hq]; simp [hrem, hq, hrem_hset m b y]
theorem scall_absorb {f : FuncId} {args : List SV} {d : Option Tmp} {K : St → Prop} (n m : Nat) (hne : n ≠ m) {fp : List Nat} {R : World → Prop} {ty e k c : Nat} {r : Nat → List CV} (rv : Nat → List Value) (args' : Nat → List SV)
    (hg : hget hp n = some (.pred fp R)) (hm : hget hp m = some (.rows ty e k c r)) (hr : ∀ i, i < k → r i = (rv i).map .v) (hok : SV.okL args = true) (ha : ∀ (ρ : Env), (ρ m).base = 0 → SV.denL ρ args = SV.denL ρ (args' (ρ m).blk))
    (h : ∀ g, SCall P C f (args' g) d K ⟨fr, hset (hrem hp m) n (.pred (fp ++ [g]) fun w => R w ∧ RowsAt w g ty e k c rv), nx⟩) : SCall P C f args d K ⟨fr, hp, nx⟩ := by
  refine ⟨hok, fun ρ w a hs hv => ?_⟩
  have hn : m < nx := hs.now.names _ _ (mem_hget hm)
  have hh := hs.now.hp _ _ (mem_hget hm)
  have h1 := hs.rows_pred m rv hm hr
  have hgn : hget (hset hp m (.pred [(ρ m).blk] fun w => RowsAt w (ρ m).blk ty e k c rv)) n = some (.pred fp R) := by rw [hget_other hne]; exact hg
  have hgm := hget_same (.pred [(ρ m).blk] fun w => RowsAt w (ρ m).blk ty e k c rv) hm
  obtain ⟨r1, s1, _⟩ := h1.now.hp _ _ (mem_hget hgn)
  obtain ⟨r2, s2, _⟩ := h1.now.hp _ _ (mem_hget hgm)
  have h2 := h1.join hne hgn hgm (R := fun w => R w ∧ RowsAt w (ρ m).blk ty e k c rv) ⟨r1, r2⟩ (s1.and s2)
  rw [hrem_hset] at h2
  have e1 : ∀ ρ' : Env, (∀ k, k < nx → ρ' k = ρ k) → SV.denL ρ' args = SV.denL ρ' (args' (ρ m).blk) := fun ρ' hρ => by
    have := ha ρ' (by rw [hρ m hn]; exact hh.1)
    rw [hρ m hn] at this
    exact this
  have := (h (ρ m).blk).2 ρ w a h2 (fun ρ' hρ => by
    rw [← e1 ρ' hρ, ← e1 ρ fun _ _ => rfl]
    exact hv ρ' hρ)
  rw [← e1 ρ fun _ _ => rfl] at this
  exact this
theorem scall_gives {f : FuncId} {args : List SV} {d : Option Tmp} {K : St → Prop} (n : Nat) {fp : List Nat} {R : World → Prop} {ty e k : Nat} {rv : Nat → List Value} (R' : List Nat → World → Prop) (vs : List Value) (v : Nat → Nat → Value) (x : Nat → SV)
    (hc : ∀ (v : Array Value) w, (callFunc f v).run P w = .ok (.enter f v) w)
    (hcall : ∀ w, R w → Calls P f vs.toArray w fun o w' => ∃ b c fp', o = .returned (v b c) ∧ k ≤ c ∧ RowsAt w' b ty e k c rv ∧ R' fp' w' ∧ Chg fp (b :: fp') w w')
    (hst : ∀ fp', Stable fp' (R' fp')) (hg : hget hp n = some (.pred fp R)) (hok : SV.okL args = true) (hv : ∀ ρ, SV.denL ρ args = vs) (hx : ∀ b c (ρ : Env), ρ nx = ⟨b, 0, e⟩ → v b c = (x c).den ρ) (hd : dkB C.N d = true)
    (hK : ∀ c fp', k ≤ c → kput K ⟨fr, (nx, .rows ty e k c fun j => (rv j).map .v) :: hset hp n (.pred fp' (R' fp')), nx + 1⟩ d (x c)) : SCall P C f args d K ⟨fr, hp, nx⟩ := by
  refine ⟨hok, fun ρ w a hs _ => .inl ⟨fun v w => hc _ w, ?_⟩⟩
  rw [hv ρ]
  obtain ⟨hR, _, _, hown⟩ := hs.now.hp _ _ (mem_hget hg)
  refine (hcall w hR).mono fun o w' ⟨b, c, fp', he, hkc, hrow, hR', hch⟩ => ⟨_, he, ?_⟩
  have hn := List.nodup_cons.1 hch.nodup
  have hs' := hs.pred hg (R' := R' fp') (fp' := fp') ⟨hch.keeps, fun q hq => hch.sub q (by simp [hq]), hn.2⟩ hR' (hst fp')
  have hb := hch.sub b (by simp)
  have h1 := hs'.add (.rows ty e k c fun j => (rv j).map .v) ⟨b, 0, e⟩ [b] (fun ρ' hρ hn => hrow.holds hn (hb.1.elim (fun h => (hown b h).2) fun h => .inl (Nat.le_trans hs.now.keeps.size h)) fun i _ => map_v _ _)
    (fun ρ' hn => by simp [Blk.foot, hn]) (fun q hq hm => by
      simp only [List.mem_singleton] at hq
      subst hq
      obtain ⟨u, y, hm, hky⟩ := footL_out hm
      rcases hset_mem hg hs.now.once hm with ⟨rfl, rfl⟩ | ⟨hne, hm⟩
      · exact hn.1 hky
      · rcases hb.1 with h | h
        · exact foot_disj hs.now.nodup hm (mem_hget hg) hne hky h
        · have := (Blk.foot_lt (hs.now.hp _ _ hm) _ hky).1; omega) (by simp)
  refine ⟨_, _, hK c fp' hkc, h1.put (dk_of hd) fun _ ρ' hρ' => hx b c ρ' ?_, by cases d <;> simp [St.put], fun k hk => by simp [envSet, Nat.ne_of_lt hk]⟩
  have := hρ' nx (by simp)
  rw [this]; simp [envSet]
end
end Go.Sx
namespace Go.Sx
open Go.RowKit
section
variable {P : Program} {C : Cx} {fr : List (Nat × SV)} {hp : List (Nat × Blk)} {nx : Nat}
theorem Sat.fewer {ρ : Env} {a : Act} {w : World} {fr' : List (Nat × SV)} (hs : Sat C ⟨fr, hp, nx⟩ ρ a w) (h1 : frSub fr fr') : Sat C ⟨fr', hp, nx⟩ ρ a w := fun ρ' hρ => by
  have h0 := hs ρ' hρ
  refine ⟨fun t ht => ?_, h0.defers, h0.size, h0.keeps, h0.hp, h0.nodup, h0.names, h0.once, h0.n0le⟩
  have := frSub_lk h1 t ht
  rw [h0.fr t (by show (lk fr t).ok = true; rw [this]; exact ht)]
  show (lk fr t).den ρ' = _
  rw [this]
theorem ent_fr {fr' : List (Nat × SV)} (h1 : frSub fr fr') : Ent C ⟨fr, hp, nx⟩ ⟨fr', hp, nx⟩ := fun ρ a w hs => ⟨ρ, hs.fewer h1, fun _ _ => rfl⟩
theorem scall_names {f : FuncId} {args : List SV} {d : Option Tmp} {K : St → Prop} (hok : SV.okL args = true) (h : (∀ n b, (n, b) ∈ hp → n < nx) → (hp.map (·.1)).Nodup → SCall P C f args d K ⟨fr, hp, nx⟩) : SCall P C f args d K ⟨fr, hp, nx⟩ :=
  ⟨hok, fun ρ w a hs hv => (h hs.now.names hs.now.once).2 ρ w a hs hv⟩
theorem scode_names {c : Code} {Q : Exit → St → Prop} (h : (∀ n b, (n, b) ∈ hp → n < nx) → (hp.map (·.1)).Nodup → SCode P C c Q ⟨fr, hp, nx⟩) : SCode P C c Q ⟨fr, hp, nx⟩ := fun ρ a w hs => h hs.now.names hs.now.once ρ a w hs
theorem hrem_none {n : Nat} : ∀ {hp : List (Nat × Blk)}, (∀ m b, (m, b) ∈ hp → m < n) → hrem hp n = hp
  | [], _ => rfl
  | (a, x) :: r, h => by
    have := h a x (by simp)
    rw [hrem, if_neg (by omega), hrem_none fun m b hm => h m b (by simp [hm])]
theorem hget_lt {n : Nat} {b : Blk} (hn : ∀ m b, (m, b) ∈ hp → m < nx) (hg : hget hp n = some b) : n < nx := hn n b (mem_hget hg)
theorem scall_post {f : FuncId} {args : List SV} {d : Option Tmp} {K : St → Prop} {st : St} (h : SCall P C f args d (fun st' => ∃ st2, (∀ ρ a w, Sat C st' ρ a w → Sat C st2 ρ a w) ∧ st'.nx ≤ st2.nx ∧ K st2) st) : SCall P C f args d K st := by
  refine ⟨h.1, fun ρ w a hs hv => ?_⟩
  have key : ∀ (v : Value) (w' : World), KK C st.nx ρ (fun st' => ∃ st2, (∀ ρ a w, Sat C st' ρ a w → Sat C st2 ρ a w) ∧ st'.nx ≤ st2.nx ∧ K st2) (a.put d v) w' → KK C st.nx ρ K (a.put d v) w' := fun v w' ⟨st1, ρ1, ⟨st2, h1, h2, h3⟩, h4, h5, h6⟩ => ⟨st2, ρ1, h3, h1 _ _ _ h4, Nat.le_trans h5 h2, h6⟩
  rcases h.2 ρ w a hs hv with ⟨h1, h2⟩ | ⟨v, w', h1, h2⟩
  · exact .inl ⟨h1, h2.mono fun e w' ⟨v, he, hk⟩ => ⟨v, he, key v w' hk⟩⟩
  · exact .inr ⟨v, w', h1, key v w' h2⟩
theorem sappendR {d : Tmp} {x y : Operand} {t E ty : TypeId} {pos : String} {af : Array Edge} {g : Option (Nat × Bool)} {K : St → Prop} {b n m c b2 j k c2 sz bb m2 : Nat} {zs : List Value} {r r2 : Nat → List CV} (r' : Nat → List CV) (hp' : List (Nat × Blk)) (hrm : hrem hp b = hp') (hag : ∀ i, i < n + k → r' i = rapp r n (fun i => r2 (j + i)) i)
    (hx : St.ev ⟨fr, hp, nx⟩ x = .c (.s b 0 n c)) (hy : St.ev ⟨fr, hp, nx⟩ y = .c (.s b2 j k c2)) (hk : tkind P t = some (.slc E)) (h1 : tsz P E = some sz) (h2 : tby P E = some bb) (h3 : tzero P E = some zs)
    (hb : hget hp b = some (.rows E sz m c r)) (hr : rowRd (hget hp b2) = some (sz, m2, r2)) (hz : (zs.length = sz ∧ 0 < sz ∧ 0 < k ∧ n ≤ m) ∧ j + k ≤ m2 ∧ (n + k) * bb ≤ 140737488355328 ∧ n + k ≤ 9223372036854775807)
    (hone : ∀ i, i < k → (r2 (j + i)).all one1 = true)
    (hK : d < C.N ∧ ∀ c', n + k ≤ c' → K ⟨(d, .c (.s nx 0 (n + k) c')) :: fr, (nx, .rows E sz (n + k) c' r') :: hp', nx + 1⟩) :
    SOp P C ⟨some d, .call { callee := .builtin .append, args := #[x, y], argTypes := #[t, t] }, ty, pos, af, g⟩ K ⟨fr, hp, nx⟩ := by
  obtain ⟨hd, hK⟩ := hK
  refine SOp_ent (sappend hx hy hk h1 h2 h3 hb hr hz hone ⟨hd, fun c' hc' => ⟨⟨(d, .c (.s nx 0 (n + k) c')) :: fr, (nx, .rows E sz (n + k) c' r') :: hp', nx + 1⟩, fun ρ a w hs => ?_, Nat.le_refl _, hK c' hc'⟩⟩)
  have hh : hget ((nx, Blk.rows E sz (n + k) c' (rapp r n fun i => r2 (j + i))) :: hrem hp b) nx = some (Blk.rows E sz (n + k) c' (rapp r n fun i => r2 (j + i))) := by simp [hget]
  have := hs.rows_eq (r' := r') hh hag
  rw [← hrm]
  simpa [hset] using this
theorem sappendR_nil {d : Tmp} {x y : Operand} {t E ty : TypeId} {pos : String} {af : Array Edge} {g : Option (Nat × Bool)} {K : St → Prop} {b2 j k c2 sz bb m2 : Nat} {zs : List Value} {r2 : Nat → List CV} (r' : Nat → List CV) (hag : ∀ i, i < k → r' i = r2 (j + i))
    (hx : St.ev ⟨fr, hp, nx⟩ x = .c (.v (.slice none 0 0))) (hy : St.ev ⟨fr, hp, nx⟩ y = .c (.s b2 j k c2)) (hk : tkind P t = some (.slc E)) (h1 : tsz P E = some sz) (h2 : tby P E = some bb) (h3 : tzero P E = some zs)
    (hr : rowRd (hget hp b2) = some (sz, m2, r2)) (hz : (zs.length = sz ∧ 0 < sz ∧ 0 < k) ∧ j + k ≤ m2 ∧ k * bb ≤ 140737488355328 ∧ k ≤ 9223372036854775807)
    (hK : d < C.N ∧ ∀ c', k ≤ c' → K ⟨(d, .c (.s nx 0 k c')) :: fr, (nx, .rows E sz k c' r') :: hp, nx + 1⟩) :
    SOp P C ⟨some d, .call { callee := .builtin .append, args := #[x, y], argTypes := #[t, t] }, ty, pos, af, g⟩ K ⟨fr, hp, nx⟩ := by
  obtain ⟨hd, hK⟩ := hK
  refine SOp_ent (sappend_nil hx hy hk h1 h2 h3 hr hz ⟨hd, fun c' hc' => ⟨⟨(d, .c (.s nx 0 k c')) :: fr, (nx, .rows E sz k c' r') :: hp, nx + 1⟩, fun ρ a w hs => ?_, Nat.le_refl _, hK c' hc'⟩⟩)
  have hh : hget ((nx, Blk.rows E sz k c' (fun i => r2 (j + i))) :: hp) nx = some (Blk.rows E sz k c' (fun i => r2 (j + i))) := by simp [hget]
  have := hs.rows_eq (r' := r') hh hag
  simpa [hset] using this
theorem sameAll_of : ∀ {l hp : List (Nat × Blk)}, (∀ n b, (n, b) ∈ l → hget hp n = some b) → sameAll l hp
  | [], _, _ => trivial
  | (n, b) :: r, hp, h => ⟨h n b (by simp), sameAll_of fun m c hm => h m c (by simp [hm])⟩
theorem hget_of_mem {n : Nat} {b : Blk} : ∀ {hp : List (Nat × Blk)}, (hp.map (·.1)).Nodup → (n, b) ∈ hp → hget hp n = some b
  | [], _, h => by cases h
  | (q, v) :: y, ho, h => by
    simp only [List.map_cons, List.nodup_cons] at ho
    rw [hget_cons]
    rcases List.mem_cons.1 h with h | h
    · injection h with h1 h2; subst h1; subst h2; rw [if_pos rfl]
    · have hq : ¬ q = n := fun e => ho.1 (by rw [e]; exact List.mem_map.2 ⟨_, h, rfl⟩)
      rw [if_neg hq]
      exact hget_of_mem ho.2 h
theorem sameAll_self (ho : (hp.map (·.1)).Nodup) : sameAll hp hp = True := eq_true (sameAll_of fun n b h => hget_of_mem ho h)
theorem sameAll_push {n : Nat} {b : Blk} (ho : (hp.map (·.1)).Nodup) (hn : ∀ m b, (m, b) ∈ hp → m < n) : sameAll hp ((n, b) :: hp) = True := eq_true (sameAll_of fun m c h => by
  rw [hget_cons, if_neg (by have := hn m c h; omega)]
  exact hget_of_mem ho h)
theorem Sat.tail {ρ : Env} {a : Act} {w : World} {n : Nat} {b : Blk} (hs : Sat C ⟨fr, (n, b) :: hp, nx⟩ ρ a w) : Sat C ⟨fr, hp, nx⟩ ρ a w := fun ρ' hρ => by
  have h0 := hs ρ' hρ
  have h1 := h0.once
  have h2 := h0.nodup
  simp only [List.map_cons, List.nodup_cons] at h1
  simp only [footL, List.nodup_append] at h2
  exact ⟨h0.fr, h0.defers, h0.size, h0.keeps, fun m c hm => h0.hp m c (List.mem_cons_of_mem _ hm), h2.2.1, fun m c hm => h0.names m c (List.mem_cons_of_mem _ hm), h1.2, h0.n0le⟩
theorem XOp_lookup {d : Option Tmp} {t ty : TypeId} {x y : Operand} {b : Bool} {pos : String} {af : Array Edge} {g : Option (Nat × Bool)} {K : St → Prop} : XOp P C ⟨d, .lookup t x y b, ty, pos, af, g⟩ K ⟨fr, hp, nx⟩ = SOp P C ⟨d, .lookup t x y b, ty, pos, af, g⟩ K ⟨fr, hp, nx⟩ := (rfl)
theorem XOp_mapUpdate {d : Option Tmp} {t ty : TypeId} {x y z : Operand} {pos : String} {af : Array Edge} {g : Option (Nat × Bool)} {K : St → Prop} : XOp P C ⟨d, .mapUpdate t x y z, ty, pos, af, g⟩ K ⟨fr, hp, nx⟩ = SOp P C ⟨d, .mapUpdate t x y z, ty, pos, af, g⟩ K ⟨fr, hp, nx⟩ := (rfl)
theorem XOp_range {d : Option Tmp} {t ty : TypeId} {x : Operand} {pos : String} {af : Array Edge} {g : Option (Nat × Bool)} {K : St → Prop} : XOp P C ⟨d, .range t x, ty, pos, af, g⟩ K ⟨fr, hp, nx⟩ = SOp P C ⟨d, .range t x, ty, pos, af, g⟩ K ⟨fr, hp, nx⟩ := (rfl)
theorem XOp_next {d : Option Tmp} {ty : TypeId} {x : Operand} {b : Bool} {pos : String} {af : Array Edge} {g : Option (Nat × Bool)} {K : St → Prop} : XOp P C ⟨d, .next x b, ty, pos, af, g⟩ K ⟨fr, hp, nx⟩ = SOp P C ⟨d, .next x b, ty, pos, af, g⟩ K ⟨fr, hp, nx⟩ := (rfl)
theorem XOp_entry {d : Option Tmp} {ty : TypeId} {x : Operand} {pos : String} {af : Array Edge} {g : Option (Nat × Bool)} {K : St → Prop} : XOp P C ⟨d, .entry x, ty, pos, af, g⟩ K ⟨fr, hp, nx⟩ = SOp P C ⟨d, .entry x, ty, pos, af, g⟩ K ⟨fr, hp, nx⟩ := (rfl)
theorem XOp_makeMap {d : Option Tmp} {t ty : TypeId} {x : Option Operand} {pos : String} {af : Array Edge} {g : Option (Nat × Bool)} {K : St → Prop} : XOp P C ⟨d, .makeMap t x, ty, pos, af, g⟩ K ⟨fr, hp, nx⟩ = SOp P C ⟨d, .makeMap t x, ty, pos, af, g⟩ K ⟨fr, hp, nx⟩ := (rfl)
attribute [go_sem] XOp_lookup XOp_mapUpdate XOp_range XOp_next XOp_entry XOp_makeMap
end
end Go.Sx
namespace Go.Sx
open Go.RowKit
section
variable {P : Program}
theorem on_callsI {f : FuncId} {fn : Func} {c : Code} {args : Array Value} {w : World} {R : Ending → World → Prop} {g : Nat} {Sh : Nat → List (Nat × Blk) → Prop} {fp : List Nat} (ho : On g Sh fp w) {b o e m : Nat} {r : Nat → List Value} (hi : ImmAt w b o e m r) (hb0 : 0 < m → b ∉ fp) (n : Nat) (rs : List ResultVar) (hf : P.funcs[f]? = some fn) (hb : fn.body = some c) (hn : fn.ntmps = n) (hr : fn.results = rs.toArray)
    (xs : Nat → List SV) (hl : ∀ k, (xs k).length ≤ n) (ha : ∀ (k : Nat) (ρ' : Env), (ρ' 0).blk = g → (ρ' 0).base = 0 → ρ' k = ⟨b, o, e⟩ → args.toList = SV.denL ρ' (xs k))
    (h : ∀ ρ nx hp, Sh nx hp → (ρ 0).blk = g → (ρ 0).base = 0 → ρ nx = ⟨b, o, e⟩ → X P ⟨w, (· ∈ fp), n, nx + 1, ρ⟩ c (retQ P ⟨w, (· ∈ fp), n, nx + 1, ρ⟩ rs R) ⟨frOf 0 (xs nx), (nx, .imm e m fun i => (r i).map .v) :: hp, nx + 1⟩) : Calls P f args w R := by
  obtain ⟨ρ0, nx, hp, h1, h2, h3, h4, h5, h6, h7, h8⟩ := ho
  obtain ⟨ρ, hρ0⟩ : ∃ ρ, ρ = envSet ρ0 nx ⟨b, o, e⟩ := ⟨_, rfl⟩
  have hlow : ∀ k, k < nx → ρ k = ρ0 k := fun k hk => by rw [hρ0]; simp [envSet, Nat.ne_of_lt hk]
  have hat : ρ nx = ⟨b, o, e⟩ := by rw [hρ0]; simp [envSet]
  have hfoot : ∀ ρ' : Env, (∀ k, k < nx → ρ' k = ρ0 k) → ∀ l : List (Nat × Blk), (∀ x, x ∈ l → x ∈ hp) → footL ρ' l = footL ρ0 l := fun ρ' hρ l => by
    induction l with
    | nil => intro _; rfl
    | cons x r ih =>
      obtain ⟨m, b⟩ := x
      intro hs
      have hm := (h2 m b (hs _ (by simp))).1.1
      simp only [footL]
      rw [ih fun x hx => hs x (by simp [hx])]
      congr 1
      cases b <;> simp [Blk.foot, hρ m hm]
  have hw : ∀ ρ' : Env, (∀ k, k < nx + 1 → ρ' k = ρ k) → ∀ k, k < nx → ρ' k = ρ0 k := fun ρ' hρ k hk => (hρ k (by omega)).trans (hlow k hk)
  refine calls_of (· ∈ fp) n rs hf hb hn hr (xs nx) _ (nx + 1) ρ (hl nx) (fun ρ' hρ => ha nx ρ' (by rw [hw ρ' hρ 0 h8]; exact h6) (by rw [hw ρ' hρ 0 h8]; exact h7) ((hρ nx (by omega)).trans hat)) (fun ρ' hρ => ⟨fun q x hm => ?_, ?_⟩) (fun q x hm => ?_) ?_ (h ρ nx hp h1 (by rw [hlow 0 h8]; exact h6) (by rw [hlow 0 h8]; exact h7) hat)
  · rcases List.mem_cons.1 hm with hm | hm
    · injection hm with e1 e2; subst e1; subst e2
      have hρm : ρ' q = ⟨b, o, e⟩ := (hρ q (by omega)).trans hat
      obtain ⟨i1, i2, i3⟩ := hi
      refine ⟨by rw [hρm], fun i hi => ⟨by rw [List.length_map]; exact i2 i hi, fun u hu => ?_⟩, fun hm0 => by rw [hρm]; exact ⟨i1 hm0, hb0 hm0⟩⟩
      rw [hρm, ← List.getElem?_map, map_v]
      exact i3 i hi u hu
    · obtain ⟨⟨hm1, hm2⟩, hm3⟩ := h2 q x hm
      refine Blk.holds_of_lies (Blk.lies_env hm2 hm1 (hw ρ' hρ) hm3) fun k hk => .inr ?_
      show k ∈ fp
      rw [← h4, ← hfoot ρ' (hw ρ' hρ) hp fun _ h => h]
      exact foot_mem hm hk
  · show (footL ρ' hp).Nodup
    rw [hfoot ρ' (hw ρ' hρ) hp fun _ h => h, h4]; exact h5
  · rcases List.mem_cons.1 hm with hm | hm
    · injection hm with e1 e2; omega
    · have := (h2 q x hm).1.1; omega
  · simp only [List.map_cons, List.nodup_cons]
    refine ⟨fun hm => ?_, h3⟩
    obtain ⟨⟨q, x⟩, hm, he⟩ := List.mem_map.1 hm
    have := (h2 q x hm).1.1
    have he : q = nx := he
    omega
end
section
variable {P : Program} {C : Cx} {fr : List (Nat × SV)} {hp : List (Nat × Blk)} {nx : Nat}
theorem scall_predI {f : FuncId} {args : List SV} {d : Option Tmp} {K : St → Prop} {α : Type} (n : Nat) (fp : List Nat) (R : World → Prop) (R' : α → List Nat → World → Prop) {e k : Nat} {rv : Nat → List Value} (bo : Env → Nat × Nat) (vs : Nat → Nat → List Value) (x : α → SV) (v : α → Value) (φ : α → Prop)
    (hc : ∀ (v : Array Value) w, (callFunc f v).run P w = .ok (.enter f v) w)
    (hcall : ∀ w b o, R w → ImmAt w b o e k rv → (0 < k → b ∉ fp) → Calls P f (vs b o).toArray w fun e w' => ∃ y fp', φ y ∧ e = .returned (v y) ∧ R' y fp' w' ∧ Chg fp fp' w w')
    (hst : ∀ y fp', Stable fp' (R' y fp')) (hg : hget hp n = some (.pred fp R)) (hok : SV.okL args = true) (hI : ∀ ρ a w, Sat C ⟨fr, hp, nx⟩ ρ a w → ImmAt w (bo ρ).1 (bo ρ).2 e k rv ∧ (0 < k → (bo ρ).1 ∉ fp)) (hv : ∀ ρ, SV.denL ρ args = vs (bo ρ).1 (bo ρ).2) (hx : ∀ y ρ, v y = (x y).den ρ)
    (hK : dOk C.N d ∧ ∀ y fp', φ y → kput K ⟨fr, hset hp n (.pred fp' (R' y fp')), nx⟩ d (x y)) : SCall P C f args d K ⟨fr, hp, nx⟩ := by
  refine ⟨hok, fun ρ w a hs _ => .inl ⟨fun v w => hc _ w, ?_⟩⟩
  rw [hv ρ]
  obtain ⟨i1, i2⟩ := hI ρ a w hs
  refine (hcall w _ _ (hs.now.hp _ _ (mem_hget hg)).1 i1 i2).mono fun e w' ⟨y, fp', hy, he, hR, hch⟩ => ⟨_, he, _, ρ, hK.2 y fp' hy, (hs.pred hg hch hR (hst y fp')).put hK.1 fun _ ρ' _ => hx y ρ', (by cases d <;> simp [St.put]), fun _ _ => rfl⟩
theorem Sat.imm_rows {ρ : Env} {a : Act} {w : World} (hs : Sat C ⟨fr, hp, nx⟩ ρ a w) {n m ty e k c : Nat} {fp : List Nat} {R : World → Prop} {r : Nat → List CV} {rv : Nat → List Value} (hg : hget hp n = some (.pred fp R)) (hm : hget hp m = some (.rows ty e k c r)) (hr : ∀ i, i < k → r i = (rv i).map .v) : ImmAt w (ρ m).blk (ρ m).base e k rv ∧ (ρ m).blk ∉ fp := by
  refine ⟨imm_of_rows (hs.now.hp _ _ (mem_hget hm)) hr, fun h => ?_⟩
  have hne : n ≠ m := fun e => by rw [e, hm] at hg; cases hg
  exact foot_disj hs.now.nodup (mem_hget hm) (mem_hget hg) (Ne.symm hne) (by simp [Blk.foot]) h
theorem Sat.imm_imm {ρ : Env} {a : Act} {w : World} (hs : Sat C ⟨fr, hp, nx⟩ ρ a w) {n m e k o q : Nat} {fp : List Nat} {R : World → Prop} {r : Nat → List CV} {rv : Nat → List Value} (hg : hget hp n = some (.pred fp R)) (hm : hget hp m = some (.imm e k r)) (hk : o + q ≤ k) (hr : ∀ i, i < q → r (o + i) = (rv i).map .v) : ImmAt w (ρ m).blk ((ρ m).base + o * (ρ m).esz) e q rv ∧ (0 < q → (ρ m).blk ∉ fp) := by
  obtain ⟨h1, h2, h3⟩ := hs.now.hp _ _ (mem_hget hm)
  obtain ⟨_, _, _, hown⟩ := hs.now.hp _ _ (mem_hget hg)
  refine ⟨⟨fun hq => Nat.lt_of_lt_of_le (h3 (by omega)).1 hs.now.keeps.size, fun i hi => ?_, fun i hi u hu => ?_⟩, fun hq hm => ?_⟩
  · have := (h2 (o + i) (by omega)).1
    rw [hr i hi] at this; simpa using this
  · have := (h2 (o + i) (by omega)).2 u hu
    rw [hr i hi, ← List.getElem?_map, map_v, Nat.add_mul] at this
    rw [h1, Nat.add_assoc (ρ m).base]
    exact this
  · obtain ⟨h4, h5⟩ := h3 (by omega)
    rcases (hown _ hm).2 with h | h
    · omega
    · exact h5 h
end
end Go.Sx
namespace Go.Sx
open Go.RowKit Go.ChangeShapes Go.WideShapes
inductive FL where
  | f (k : FK)
  | l (ks : List FK)
def SlOk (W : World) (ks : List FK) (v : Value) : Prop := (∃ a cap, v = .slice a 0 cap) ∨
  ∃ (b off len cap : Nat) (rw : Nat → List Value), v = .slice (some ⟨b, off, none⟩) len cap ∧ 0 < len ∧ len ≤ cap ∧ cap ≤ maxLen ∧ ImmAt W b off ks.length len rw ∧ ∀ i, i < len → FOk ks (rw i)
def NOk (W : World) : List FL → List Value → Prop
  | [], [] => True
  | .f k :: ks, v :: vs => FOk [k] [v] ∧ NOk W ks vs
  | .l q :: ks, v :: vs => SlOk W q v ∧ NOk W ks vs
  | _, _ => False
theorem NOk.append {W : World} : ∀ {ks ks' : List FL} {vs vs' : List Value}, NOk W ks vs → NOk W ks' vs' → NOk W (ks ++ ks') (vs ++ vs')
  | [], ks', [], vs', _, h' => h'
  | .f k :: ks, ks', v :: vs, vs', h, h' => ⟨h.1, NOk.append h.2 h'⟩
  | .l k :: ks, ks', v :: vs, vs', h, h' => ⟨h.1, NOk.append h.2 h'⟩
  | [], _, _ :: _, _, h, _ => h.elim
  | .f _ :: _, _, [], _, h, _ => h.elim
  | .l _ :: _, _, [], _, h, _ => h.elim
theorem NOk.of {W : World} : ∀ {ks : List FK} {vs : List Value}, FOk ks vs → NOk W (ks.map .f) vs
  | [], [], _ => trivial
  | .b :: ks, v :: vs, h => ⟨⟨h.1, trivial⟩, NOk.of h.2⟩
  | .i k :: ks, v :: vs, h => ⟨⟨h.1, trivial⟩, NOk.of h.2⟩
  | .s :: ks, v :: vs, h => ⟨⟨h.1, trivial⟩, NOk.of h.2⟩
  | [], _ :: _, h => h.elim
  | .b :: _, [], h => h.elim
  | .i _ :: _, [], h => h.elim
  | .s :: _, [], h => h.elim
theorem nokL {W : World} {q : List FK} {ks : List FL} : ∀ {l : List Value}, NOk W (.l q :: ks) l → ∃ v r, l = v :: r ∧ SlOk W q v ∧ NOk W ks r
  | v :: r, h => ⟨v, r, rfl, h.1, h.2⟩
theorem nokI {W : World} {k : IntKind} {ks : List FL} : ∀ {l : List Value}, NOk W (.f (.i k) :: ks) l → ∃ n r, l = .int k n :: r ∧ (Lit.int k n).wf = true ∧ NOk W ks r
  | _ :: r, ⟨⟨⟨n, h1, h2⟩, _⟩, h3⟩ => ⟨n, r, by rw [h1], h2, h3⟩
theorem nokB {W : World} {ks : List FL} : ∀ {l : List Value}, NOk W (.f .b :: ks) l → ∃ b r, l = .bool b :: r ∧ NOk W ks r
  | _ :: r, ⟨⟨⟨n, h1⟩, _⟩, h3⟩ => ⟨n, r, by rw [h1], h3⟩
theorem nokS {W : World} {ks : List FL} : ∀ {l : List Value}, NOk W (.f .s :: ks) l → ∃ b r, l = .string b :: r ∧ b.size ≤ maxLen ∧ NOk W ks r
  | _ :: r, ⟨⟨⟨n, h1, h2⟩, _⟩, h3⟩ => ⟨n, r, by rw [h1], h2, h3⟩
theorem nok0 {W : World} : ∀ {l : List Value}, NOk W [] l → l = []
  | [], _ => rfl
section
variable {H : Type} {enc : TypeId × Value → H} {P : Program} {W W' : World}
def nestFs (P : Program) (rec : TypeId → Option (List FL)) : Nat → List Field → Option (List FL)
  | _, [] => some []
  | off, f :: r => bif Nat.beq f.offset off then (rec f.type).bind fun l => bif Nat.beq (P.cellsOf f.type) l.length then (nestFs P rec (off + l.length) r).map (l ++ ·) else none else none
def nestIn (P : Program) : Nat → TypeId → Option (List FL)
  | 0, _ => none
  | d + 1, t =>
    match P.underlying t with
    | some (.slice e) => (flatIn P 8 e).bind fun l => bif Nat.beq (P.cellsOf e) l.length && Nat.ble 1 l.length then some [.l l] else none
    | some (.struct fs) => (nestFs P (nestIn P d) 0 fs.toList).bind fun l => bif Nat.beq (P.cellsOf t) l.length then some l else none
    | _ => (flatIn P 8 t).map (·.map .f)
theorem nest_fields {rec : TypeId → Option (List FL)} {r : TypeId → List Value → Prop} (hrec : ∀ t l cs, rec t = some l → r t cs → NOk W l cs) {cs : List Value} :
    ∀ (fs : List Field) (off : Nat) (l : List FL), nestFs P rec off fs = some l → (∀ (i : Nat) (f : Field), fs[i]? = some f → r f.type ((cs.drop f.offset).take (P.cellsOf f.type))) → NOk W l ((cs.drop off).take l.length)
  | [], off, l, h, _ => by simp [nestFs] at h; subst h; simp [NOk]
  | f :: fs, off, l, h, hr => by
    simp only [nestFs] at h
    cases ho : Nat.beq f.offset off with
    | false => rw [ho] at h; cases h
    | true =>
      have ho := Nat.eq_of_beq_eq_true ho
      simp only [ho, Nat.beq_refl, cond_true, Option.bind_eq_some_iff] at h
      obtain ⟨l1, h1, h⟩ := h
      cases hc : Nat.beq (P.cellsOf f.type) l1.length with
      | false => rw [hc] at h; cases h
      | true =>
        rw [hc] at h
        have hc := Nat.eq_of_beq_eq_true hc
        simp only [cond_true, Option.map_eq_some_iff] at h
        obtain ⟨l2, h2, rfl⟩ := h
        have a1 := hrec _ _ _ h1 (hr 0 f rfl)
        have a2 := nest_fields hrec fs _ _ h2 fun i f hf => hr (i + 1) f hf
        rw [ho, hc] at a1
        rw [List.length_append, List.take_add, List.drop_drop]
        exact a1.append a2
variable {base : Nat} {spare : Nat → Bool} {held : Bool}
theorem slice_trod {t e : TypeId} {ks : List FK} {d fuel : Nat} {cs : List Value} {x : DataW H × List MemPlace} (ht : P.underlying t = some (.slice e)) (hk : flatIn P d e = some ks) (hc : P.cellsOf e = ks.length) (h0 : 0 < ks.length) (h : DataW.trod enc P W base spare held fuel t cs = some x) : ∃ v, cs = [v] ∧ SlOk W ks v := by
  rcases DataW.trod_slice ht h with ⟨h1, _⟩ | ⟨a', len, cap, elems, rest, n, _, h1, _, hb, hlc, hcm, hel, he, _⟩
  · exact ⟨_, h1, .inl ⟨none, 0, rfl⟩⟩
  · rcases Nat.eq_zero_or_pos len with hl | hl
    · subst hl; exact ⟨_, h1, .inl ⟨some a', cap, rfl⟩⟩
    · have key0 : ∀ i, i < len → ∃ cs, cs.length = ks.length ∧ FOk ks cs ∧ ∀ q, q < ks.length → W.cell? ((a'.add (i * ks.length)).add q) = cs[q]? := fun i hi => by
        have h2 := he i hi
        rw [hc, List.getElem?_eq_getElem (by omega), Option.bind_eq_some_iff] at h2
        obtain ⟨cs, hcs, h3⟩ := h2
        obtain ⟨h4, h5⟩ := cells_get hcs
        exact ⟨cs, h4, flat_trod d e ks hk _ _ _ h3, h5⟩
      obtain ⟨ab, ao, asq⟩ := a'
      have hsp : asq = none := by
        obtain ⟨cs, h6, _, h7⟩ := key0 0 hl
        have h7 := h7 0 h0
        rw [List.getElem?_eq_getElem (by omega)] at h7
        cases asq with
        | none => rfl
        | some s =>
          have : W.cell? (((⟨ab, ao, some s⟩ : Addr).add (0 * ks.length)).add 0) = none := by
            unfold World.cell?
            split
            · simp [Addr.add]
            · rfl
          rw [this] at h7; cases h7
      subst hsp
      have key : ∀ i, i < len → ∃ cs, cs.length = ks.length ∧ FOk ks cs ∧ ∀ q, q < ks.length → W.cell? ⟨ab, ao + i * ks.length + q, none⟩ = cs[q]? := fun i hi => by
        obtain ⟨cs, h4, h5, h6⟩ := key0 i hi
        refine ⟨cs, h4, h5, fun q hq => ?_⟩
        rw [← h6 q hq]
        congr 1
        rw [addr_add ⟨ab, ao, none⟩ _ rfl, addr_add _ _ rfl]
      refine ⟨_, h1, .inr ⟨ab, ao, len, cap, fun i => if hi : i < len then (key i hi).choose else [], rfl, hl, hlc, hcm, ⟨fun hm => ?_, fun i hi => ?_, fun i hi q hq => ?_⟩, fun i hi => ?_⟩⟩
      · obtain ⟨cs, h6, _, h7⟩ := key 0 hm
        have h7 := h7 0 h0
        rw [List.getElem?_eq_getElem (by omega)] at h7
        apply Decidable.byContradiction
        intro hn
        have hh : W.heap[ab]? = none := Array.getElem?_eq_none (by omega)
        simp [World.cell?, hh] at h7
      · simp only [hi, dite_true]; exact (key i hi).choose_spec.1
      · simp only [hi, dite_true]; exact (key i hi).choose_spec.2.2 q hq
      · simp only [hi, dite_true]; exact (key i hi).choose_spec.2.1
theorem nest_trod : ∀ (d : Nat) (t : TypeId) (ks : List FL), nestIn P d t = some ks → ∀ (fuel : Nat) (cs : List Value) (x : DataW H × List MemPlace), DataW.trod enc P W base spare held fuel t cs = some x → NOk W ks cs
  | 0, _, _, h, _, _, _, _ => by simp [nestIn] at h
  | d + 1, t, ks, h, fuel, cs, x, hx => by
    unfold nestIn at h
    split at h
    · rename_i e hu
      simp only [Option.bind_eq_some_iff] at h
      obtain ⟨l, hl, h⟩ := h
      cases hc : (Nat.beq (P.cellsOf e) l.length && Nat.ble 1 l.length) with
      | false => rw [hc] at h; cases h
      | true =>
        rw [hc] at h
        simp only [Bool.and_eq_true] at hc
        injection h with h; subst h
        obtain ⟨v, rfl, hv⟩ := slice_trod hu hl (Nat.eq_of_beq_eq_true hc.1) (Nat.le_of_ble_eq_true hc.2) hx
        exact ⟨hv, trivial⟩
    · rename_i fs hu
      simp only [Option.bind_eq_some_iff] at h
      obtain ⟨l, hl, h⟩ := h
      cases hc : Nat.beq (P.cellsOf t) l.length with
      | false => rw [hc] at h; cases h
      | true =>
        rw [hc] at h
        have hc := Nat.eq_of_beq_eq_true hc
        injection h with h; subst h
        obtain ⟨xs, n, rfl, _, hlen, hxl, hel⟩ := DataW.trod_struct hu hx
        have := nest_fields (P := P) (cs := cs) (r := fun t cs => ∃ x, DataW.trod enc P W base spare held n t cs = some x) (fun t l cs h1 ⟨x, h2⟩ => nest_trod d t l h1 n cs x h2) fs.toList 0 l hl fun i f hf => by
          have hf' : fs[i]? = some f := by simpa using hf
          have hi : i < xs.length := by rw [hxl]; exact (Array.getElem?_eq_some_iff.1 hf').1
          exact ⟨xs[i], by rw [hel i f hf', List.getElem?_eq_getElem hi]⟩
        rw [List.drop_zero, List.take_of_length_le (by omega)] at this
        exact this
    · simp only [Option.map_eq_some_iff] at h
      obtain ⟨l, hl, rfl⟩ := h
      exact NOk.of (flat_trod 8 t l hl fuel cs x hx)
theorem open_nest {d : Nat} {t : TypeId} {ks : List FL} {r : Reach} {b0 : Nat} {v : Value} {dd : DataW H} {ps : List MemPlace} (hk : nestIn P d t = some ks) (ha : tagg P t = some true) (hval : Value.okWide P W r b0 t v) (h : DataW.Trod enc P W base spare held t v dd ps) :
    ∃ cs : List Value, v = .agg cs.toArray ∧ NOk W ks cs := by
  have : ∃ cs, v = .agg cs := by
    unfold tagg at ha
    unfold Value.okWide at hval
    cases hu : P.underlying t with
    | none => rw [hu] at ha; cases ha
    | some u =>
      rw [hu] at ha hval
      cases u <;> simp at ha <;> exact ⟨hval.choose, hval.choose_spec.1⟩
  obtain ⟨cs, rfl⟩ := this
  obtain ⟨fuel, h⟩ := h
  exact ⟨cs.toList, rfl, nest_trod d t ks hk fuel _ _ h⟩
theorem open_nests {d : Nat} {t e : TypeId} {ks : List FL} {r : Reach} {b0 : Nat} {v : Value} {dd : DataW H} {ps : List MemPlace} (ht : P.underlying t = some (.slice e)) (hk : nestIn P d e = some ks) (hc : P.cellsOf e = ks.length) (h0 : 0 < ks.length) (hval : Value.okWide P W r b0 t v) (h : DataW.Trod enc P W base spare held t v dd ps) :
    v = .slice none 0 0 ∨ ∃ (b off len cap : Nat) (rw : Nat → List Value), v = .slice (some ⟨b, off, none⟩) len cap ∧ len ≤ cap ∧ cap ≤ maxLen ∧ ImmAt W b off ks.length len rw ∧ ∀ i, i < len → NOk W ks (rw i) := by
  obtain ⟨a, len, cap, rfl⟩ := okWide_slice ht hval
  obtain ⟨fuel, h⟩ := h
  rcases DataW.trod_slice ht h with ⟨h1, _⟩ | ⟨a', len', cap', elems, rest, n, _, h1, _, hb, hlc, hcm, hel, he, _⟩
  · left; simpa [Value.cells] using h1
  · right
    simp [Value.cells] at h1
    obtain ⟨rfl, rfl, rfl⟩ := h1
    have hsp : a'.spot = none := by
      unfold Value.okWide at hval
      rw [ht] at hval
      simp only [Cell.okWide, ht, Cell.ok] at hval
      exact hval.2.2.2.1
    obtain ⟨ab, ao, asq⟩ := a'
    simp only at hsp; subst hsp
    have key : ∀ i, i < len → ∃ cs, cs.length = ks.length ∧ NOk W ks cs ∧ ∀ q, q < ks.length → W.cell? ⟨ab, ao + i * ks.length + q, none⟩ = cs[q]? := fun i hi => by
      have h2 := he i hi
      rw [hc, List.getElem?_eq_getElem (by omega), Option.bind_eq_some_iff] at h2
      obtain ⟨cs, hcs, h3⟩ := h2
      obtain ⟨h4, h5⟩ := cells_get hcs
      refine ⟨cs, h4, nest_trod d e ks hk _ _ _ h3, fun q hq => ?_⟩
      rw [← h5 q hq]
      congr 1
      rw [addr_add ⟨ab, ao, none⟩ _ rfl, addr_add _ _ rfl]
    refine ⟨ab, ao, len, cap, fun i => if hi : i < len then (key i hi).choose else [], rfl, hlc, hcm, ⟨fun hm => ?_, fun i hi => ?_, fun i hi q hq => ?_⟩, fun i hi => ?_⟩
    · obtain ⟨cs, h6, _, h7⟩ := key 0 hm
      have h7 := h7 0 h0
      rw [List.getElem?_eq_getElem (by omega)] at h7
      apply Decidable.byContradiction
      intro hn
      have hh : W.heap[ab]? = none := Array.getElem?_eq_none (by omega)
      simp [World.cell?, hh] at h7
    · simp only [hi, dite_true]; exact (key i hi).choose_spec.1
    · simp only [hi, dite_true]; exact (key i hi).choose_spec.2.2 q hq
    · simp only [hi, dite_true]; exact (key i hi).choose_spec.2.1
theorem open_listN (k : Nat) {d : Nat} {t e : TypeId} {ks : List FL} {r : Reach} {b0 : Nat} {v : Value} {dd : DataW H} {ps : List MemPlace} (ht : P.underlying t = some (.slice e)) (hk : nestIn P d e = some ks) (hc : P.cellsOf e = ks.length) (h0 : 0 < ks.length) (hval : Value.okWide P W r b0 t v) (h : DataW.Trod enc P W base spare held t v dd ps) :
    ∃ (b off m : Nat) (r : Nat → List Value) (x : CV), ImmAt W b off ks.length m r ∧ LArg k m x ∧ (∀ ρ : Env, ρ k = ⟨b, off, ks.length⟩ → x.den ρ = v) ∧ (∀ i, i < m → NOk W ks (r i)) ∧ m ≤ maxLen := by
  rcases open_nests ht hk hc h0 hval h with rfl | ⟨b, off, len, cap, r, rfl, hl, hm, hi, hf⟩
  · exact ⟨0, 0, 0, fun _ => [], .v (.slice none 0 0), ⟨fun h => by omega, fun i h => by omega, fun i h => by omega⟩, .inl ⟨rfl, rfl⟩, fun _ _ => rfl, fun i h => by omega, by omega⟩
  · exact ⟨b, off, len, r, .s k 0 len cap, hi, .inr ⟨cap, rfl⟩, fun ρ hρ => by simp [CV.den, hρ], hf, by omega⟩
end
def LArg2 (k m : Nat) (x : CV) : Prop := (∃ a c, x = .v (.slice a 0 c) ∧ m = 0) ∨ ∃ cap, x = .s k 0 m cap
theorem LArg2.len {k m : Nat} {x : CV} (h : LArg2 k m x) (e : TypeId) (F : SV → Prop) : XLen (.slc e) (.c x) F = F (.c (.v (.int .i64 m))) := by
  rcases h with ⟨a, c, rfl, rfl⟩ | ⟨cap, rfl⟩ <;> rfl
theorem LArg2.pos {k m : Nat} {x : CV} (h : LArg2 k m x) (hm : 0 < m) : ∃ cap, x = .s k 0 m cap := by
  rcases h with ⟨a, c, rfl, rfl⟩ | h
  · omega
  · exact h
theorem LArg2.ok {k m : Nat} {x : CV} (h : LArg2 k m x) : SV.ok (.c x) = true := by
  rcases h with ⟨a, c, rfl, rfl⟩ | ⟨cap, rfl⟩ <;> rfl
structure SlD where
  a : Option Addr
  len : Nat
  cap : Nat
  b : Nat
  off : Nat
  r : Nat → List Value
def SlD.val (s : SlD) : Value := .slice s.a s.len s.cap
def SlD.ok (W : World) (ks : List FK) (s : SlD) : Prop := s.len ≤ maxLen ∧ (0 < s.len → s.a = some ⟨s.b, s.off, none⟩) ∧ ImmAt W s.b s.off ks.length s.len s.r ∧ ∀ i, i < s.len → FOk ks (s.r i)
theorem SlOk.out {W : World} {ks : List FK} {v : Value} (h : SlOk W ks v) : ∃ s : SlD, v = s.val ∧ s.ok W ks := by
  rcases h with ⟨a, cap, rfl⟩ | ⟨b, off, len, cap, r, rfl, h0, h1, h2, h3, h4⟩
  · exact ⟨⟨a, 0, cap, 0, 0, fun _ => []⟩, rfl, by simp [maxLen], fun h => absurd h (by simp), ⟨fun h => absurd h (by simp), fun i hi => absurd hi (by simp), fun i hi => absurd hi (by simp)⟩, fun i hi => absurd hi (by simp)⟩
  · exact ⟨⟨_, len, cap, b, off, r⟩, rfl, by simp only; omega, fun _ => rfl, h3, h4⟩
section
variable {P : Program} {C : Cx} {fr : List (Nat × SV)} {hp : List (Nat × Blk)} {nx : Nat}
theorem scall_imm {f : FuncId} {args args' : List SV} {d : Option Tmp} {K : St → Prop} {b o e m : Nat} {r : Nat → List Value} (hi : ImmAt C.w0 b o e m r) (hM : 0 < m → ¬ C.M b) (hok : SV.okL args = true) (ha : ∀ ρ : Env, ρ nx = ⟨b, o, e⟩ → SV.denL ρ args = SV.denL ρ args')
    (h : SCall P C f args' d K ⟨fr, (nx, .imm e m fun i => (r i).map .v) :: hp, nx + 1⟩) : SCall P C f args d K ⟨fr, hp, nx⟩ := by
  refine ⟨hok, fun ρ w a hs hv => ?_⟩
  obtain ⟨i1, i2, i3⟩ := hi
  have hkeep := hs.now.keeps
  have h1 := hs.add (.imm e m fun i => (r i).map .v) ⟨b, o, e⟩ [] (fun ρ' hρ hn => by
    refine ⟨by rw [hn], fun i hi => ⟨by simpa using i2 i hi, fun q hq => ?_⟩, fun hm => by rw [hn]; exact ⟨i1 hm, hM hm⟩⟩
    rw [hn, ← List.getElem?_map, map_v, ← i3 i hi q hq]
    have hb : w.heap[b]? = C.w0.heap[b]? := hkeep.block b (i1 (by omega)) (hM (by omega))
    simp [World.cell?, hb]) (fun ρ' hn => rfl) (fun k hk => by cases hk) List.nodup_nil
  have e0 : ∀ ρ' : Env, (∀ k, k < nx + 1 → ρ' k = envSet ρ nx ⟨b, o, e⟩ k) → SV.denL ρ' args' = SV.denL ρ args := fun ρ' hρ => by
    rw [← ha ρ' (by rw [hρ nx (by omega)]; simp [envSet])]
    refine hv ρ' fun k hk => ?_
    have hk : k < nx := hk
    rw [hρ k (by omega)]; simp [envSet, Nat.ne_of_lt hk]
  have h2 := h.2 _ w a h1 (fun ρ' hρ => by rw [e0 ρ' hρ, e0 _ fun _ _ => rfl])
  rw [e0 _ fun _ _ => rfl] at h2
  have key : ∀ (v : Value) (w' : World), KK C (nx + 1) (envSet ρ nx ⟨b, o, e⟩) K (a.put d v) w' → KK C nx ρ K (a.put d v) w' := fun v w' ⟨st1, ρ1, h1, h4, h5, h6⟩ => ⟨st1, ρ1, h1, h4, by omega, fun k hk => by rw [h6 k (by omega)]; simp [envSet, Nat.ne_of_lt hk]⟩
  rcases h2 with ⟨h1, h2⟩ | ⟨v, w', h1, h2⟩
  · exact .inl ⟨h1, h2.mono fun e w' ⟨v, he, hk⟩ => ⟨v, he, key v w' hk⟩⟩
  · exact .inr ⟨v, w', h1, key v w' h2⟩
end
end Go.Sx
namespace Go.Sx
open Go.RowKit
section
variable {P : Program} {C : Cx} {fr : List (Nat × SV)} {hp : List (Nat × Blk)} {nx : Nat}
theorem Sat.rows_same {ρ : Env} {a : Act} {w : World} (hs : Sat C ⟨fr, hp, nx⟩ ρ a w) (n : Nat) {ty e k c : Nat} {r r' : Nat → List CV} (hn : hget hp n = some (.rows ty e k c r)) (hr : ∀ ρ' : Env, (∀ j, j < nx → ρ' j = ρ j) → ∀ i, i < k → (r' i).map (CV.den ρ') = (r i).map (CV.den ρ')) :
    Sat C ⟨fr, hset hp n (.rows ty e k c r'), nx⟩ ρ a w := by
  refine hs.set hn hs.now.keeps (Nat.le_refl _) (fun _ _ _ _ => rfl) fun ρ' hρ => ⟨rfl, ?_⟩
  obtain ⟨h1, h2, ⟨arr, h3, h4, h5⟩, h6⟩ := (hs ρ' hρ).hp _ _ (mem_hget hn)
  refine ⟨h1, h2, ⟨arr, h3, h4, fun i hi => ?_⟩, h6⟩
  obtain ⟨h7, h8⟩ := h5 i hi
  have he := hr ρ' hρ i hi
  refine ⟨by rw [← h7]; have := congrArg List.length he; simpa using this, fun q hq => ?_⟩
  rw [h8 q hq, ← List.getElem?_map, ← he, List.getElem?_map]
theorem Sat.frame {fr' : List (Nat × SV)} {ρ : Env} {a : Act} {w : World} (hs : Sat C ⟨fr, hp, nx⟩ ρ a w) (hf : ∀ ρ' : Env, (∀ j, j < nx → ρ' j = ρ j) → ∀ t, (lk fr' t).ok = true → (lk fr t).ok = true ∧ (lk fr t).den ρ' = (lk fr' t).den ρ') : Sat C ⟨fr', hp, nx⟩ ρ a w := fun ρ' hρ => by
  have h0 := hs ρ' hρ
  refine ⟨fun t ht => ?_, h0.defers, h0.size, h0.keeps, h0.hp, h0.nodup, h0.names, h0.once, h0.n0le⟩
  obtain ⟨e1, e2⟩ := hf ρ' hρ t ht
  rw [← e2]; exact h0.fr t e1
theorem scode_freeze {c : Code} {Q : Exit → St → Prop} (m n : Nat) (hne : n ≠ m) {ty e k cc ty2 e2 k2 c2 : Nat} {r r2 : Nat → List CV} (rv : Nat → List Value) (r2' : Nat → Nat → List CV) (hm : hget hp m = some (.rows ty e k cc r)) (hr : ∀ i, i < k → r i = (rv i).map .v) (hn : hget hp n = some (.rows ty2 e2 k2 c2 r2))
    (h2 : ∀ ρ : Env, (ρ m).base = 0 → ∀ i, i < k2 → (r2 i).map (CV.den ρ) = (r2' (ρ m).blk i).map (CV.den ρ))
    (h : ∀ g, SCode P C c Q ⟨fr, hset (hset hp n (.rows ty2 e2 k2 c2 (r2' g))) m (.pred [g] fun w => RowsAt w g ty e k cc rv), nx⟩) : SCode P C c Q ⟨fr, hp, nx⟩ := fun ρ a w hs => by
  have hlt : m < nx := hs.now.names _ _ (mem_hget hm)
  have hb : (ρ m).base = 0 := (hs.now.hp _ _ (mem_hget hm)).1
  have h1 := hs.rows_same n (r' := r2' (ρ m).blk) hn fun ρ' hρ i hi => by
    have := h2 ρ' (by rw [hρ m hlt]; exact hb) i hi
    rw [hρ m hlt] at this
    exact this.symm
  have h3 := h1.rows_pred m rv (by rw [hget_other (Ne.symm hne)]; exact hm) hr
  exact h (ρ m).blk ρ a w h3
theorem scode_thaw {c : Code} {Q : Exit → St → Prop} (m : Nat) {fp : List Nat} {R : World → Prop} {b ty e k cc : Nat} {rv : Nat → List Value} (fr' : List (Nat × SV)) (hm : hget hp m = some (.pred fp R)) (hR : ∀ w, R w → fp = [b] ∧ RowsAt w b ty e k cc rv)
    (hf : ∀ ρ : Env, ρ nx = ⟨b, 0, e⟩ → ∀ t, (lk fr' t).ok = true → (lk fr t).ok = true ∧ (lk fr t).den ρ = (lk fr' t).den ρ)
    (h : SCode P C c Q ⟨fr', (nx, .rows ty e k cc fun j => (rv j).map .v) :: hrem hp m, nx + 1⟩) : SCode P C c Q ⟨fr, hp, nx⟩ := fun ρ a w hs => by
  obtain ⟨hRw, _, _, hown⟩ := hs.now.hp _ _ (mem_hget hm)
  obtain ⟨rfl, hrow⟩ := hR w hRw
  have h1 := (hs.rem m).add (.rows ty e k cc fun j => (rv j).map .v) ⟨b, 0, e⟩ [b] (fun ρ' hρ hn => hrow.holds hn (hown b (by simp)).2 fun i _ => map_v _ _)
    (fun ρ' hn => by simp [Blk.foot, hn]) (fun q hq hmem => by
      simp only [List.mem_singleton] at hq
      subst hq
      obtain ⟨u, y, hy, hky⟩ := footL_out hmem
      obtain ⟨hy1, hy2⟩ := hrem_mem hy
      exact foot_disj hs.now.nodup hy1 (mem_hget hm) hy2 hky (by simp [Blk.foot])) (by simp)
  have h2 := h1.frame (fr' := fr') fun ρ' hρ t ht => hf ρ' (by rw [hρ nx (by simp)]; simp [envSet]) t ht
  refine Code.wp_mono (QQ_to fun j hj => ?_) (h _ a w h2)
  have := Nat.lt_of_lt_of_le hj hs.now.n0le
  simp only at this
  simp [envSet, Nat.ne_of_lt this]
end
end Go.Sx
namespace Go.Sx
open Go.RowKit
def SL (n ty e : Nat) (rw : Nat → List Value) (m : Nat) (lv : CV) (lb : Blk) : Prop :=
  (m = 0 ∧ lv = .v (.slice none 0 0) ∧ lb = .pred [] fun _ => True) ∨ ∃ c, (m ≤ c ∧ 0 < m) ∧ lv = .s n 0 m c ∧ lb = .rows ty e m c fun j => (rw j).map .v
theorem SL.len {n ty e m : Nat} {rw : Nat → List Value} {lv : CV} {lb : Blk} (h : SL n ty e rw m lv lb) (t : TypeId) (F : SV → Prop) : XLen (.slc t) (.c lv) F = F (.c (.v (.int .i64 m))) := by
  rcases h with ⟨rfl, rfl, _⟩ | ⟨c, _, rfl, _⟩ <;> rfl
theorem SL.ok {n ty e m : Nat} {rw : Nat → List Value} {lv : CV} {lb : Blk} (h : SL n ty e rw m lv lb) : SV.ok (.c lv) = true := by
  rcases h with ⟨rfl, rfl, _⟩ | ⟨c, _, rfl, _⟩ <;> rfl
theorem SL.one {n ty e m : Nat} {rw : Nat → List Value} {lv : CV} {lb : Blk} (h : SL n ty e rw m lv lb) : one1 lv = true := by
  rcases h with ⟨rfl, rfl, _⟩ | ⟨c, _, rfl, _⟩ <;> rfl
theorem SL.cells {n ty e m : Nat} {rw : Nat → List Value} {lv : CV} {lb : Blk} (h : SL n ty e rw m lv lb) : (SV.c lv).cellsOf = some [lv] := by
  rcases h with ⟨rfl, rfl, _⟩ | ⟨c, _, rfl, _⟩ <;> rfl
theorem SL.bl {n ty e m : Nat} {rw : Nat → List Value} {lv : CV} {lb : Blk} (h : SL n ty e rw m lv lb) {k : Nat} (hk : n < k) : CV.bl k lv ∧ lb.bl k := by
  rcases h with ⟨rfl, rfl, rfl⟩ | ⟨c, _, rfl, rfl⟩
  · exact ⟨trivial, trivial⟩
  · exact ⟨hk, fun j _ => blL_v _ _⟩
theorem SL.solid {n ty e m : Nat} {rw : Nat → List Value} {lv : CV} {lb : Blk} (h : SL n ty e rw m lv lb) : lb.solid = true := by
  rcases h with ⟨rfl, rfl, rfl⟩ | ⟨c, _, rfl, rfl⟩ <;> rfl
theorem SL.rn {n ty e m : Nat} {rw : Nat → List Value} {lv : CV} {lb : Blk} (h : SL n ty e rw m lv lb) (f : Nat → Nat) : lb.rn f = lb ∧ SL (f n) ty e rw m (lv.rn f) lb := by
  rcases h with ⟨rfl, rfl, rfl⟩ | ⟨c, hc, rfl, rfl⟩
  · exact ⟨rfl, .inl ⟨rfl, rfl, rfl⟩⟩
  · exact ⟨by simp [Blk.rn, rnL_v], .inr ⟨c, hc, rfl, rfl⟩⟩
theorem SL.nil {n ty e : Nat} {rw : Nat → List Value} : SL n ty e rw 0 (.v (.slice none 0 0)) (.pred [] fun _ => True) := .inl ⟨rfl, rfl, rfl⟩
theorem SL.congr {n ty e m : Nat} {rw rw' : Nat → List Value} {lv : CV} {lb : Blk} (h : SL n ty e rw m lv lb) (hr : rw = rw') : SL n ty e rw' m lv lb := hr ▸ h
section
variable {P : Program} {C : Cx} {fr : List (Nat × SV)} {hp : List (Nat × Blk)} {nx : Nat}
theorem sappendSL {d : Tmp} {x y : Operand} {t E ty : TypeId} {pos : String} {af : Array Edge} {g : Option (Nat × Bool)} {K : St → Prop} (n : Nat) {m b2 j k c2 sz bb m2 : Nat} {zs : List Value} {lv : CV} {lb : Blk} {rw : Nat → List Value} {r2 : Nat → List CV} (rw' : Nat → List Value)
    (hx : St.ev ⟨fr, hp, nx⟩ x = .c lv) (hy : St.ev ⟨fr, hp, nx⟩ y = .c (.s b2 j k c2)) (hk : tkind P t = some (.slc E)) (h1 : tsz P E = some sz) (h2 : tby P E = some bb) (h3 : tzero P E = some zs)
    (hS : SL n E sz rw m lv lb) (hn : hget hp n = some lb) (hlt : n < nx) (hr : rowRd (hget hp b2) = some (sz, m2, r2)) (hz : (zs.length = sz ∧ 0 < sz ∧ 0 < k) ∧ j + k ≤ m2 ∧ (m + k) * bb ≤ 140737488355328 ∧ m + k ≤ 9223372036854775807)
    (ho : ∀ i, i < m → rw' i = rw i) (hw : ∀ i, i < k → r2 (j + i) = (rw' (m + i)).map .v) (hone : ∀ i, i < k → ((rw' (m + i)).map CV.v).all one1 = true)
    (hK : d < C.N ∧ ∀ c', m + k ≤ c' → K ⟨(d, .c (.s nx 0 (m + k) c')) :: fr, (nx, .rows E sz (m + k) c' fun j => (rw' j).map .v) :: hrem hp n, nx + 1⟩) :
    SOp P C ⟨some d, .call { callee := .builtin .append, args := #[x, y], argTypes := #[t, t] }, ty, pos, af, g⟩ K ⟨fr, hp, nx⟩ := by
  rcases hS with ⟨rfl, rfl, rfl⟩ | ⟨c, hc, rfl, rfl⟩
  · simp only [Nat.zero_add] at hz hw hK
    refine SOp_ent (sappendR_nil (fun j => (rw' j).map .v) (fun i hi => (hw i hi).symm) hx hy hk h1 h2 h3 hr hz ⟨hK.1, fun c' hc' => ⟨_, fun ρ a w hs => ?_, by exact Nat.le_refl _, hK.2 c' hc'⟩⟩)
    have := hs.rem n
    rwa [hrem, if_neg (by omega)] at this
  · refine sappendR (fun j => (rw' j).map .v) _ rfl (fun i hi => ?_) hx hy hk h1 h2 h3 hn hr ⟨⟨hz.1.1, hz.1.2.1, hz.1.2.2, Nat.le_refl _⟩, hz.2⟩ (fun i hi => by rw [hw i hi]; exact hone i hi) hK
    unfold rapp
    by_cases him : i < m
    · rw [if_pos him, ho i him]
    · rw [if_neg him]
      show _ = r2 (j + (i - m))
      rw [hw (i - m) (by omega)]
      congr 2; omega
theorem hpSub_of : ∀ {l hp : List (Nat × Blk)}, (∀ n b, (n, b) ∈ l → hget hp n = some b) → hpSub hp l
  | [], _, _ => trivial
  | (n, b) :: r, hp, h => ⟨h n b (by simp), hpSub_of fun m c hm => h m c (by simp [hm])⟩
theorem hpSub_self (ho : (hp.map (·.1)).Nodup) : hpSub hp hp := hpSub_of fun n b h => hget_of_mem ho h
theorem ent_rem (n : Nat) : Ent C ⟨fr, hp, nx⟩ ⟨fr, hrem hp n, nx⟩ := fun ρ a w hs => ⟨ρ, hs.rem n, fun _ _ => rfl⟩
theorem sameAll_two {n : Nat} {b : Blk} {l : List (Nat × Blk)} (h : ∀ m c, (m, c) ∈ l → hget ((n, b) :: hp) m = some c) : sameAll l ((n, b) :: hp) := sameAll_of h
theorem ent_none {fr' : List (Nat × SV)} {hp' : List (Nat × Blk)} (h1 : frSub fr fr') (h2 : hpSub hp hp') (h3 : (hp'.map (·.1)).Nodup) : Ent C ⟨fr, hp, nx⟩ ⟨fr', (nx, .pred [] fun _ => True) :: hp', nx + 1⟩ := fun ρ a w hs => by
  obtain ⟨ρ', hs', hρ⟩ := ent_drop h1 h2 h3 ρ a w hs
  have hn := hs'.now.n0le
  refine ⟨_, hs'.add (.pred [] fun _ => True) ⟨0, 0, 0⟩ [] (fun ρ' _ _ => ⟨trivial, fun _ _ _ _ => trivial, by simp, by simp⟩) (fun _ _ => rfl) (by simp) (by simp), fun k hk => ?_⟩
  have : k ≠ nx := by
    have hn : C.n0 ≤ nx := hn
    omega
  simp only [envSet]
  rw [if_neg this]; exact hρ k hk
theorem Sat.addE {ρ : Env} {a : Act} {w : World} (hs : Sat C ⟨fr, hp, nx⟩ ρ a w) (R : World → Prop) (h : R w) (hst : Stable [] R) : Sat C ⟨fr, (nx, .pred [] R) :: hp, nx + 1⟩ (envSet ρ nx ⟨0, 0, 0⟩) a w :=
  hs.add (.pred [] R) ⟨0, 0, 0⟩ [] (fun ρ' _ _ => ⟨h, hst, by simp, by simp⟩) (fun _ _ => rfl) (by simp) (by simp)
theorem SL.name {n ty e m : Nat} {rw : Nat → List Value} {lv : CV} {lb : Blk} (h : SL n ty e rw m lv lb) (q : Nat) : ∃ lv', SL q ty e rw m lv' lb ∧ ∀ f : Nat → Nat, f q = n → lv'.rn f = lv := by
  rcases h with ⟨rfl, rfl, rfl⟩ | ⟨c, hc, rfl, rfl⟩
  · exact ⟨_, SL.nil, fun _ _ => rfl⟩
  · exact ⟨.s q 0 m c, .inr ⟨c, hc, rfl, rfl⟩, fun f hf => by simp [CV.rn, hf]⟩
end
end Go.Sx
namespace Go.Sx
open Go.RowKit
mutual
def CV.raw (m g e : Nat) : CV → CV
  | .v x => .v x
  | .p b i f => if b = m then .v (.pointer (some ⟨g, i * e + f, none⟩)) else .p b i f
  | .s b i l c => if b = m then .v (.slice (some ⟨g, i * e, none⟩) l c) else .s b i l c
  | .fn f caps => .fn f (CV.rawL m g e caps)
def CV.rawL (m g e : Nat) : List CV → List CV
  | [] => []
  | x :: r => CV.raw m g e x :: CV.rawL m g e r
end
mutual
theorem CV.raw_den {m g e : Nat} {ρ : Env} (h : ρ m = ⟨g, 0, e⟩) : ∀ x : CV, (x.raw m g e).den ρ = x.den ρ
  | .v x => rfl
  | .p b i f => by
    simp only [CV.raw]
    split
    · next hb => subst hb; simp [CV.den, h]
    · rfl
  | .s b i l c => by
    simp only [CV.raw]
    split
    · next hb => subst hb; simp [CV.den, h]
    · rfl
  | .fn f caps => by simp only [CV.raw, CV.den, CV.rawL_den h caps]
theorem CV.rawL_den {m g e : Nat} {ρ : Env} (h : ρ m = ⟨g, 0, e⟩) : ∀ l : List CV, CV.denL ρ (CV.rawL m g e l) = CV.denL ρ l
  | [] => rfl
  | x :: r => by simp only [CV.rawL, CV.denL, CV.raw_den h x, CV.rawL_den h r]
end
theorem CV.rawL_eq (m g e : Nat) (l : List CV) : CV.rawL m g e l = l.map (CV.raw m g e) := by
  induction l with
  | nil => rfl
  | cons x r ih => simp [CV.rawL, ih]
theorem rawL_v {m g e : Nat} (l : List Value) : CV.rawL m g e (l.map .v) = l.map .v := by
  induction l with
  | nil => rfl
  | cons x r ih => simp [CV.rawL, CV.raw, ih]
mutual
def SV.raw (m g e : Nat) : SV → SV
  | .c x => .c (x.raw m g e)
  | .agg l => .agg (CV.rawL m g e l)
  | .tup l => .tup (SV.rawL m g e l)
  | .bad => .bad
def SV.rawL (m g e : Nat) : List SV → List SV
  | [] => []
  | x :: r => SV.raw m g e x :: SV.rawL m g e r
end
mutual
theorem SV.raw_den {m g e : Nat} {ρ : Env} (h : ρ m = ⟨g, 0, e⟩) : ∀ x : SV, (x.raw m g e).den ρ = x.den ρ
  | .c x => CV.raw_den h x
  | .agg l => by simp only [SV.raw, SV.den, CV.rawL_den h l]
  | .tup l => by simp only [SV.raw, SV.den, SV.rawL_den h l]
  | .bad => rfl
theorem SV.rawL_den {m g e : Nat} {ρ : Env} (h : ρ m = ⟨g, 0, e⟩) : ∀ l : List SV, SV.denL ρ (SV.rawL m g e l) = SV.denL ρ l
  | [] => rfl
  | x :: r => by simp only [SV.rawL, SV.denL, SV.raw_den h x, SV.rawL_den h r]
end
mutual
theorem SV.raw_ok {m g e : Nat} : ∀ x : SV, (x.raw m g e).ok = x.ok
  | .c x => rfl
  | .agg l => rfl
  | .tup l => by simp only [SV.raw, SV.ok, SV.rawL_ok l]
  | .bad => rfl
theorem SV.rawL_ok {m g e : Nat} : ∀ l : List SV, SV.okL (SV.rawL m g e l) = SV.okL l
  | [] => rfl
  | x :: r => by simp only [SV.rawL, SV.okL, SV.raw_ok x, SV.rawL_ok r]
end
def Blk.raw (m g e : Nat) : Blk → Blk
  | .cells ty cs => .cells ty (CV.rawL m g e cs)
  | .rows ty e' k c r => .rows ty e' k c fun i => CV.rawL m g e (r i)
  | .imm e' k r => .imm e' k fun i => CV.rawL m g e (r i)
  | .obj o => .obj o
  | .pred fp R => .pred fp R
def rawFr (m g e : Nat) : List (Nat × SV) → List (Nat × SV)
  | [] => []
  | (t, x) :: r => (t, x.raw m g e) :: rawFr m g e r
def rawHp (m g e : Nat) : List (Nat × Blk) → List (Nat × Blk)
  | [] => []
  | (n, b) :: r => (n, b.raw m g e) :: rawHp m g e r
theorem rawFr_lk (m g e t : Nat) : ∀ fr : List (Nat × SV), lk (rawFr m g e fr) t = (lk fr t).raw m g e
  | [] => rfl
  | (a, x) :: r => by
    simp only [rawFr, lk]
    cases Nat.beq a t
    · exact rawFr_lk m g e t r
    · rfl
theorem rawHp_get (m g e n : Nat) : ∀ hp : List (Nat × Blk), hget (rawHp m g e hp) n = (hget hp n).map (Blk.raw m g e)
  | [] => rfl
  | (a, x) :: r => by
    simp only [rawHp, hget]
    cases Nat.beq a n
    · exact rawHp_get m g e n r
    · rfl
theorem rawHp_mem {m g e : Nat} : ∀ {hp : List (Nat × Blk)} {n : Nat} {b : Blk}, (n, b) ∈ rawHp m g e hp → ∃ b0, (n, b0) ∈ hp ∧ b = b0.raw m g e
  | [], n, b, h => by cases h
  | (a, x) :: r, n, b, h => by
    rcases List.mem_cons.1 h with h | h
    · injection h with h1 h2; exact ⟨x, by simp [h1], h2⟩
    · obtain ⟨b0, h1, h2⟩ := rawHp_mem h
      exact ⟨b0, List.mem_cons_of_mem _ h1, h2⟩
theorem rawHp_names (m g e : Nat) : ∀ hp : List (Nat × Blk), (rawHp m g e hp).map (·.1) = hp.map (·.1)
  | [] => rfl
  | (a, x) :: r => by simp only [rawHp, List.map_cons, rawHp_names m g e r]
theorem Blk.raw_foot {m g e : Nat} {ρ : Env} {n : Nat} : ∀ b : Blk, (b.raw m g e).foot ρ n = b.foot ρ n
  | .cells .. => rfl
  | .rows .. => rfl
  | .imm .. => rfl
  | .obj _ => rfl
  | .pred .. => rfl
theorem rawHp_foot {m g e : Nat} {ρ : Env} : ∀ hp : List (Nat × Blk), footL ρ (rawHp m g e hp) = footL ρ hp
  | [] => rfl
  | (a, x) :: r => by simp only [rawHp, footL, Blk.raw_foot, rawHp_foot r]
theorem Blk.raw_holds {C : Cx} {m g e : Nat} {ρ : Env} (h : ρ m = ⟨g, 0, e⟩) {n : Nat} {w : World} {b : Blk} (hb : b.holds C ρ n w) : (b.raw m g e).holds C ρ n w := by
  have hm : ∀ l : List CV, (CV.rawL m g e l).map (CV.den ρ) = l.map (CV.den ρ) := fun l => by rw [← CV.denL_eq, ← CV.denL_eq, CV.rawL_den h l]
  have hi : ∀ (l : List CV) (k : Nat), ((CV.rawL m g e l)[k]?).map (CV.den ρ) = (l[k]?).map (CV.den ρ) := fun l k => by rw [← List.getElem?_map, ← List.getElem?_map, hm]
  have hl : ∀ l : List CV, (CV.rawL m g e l).length = l.length := fun l => by rw [CV.rawL_eq, List.length_map]
  cases b with
  | cells ty cs => exact ⟨hb.1, by rw [hm]; exact hb.2.1, hb.2.2⟩
  | rows ty e' k c r =>
    obtain ⟨h1, h2, ⟨arr, h3, h4, h5⟩, h6⟩ := hb
    exact ⟨h1, h2, ⟨arr, h3, h4, fun i hik => ⟨by rw [hl]; exact (h5 i hik).1, fun q hq => by rw [hi]; exact (h5 i hik).2 q hq⟩⟩, h6⟩
  | imm e' k r =>
    obtain ⟨h1, h2, h3⟩ := hb
    exact ⟨h1, fun i hik => ⟨by rw [hl]; exact (h2 i hik).1, fun q hq => by rw [hi]; exact (h2 i hik).2 q hq⟩, h3⟩
  | obj o => exact hb
  | pred fp R => exact hb
section
variable {P : Program} {C : Cx} {fr : List (Nat × SV)} {hp : List (Nat × Blk)} {nx : Nat}
theorem Sat.raw {ρ : Env} {a : Act} {w : World} (hs : Sat C ⟨fr, hp, nx⟩ ρ a w) {m g e : Nat} (hm : m < nx) (h : ρ m = ⟨g, 0, e⟩) : Sat C ⟨rawFr m g e fr, rawHp m g e hp, nx⟩ ρ a w := fun ρ' hρ => by
  have h0 := hs ρ' hρ
  have h' : ρ' m = ⟨g, 0, e⟩ := by rw [hρ m hm]; exact h
  refine ⟨fun t ht => ?_, h0.defers, h0.size, h0.keeps, fun n b hb => ?_, by rw [show footL ρ' (rawHp m g e hp) = _ from rawHp_foot hp]; exact h0.nodup, fun n b hb => ?_, by rw [show (rawHp m g e hp).map (·.1) = _ from rawHp_names m g e hp]; exact h0.once, h0.n0le⟩
  · rw [rawFr_lk] at ht ⊢
    rw [SV.raw_ok] at ht
    rw [SV.raw_den h']; exact h0.fr t ht
  · obtain ⟨b0, h1, rfl⟩ := rawHp_mem hb
    exact Blk.raw_holds h' (h0.hp n b0 h1)
  · obtain ⟨b0, h1, rfl⟩ := rawHp_mem hb
    exact h0.names n b0 h1
theorem Blk.unraw_holds {C : Cx} {m g e : Nat} {ρ : Env} (h : ρ m = ⟨g, 0, e⟩) {n : Nat} {w : World} {b : Blk} (hb : (b.raw m g e).holds C ρ n w) : b.holds C ρ n w := by
  have hm : ∀ l : List CV, (CV.rawL m g e l).map (CV.den ρ) = l.map (CV.den ρ) := fun l => by rw [← CV.denL_eq, ← CV.denL_eq, CV.rawL_den h l]
  have hi : ∀ (l : List CV) (k : Nat), ((CV.rawL m g e l)[k]?).map (CV.den ρ) = (l[k]?).map (CV.den ρ) := fun l k => by rw [← List.getElem?_map, ← List.getElem?_map, hm]
  have hl : ∀ l : List CV, (CV.rawL m g e l).length = l.length := fun l => by rw [CV.rawL_eq, List.length_map]
  cases b with
  | cells ty cs => exact ⟨hb.1, by rw [← hm]; exact hb.2.1, hb.2.2⟩
  | rows ty e' k c r =>
    obtain ⟨h1, h2, ⟨arr, h3, h4, h5⟩, h6⟩ := hb
    exact ⟨h1, h2, ⟨arr, h3, h4, fun i hik => ⟨by rw [← hl]; exact (h5 i hik).1, fun q hq => by rw [← hi]; exact (h5 i hik).2 q hq⟩⟩, h6⟩
  | imm e' k r =>
    obtain ⟨h1, h2, h3⟩ := hb
    exact ⟨h1, fun i hik => ⟨by rw [← hl]; exact (h2 i hik).1, fun q hq => by rw [← hi]; exact (h2 i hik).2 q hq⟩, h3⟩
  | obj o => exact hb
  | pred fp R => exact hb
theorem Sat.unraw {ρ : Env} {a : Act} {w : World} {m g e : Nat} (hs : Sat C ⟨rawFr m g e fr, rawHp m g e hp, nx⟩ ρ a w) (hm : m < nx) (h : ρ m = ⟨g, 0, e⟩) : Sat C ⟨fr, hp, nx⟩ ρ a w := fun ρ' hρ => by
  have h0 := hs ρ' hρ
  have h' : ρ' m = ⟨g, 0, e⟩ := by rw [hρ m hm]; exact h
  have mem : ∀ {hp : List (Nat × Blk)} {n : Nat} {b : Blk}, (n, b) ∈ hp → (n, b.raw m g e) ∈ rawHp m g e hp := fun {hp} {n} {b} hb => by
    induction hp with
    | nil => cases hb
    | cons x r ih =>
      obtain ⟨q, y⟩ := x
      rcases List.mem_cons.1 hb with hb | hb
      · injection hb with h1 h2; subst h1; subst h2; exact List.mem_cons_self ..
      · exact List.mem_cons_of_mem _ (ih hb)
  refine ⟨fun t ht => ?_, h0.defers, h0.size, h0.keeps, fun n b hb => Blk.unraw_holds h' (h0.hp n _ (mem hb)), by rw [← show footL ρ' (rawHp m g e hp) = footL ρ' hp from rawHp_foot hp]; exact h0.nodup, fun n b hb => h0.names n _ (mem hb), by rw [← show (rawHp m g e hp).map (·.1) = hp.map (·.1) from rawHp_names m g e hp]; exact h0.once, h0.n0le⟩
  have h1 := h0.fr t (by show (lk (rawFr m g e fr) t).ok = true; rw [rawFr_lk, SV.raw_ok]; exact ht)
  rw [show lk (rawFr m g e fr) t = _ from rawFr_lk m g e t fr, SV.raw_den h'] at h1
  exact h1
theorem Sat.thaw2 {ρ : Env} {a : Act} {w : World} (hs : Sat C ⟨fr, hp, nx⟩ ρ a w) (q : Nat) {fp : List Nat} {R : World → Prop} {b ty e k cc : Nat} {rv : Nat → List Value} (fr' : List (Nat × SV)) (hp' : List (Nat × Blk)) (hq : hget hp q = some (.pred fp R)) (hR : R w → fp = [b] ∧ RowsAt w b ty e k cc rv)
    (hf : rawFr nx b e fr' = fr) (hh : rawHp nx b e hp' = hrem hp q) : Sat C ⟨fr', (nx, .rows ty e k cc fun j => (rv j).map .v) :: hp', nx + 1⟩ (envSet ρ nx ⟨b, 0, e⟩) a w := by
  obtain ⟨hRw, _, _, hown⟩ := hs.now.hp _ _ (mem_hget hq)
  obtain ⟨rfl, hrow⟩ := hR hRw
  have h1 := (hs.rem q).add (.rows ty e k cc fun j => (rv j).map .v) ⟨b, 0, e⟩ [b] (fun ρ' hρ hn => hrow.holds hn (hown b (by simp)).2 fun i _ => map_v _ _)
    (fun ρ' hn => by simp [Blk.foot, hn]) (fun q' hq' hmem => by
      simp only [List.mem_singleton] at hq'
      subst hq'
      obtain ⟨u, y, hy, hky⟩ := footL_out hmem
      obtain ⟨hy1, hy2⟩ := hrem_mem hy
      exact foot_disj hs.now.nodup hy1 (mem_hget hq) hy2 hky (by simp [Blk.foot])) (by simp)
  refine Sat.unraw (m := nx) (g := b) (e := e) ?_ (by omega) (by simp [envSet])
  have e2 : rawHp nx b e ((nx, Blk.rows ty e k cc fun j => (rv j).map .v) :: hp') = (nx, .rows ty e k cc fun j => (rv j).map .v) :: hrem hp q := by
    rw [rawHp, hh]; simp [Blk.raw, rawL_v]
  rw [e2, hf]
  exact h1
theorem scode_thaw2 {c : Code} {Q : Exit → St → Prop} (q : Nat) {fp : List Nat} {R : World → Prop} {b ty e k cc : Nat} {rv : Nat → List Value} (fr' : List (Nat × SV)) (hp' : List (Nat × Blk)) (hq : hget hp q = some (.pred fp R)) (hR : ∀ w, R w → fp = [b] ∧ RowsAt w b ty e k cc rv)
    (hf : rawFr nx b e fr' = fr) (hh : rawHp nx b e hp' = hrem hp q) (h : SCode P C c Q ⟨fr', (nx, .rows ty e k cc fun j => (rv j).map .v) :: hp', nx + 1⟩) : SCode P C c Q ⟨fr, hp, nx⟩ := fun ρ a w hs => by
  have h1 := hs.thaw2 q fr' hp' hq (hR w) hf hh
  refine Code.wp_mono (QQ_to fun j hj => ?_) (h _ a w h1)
  have := Nat.lt_of_lt_of_le hj hs.now.n0le
  simp only at this
  simp [envSet, Nat.ne_of_lt this]
theorem Sat.freeze {ρ : Env} {a : Act} {w : World} (hs : Sat C ⟨fr, hp, nx⟩ ρ a w) (m : Nat) {ty e k c : Nat} {r : Nat → List CV} (rv : Nat → List Value) (hm : hget hp m = some (.rows ty e k c r)) (hr : ∀ i, i < k → r i = (rv i).map .v) :
    Sat C ⟨rawFr m (ρ m).blk e fr, hset (rawHp m (ρ m).blk e hp) m (.pred [(ρ m).blk] fun w => RowsAt w (ρ m).blk ty e k c rv), nx⟩ ρ a w := by
  have hlt : m < nx := hs.now.names _ _ (mem_hget hm)
  have hh := hs.now.hp _ _ (mem_hget hm)
  have e0 : ρ m = ⟨(ρ m).blk, 0, e⟩ := by
    have h1 := hh.1
    have h2 := hh.2.1
    cases hq : ρ m
    rw [hq] at h1 h2
    simp only at h1 h2
    rw [h1, h2]
  refine (hs.raw hlt e0).rows_pred m rv (by rw [rawHp_get, hm]; rfl) fun i hi => ?_
  rw [hr i hi]
  exact rawL_v _
theorem scode_raw {c : Code} {Q : Exit → St → Prop} (m : Nat) {ty e k cc : Nat} {r : Nat → List CV} (rv : Nat → List Value) (hm : hget hp m = some (.rows ty e k cc r)) (hr : ∀ i, i < k → r i = (rv i).map .v)
    (h : ∀ g, SCode P C c Q ⟨rawFr m g e fr, hset (rawHp m g e hp) m (.pred [g] fun w => RowsAt w g ty e k cc rv), nx⟩) : SCode P C c Q ⟨fr, hp, nx⟩ := fun ρ a w hs => h _ ρ a w (hs.freeze m rv hm hr)
theorem scall_raw {f : FuncId} {args : List SV} {d : Option Tmp} {K : St → Prop} (m : Nat) {ty e k cc : Nat} {r : Nat → List CV} (rv : Nat → List Value) (hm : hget hp m = some (.rows ty e k cc r)) (hr : ∀ i, i < k → r i = (rv i).map .v) (hok : SV.okL args = true)
    (h : ∀ g, SCall P C f (SV.rawL m g e args) d K ⟨rawFr m g e fr, hset (rawHp m g e hp) m (.pred [g] fun w => RowsAt w g ty e k cc rv), nx⟩) : SCall P C f args d K ⟨fr, hp, nx⟩ := by
  refine ⟨hok, fun ρ w a hs hag => ?_⟩
  have hlt : m < nx := hs.now.names _ _ (mem_hget hm)
  have hh := hs.now.hp _ _ (mem_hget hm)
  have e0 : ρ m = ⟨(ρ m).blk, 0, e⟩ := by
    have h1 := hh.1
    have h2 := hh.2.1
    cases hq : ρ m
    rw [hq] at h1 h2
    simp only at h1 h2
    rw [h1, h2]
  have := (h (ρ m).blk).2 ρ w a (hs.freeze m rv hm hr) (fun ρ' hρ => by
    rw [SV.rawL_den (by rw [hρ m hlt]; exact e0), SV.rawL_den e0]; exact hag ρ' hρ)
  rw [SV.rawL_den e0] at this
  exact this
end
theorem rawB_cells {m g e : Nat} {ty : TypeId} {cs : List CV} : Blk.raw m g e (.cells ty cs) = .cells ty (CV.rawL m g e cs) := (rfl)
theorem rawB_rows {m g e : Nat} {ty : TypeId} {e' k c : Nat} {r : Nat → List CV} : Blk.raw m g e (.rows ty e' k c r) = .rows ty e' k c fun i => CV.rawL m g e (r i) := (rfl)
theorem rawB_imm {m g e : Nat} {e' k : Nat} {r : Nat → List CV} : Blk.raw m g e (.imm e' k r) = .imm e' k fun i => CV.rawL m g e (r i) := (rfl)
theorem rawB_obj {m g e : Nat} {o : Obj} : Blk.raw m g e (.obj o) = .obj o := (rfl)
theorem rawB_pred {m g e : Nat} {fp : List Nat} {R : World → Prop} : Blk.raw m g e (.pred fp R) = .pred fp R := (rfl)
theorem raw_p0 {m g e i f : Nat} : CV.raw m g e (.p m i f) = .v (.pointer (some ⟨g, i * e + f, none⟩)) := by simp [CV.raw]
theorem raw_s0 {m g e i l c : Nat} : CV.raw m g e (.s m i l c) = .v (.slice (some ⟨g, i * e, none⟩) l c) := by simp [CV.raw]
attribute [go_sem] CV.raw CV.rawL SV.raw SV.rawL rawB_cells rawB_rows rawB_imm rawB_obj rawB_pred rawFr rawHp rawL_v
end Go.Sx
namespace Go.Sx
open Go.RowKit
section
variable {P : Program} {C : Cx} {fr : List (Nat × SV)} {hp : List (Nat × Blk)} {nx : Nat}
theorem scall_close {f : FuncId} {args : List SV} {d : Option Tmp} {K : St → Prop} (fn : Nat → Nat) (Sh : Nat → List (Nat × Blk) → Prop) (nx' : Nat) (hp' : List (Nat × Blk)) (ts : List Nat) (args' : Nat → List SV) {b0 : Blk} (he : hpEnt fn nx' hp hp') (h1 : (hp'.map fun x => fn x.1).Nodup) (h2 : hp'.all (fun x => x.2.solid) = true) (hsh : Sh nx' hp')
    (hb0 : (0, b0) ∈ hp') (hbb : b0.based = true) (h0 : 0 < nx') (ht : ∀ t, t ∈ ts → lk fr t = .c (.p (fn 0) 0 0)) (hok : SV.okL args = true) (ha : ∀ ρ : Env, (ρ (fn 0)).base = 0 → SV.denL ρ args = SV.denL ρ (args' (ρ (fn 0)).blk))
    (h : ∀ g fp', SCall P C f (args' g) d K ⟨ptsC (.c (.v (gptr g))) ts fr, (fn 0, .pred fp' (On g Sh fp')) :: hremL hp (hp'.map fun x => fn x.1), nx⟩) : SCall P C f args d K ⟨fr, hp, nx⟩ := by
  refine ⟨hok, fun ρ w a hs hag => ?_⟩
  have hg0 : hget hp (fn 0) = some (b0.rn fn) := (hpEnt_mem he 0 b0 hb0).2.2
  have hlt : fn 0 < nx := hs.now.names _ _ (mem_hget hg0)
  obtain ⟨hb, fp', hs'⟩ := hs.close_ fn he h1 h2 hsh hb0 hbb h0 ts ht
  have := (h (ρ (fn 0)).blk fp').2 ρ w a hs' fun ρ' hρ => by
    have e : (ρ' (fn 0)) = ρ (fn 0) := hρ _ hlt
    rw [← e, ← ha ρ' (by rw [e]; exact hb), hag ρ' hρ, ha ρ hb, e]
  rw [← ha ρ hb] at this
  exact this
end
end Go.Sx
namespace Go.Proofs.Ytagjblkfgjcmnaa
open Go.RowKit Go.Sx
attribute [local go_sem ↓] reduceIte
attribute [local go_sem] Nat.reduceEqDiff Nat.reduceLT Nat.reduceLeDiff Nat.reduceAdd Nat.reduceMul Nat.reduceSub Nat.reduceDiv Nat.reduceMod Int.reduceToNat Int.reduceLT Int.reduceLE Int.reduceAdd Int.reduceSub Int.reduceMul Int.reduceEq Int.reduceNeg reduceCtorEq or_false false_or decide_true decide_false Int.cast_ofNat_Int Nat.zero_add Nat.add_zero Int.toNat_natCast Option.isNone_none Option.isNone_some Bool.not_true Bool.not_false Bool.xor_true Bool.xor_false Bool.true_xor Bool.false_xor Bool.and_true Bool.true_and Bool.and_false Bool.false_and eq_self ne_eq not_false_eq_true not_true_eq_false true_and and_true and_self

structure Stp where
  v : V4
  dc : Int
deriving DecidableEq
def Stp.l (s : Stp) : List Value := [vu s.v.a, vu s.v.b, vu s.v.c, vu s.v.d, .int .i64 s.dc]
def Stp.val (s : Stp) : Value := .agg s.l.toArray
abbrev ci (n : Int) : CV := .v (.int .i64 n)
abbrev sst (a b c d n : Int) : SV := .agg [cu a, cu b, cu c, cu d, ci n]
def Stp.n (s : Stp) : Int := s.v.at s.dc
def Stp.right (s : Stp) : Bool := s.v.right && decide (0 < s.n)
def Stp.seen (s : Stp) (at' : V4) : Bool := s.v.leq at'
def cmpI (x y : Int) : Int := if x < y then -1 else if y < x then 1 else 0
def or2 (x y : Int) : Int := if x = 0 then y else x
def vcmp (x y : V4) : Int := or2 (cmpI x.a y.a) (or2 (cmpI x.b y.b) (or2 (cmpI x.c y.c) (cmpI x.d y.d)))
def Stp.ord (s t : Stp) : Int := if s = t then 0 else or2 (cmpI s.v.sum t.v.sum) (or2 (cmpI s.dc t.dc) (vcmp s.v t.v))
def V4.nth (x : V4) : Nat → Int
  | 0 => x.a
  | 1 => x.b
  | 2 => x.c
  | _ => x.d
theorem nth0 (x : V4) : x.nth 0 = x.a := rfl
theorem nth1 (x : V4) : x.nth 1 = x.b := rfl
theorem nth2 (x : V4) : x.nth 2 = x.c := rfl
theorem nth3 (x : V4) : x.nth 3 = x.d := rfl

theorem cmpu_c (x y : Int) (w : World) : Calls Try.prog 82 #[vu x, vu y] w fun e w' => e = .returned (.int .i64 (cmpI x y)) ∧ Below w.heap.size w w' := by
  refine calls_pure 20 _ Try.func82 rfl Try.ntmps82 Try.results82 [.c (cu x), .c (cu y)] (by simp) (fun _ => rfl) ?_
  obtain ⟨b1, b2, d1, d2⟩ : ∃ b1 b2, decide (x < y) = b1 ∧ decide (y < x) = b2 := ⟨_, _, rfl, rfl⟩
  simp only [go_sem]
  refine scall_in 6 _ Try.func92 rfl Try.ntmps92 Try.results92 Try.call92 (by simp only [go_sem]) (fun _ _ => ?_)
  simp only [go_sem]
  refine scall_in 6 _ Try.func92 rfl Try.ntmps92 Try.results92 Try.call92 (by simp only [go_sem]) (fun _ _ => ?_)
  cases b1
  · cases b2
    · simp only [go_sem, d1, d2]
      exact fun ρ a w hs _ => ⟨by simp at d1 d2; unfold cmpI; rw [if_neg (by omega), if_neg (by omega)]; rfl, hs.grown⟩
    · simp only [go_sem, d1, d2]
      exact fun ρ a w hs _ => ⟨by simp at d1 d2; unfold cmpI; rw [if_neg (by omega), if_pos (by omega)]; rfl, hs.grown⟩
  · simp only [go_sem, d1, d2]
    exact fun ρ a w hs _ => ⟨by simp at d1; unfold cmpI; rw [if_pos (by omega)]; rfl, hs.grown⟩
theorem cmpi_c (x y : Int) (w : World) : Calls Try.prog 83 #[.int .i64 x, .int .i64 y] w fun e w' => e = .returned (.int .i64 (cmpI x y)) ∧ Below w.heap.size w w' := by
  refine calls_pure 20 _ Try.func83 rfl Try.ntmps83 Try.results83 [.c (ci x), .c (ci y)] (by simp) (fun _ => rfl) ?_
  obtain ⟨b1, b2, d1, d2⟩ : ∃ b1 b2, decide (x < y) = b1 ∧ decide (y < x) = b2 := ⟨_, _, rfl, rfl⟩
  simp only [go_sem]
  refine scall_in 6 _ Try.func93 rfl Try.ntmps93 Try.results93 Try.call93 (by simp only [go_sem]) (fun _ _ => ?_)
  simp only [go_sem]
  refine scall_in 6 _ Try.func93 rfl Try.ntmps93 Try.results93 Try.call93 (by simp only [go_sem]) (fun _ _ => ?_)
  cases b1
  · cases b2
    · simp only [go_sem, d1, d2]
      exact fun ρ a w hs _ => ⟨by simp at d1 d2; unfold cmpI; rw [if_neg (by omega), if_neg (by omega)]; rfl, hs.grown⟩
    · simp only [go_sem, d1, d2]
      exact fun ρ a w hs _ => ⟨by simp at d1 d2; unfold cmpI; rw [if_neg (by omega), if_pos (by omega)]; rfl, hs.grown⟩
  · simp only [go_sem, d1, d2]
    exact fun ρ a w hs _ => ⟨by simp at d1; unfold cmpI; rw [if_pos (by omega)]; rfl, hs.grown⟩
section
variable {C : Cx} {fr : List (Nat × SV)} {hp : List (Nat × Blk)} {nx : Nat} {d : Option Tmp} {K : St → Prop} {x y : Int}
theorem cmpu_s (h : dOk C.N d ∧ kput K ⟨fr, hp, nx⟩ d (.c (ci (cmpI x y)))) : SCall Try.prog C 82 [.c (cu x), .c (cu y)] d K ⟨fr, hp, nx⟩ :=
  scall_pure [vu x, vu y] _ _ Try.call82 (cmpu_c x y) rfl (fun _ => rfl) (fun _ => rfl) h
theorem cmpi_s (h : dOk C.N d ∧ kput K ⟨fr, hp, nx⟩ d (.c (ci (cmpI x y)))) : SCall Try.prog C 83 [.c (ci x), .c (ci y)] d K ⟨fr, hp, nx⟩ :=
  scall_pure [.int .i64 x, .int .i64 y] _ _ Try.call83 (cmpi_c x y) rfl (fun _ => rfl) (fun _ => rfl) h
end
set_option maxHeartbeats 1000000 in
theorem vcmp_c (w : World) {b1 o1 b2 o2 : Nat} (x y : V4) (i1 : ImmAt w b1 o1 1 4 fun i => [vu (x.nth i)]) (i2 : ImmAt w b2 o2 1 4 fun i => [vu (y.nth i)]) :
    Calls Try.prog 84 #[.slice (some ⟨b1, o1, none⟩) 4 4, .slice (some ⟨b2, o2, none⟩) 4 4] w fun e w' => e = .returned (.int .i64 (vcmp x y)) ∧ Below w.heap.size w w' := by
  refine calls_imm [⟨b1, o1, 1, 4, _⟩, ⟨b2, o2, 1, 4, _⟩] (by simp; exact ⟨i1, i2⟩) 36 _ Try.func84 rfl Try.ntmps84 Try.results84 [.c (.s 0 0 4 4), .c (.s 1 0 4 4)] (by simp) (fun ρ h => by
    have h0 := h 0 (by simp)
    have h1 := h 1 (by simp)
    simp [immN, ImmD.nm] at h0 h1
    simp [SV.denL, SV.den, CV.den, h0, h1]) ?_
  simp only [immL, List.length_cons, List.length_nil, Nat.zero_add, Nat.reduceAdd, List.map_cons, List.map_nil]
  simp only [go_sem]
  refine sloop_rounds 5 ?_
  simp only [go_sem, nth0]
  refine cmpu_s ?_
  by_cases h0 : cmpI x.a y.a = 0
  case neg =>
    have e : vcmp x y = cmpI x.a y.a := by unfold vcmp or2; rw [if_neg h0]
    rw [e]
    simp only [go_sem, h0]
    exact fun ρ a w hs _ => ⟨rfl, hs.grown⟩
  simp only [go_sem, h0, nth1]
  refine cmpu_s ?_
  by_cases h1 : cmpI x.b y.b = 0
  case neg =>
    have e : vcmp x y = cmpI x.b y.b := by unfold vcmp or2; rw [if_pos h0, if_neg h1]
    rw [e]
    simp only [go_sem, h1]
    exact fun ρ a w hs _ => ⟨rfl, hs.grown⟩
  simp only [go_sem, h1, nth2]
  refine cmpu_s ?_
  by_cases h2 : cmpI x.c y.c = 0
  case neg =>
    have e : vcmp x y = cmpI x.c y.c := by unfold vcmp or2; rw [if_pos h0, if_pos h1, if_neg h2]
    rw [e]
    simp only [go_sem, h2]
    exact fun ρ a w hs _ => ⟨rfl, hs.grown⟩
  have e : vcmp x y = cmpI x.d y.d := by unfold vcmp or2; rw [if_pos h0, if_pos h1, if_pos h2]
  rw [e]
  simp only [go_sem, h2, nth3]
  refine cmpu_s ?_
  by_cases h3 : cmpI x.d y.d = 0
  · rw [h3]
    simp only [go_sem, h3]
    exact fun ρ a w hs _ => ⟨rfl, hs.grown⟩
  · simp only [go_sem, h3]
    exact fun ρ a w hs _ => ⟨rfl, hs.grown⟩
theorem imm_cells {C : Cx} {ρ : Env} {w : World} {n ty : Nat} {cs : List CV} (h : (Blk.cells ty cs).holds C ρ n w) (f m : Nat) {rv : Nat → List Value} (hm : f + m ≤ cs.length) (hr : ∀ i, i < m → rv i = [(cs.getD (f + i) (.v undef)).den ρ]) : ImmAt w (ρ n).blk ((ρ n).base + f * (ρ n).esz) 1 m rv := by
  obtain ⟨h0, h1, h2, h3⟩ := h
  refine ⟨fun _ => lt_of_heap h1, fun i hi => by rw [hr i hi]; rfl, fun i hi u hu => ?_⟩
  have : u = 0 := by omega
  subst this
  rw [hr i hi]
  have hlt : f + i < cs.length := by omega
  simp [World.cell?, h1, h0, h3, List.getD_eq_getElem?_getD, List.getElem?_eq_getElem hlt]
set_option maxHeartbeats 1000000 in
set_option maxRecDepth 100000 in
theorem ord_c (s t : Stp) (w : World) : Calls Try.prog 67 #[s.val, t.val] w fun e w' => e = .returned (.int .i64 (s.ord t)) ∧ Below w.heap.size w w' := by
  obtain ⟨⟨a0, a1, a2, a3⟩, p⟩ := s
  obtain ⟨⟨b0, b1, b2, b3⟩, q⟩ := t
  refine calls_pure 27 _ Try.func67 rfl Try.ntmps67 Try.results67 [sst a0 a1 a2 a3 p, sst b0 b1 b2 b3 q] (by simp) (fun _ => rfl) ?_
  by_cases he : (⟨⟨a0, a1, a2, a3⟩, p⟩ : Stp) = ⟨⟨b0, b1, b2, b3⟩, q⟩
  · rw [he]
    have e : Stp.ord ⟨⟨b0, b1, b2, b3⟩, q⟩ ⟨⟨b0, b1, b2, b3⟩, q⟩ = 0 := by unfold Stp.ord; rw [if_pos rfl]
    rw [e]
    injection he with h1 h2
    injection h1 with h3 h4 h5 h6
    subst h2; subst h3; subst h4; subst h5; subst h6
    simp only [go_sem]
    exact fun ρ a w hs _ => ⟨rfl, hs.grown⟩
  have e : Stp.ord ⟨⟨a0, a1, a2, a3⟩, p⟩ ⟨⟨b0, b1, b2, b3⟩, q⟩ = or2 (cmpI (V4.sum ⟨a0, a1, a2, a3⟩) (V4.sum ⟨b0, b1, b2, b3⟩)) (or2 (cmpI p q) (vcmp ⟨a0, a1, a2, a3⟩ ⟨b0, b1, b2, b3⟩)) := by unfold Stp.ord; rw [if_neg he]
  rw [e]
  obtain ⟨z, hz⟩ : ∃ z, (decide (a0 = b0) && (decide (a1 = b1) && (decide (a2 = b2) && (decide (a3 = b3) && decide (p = q))))) = z := ⟨_, rfl⟩
  have hzf : z = false := by
    rw [← hz]
    simp only [Stp.mk.injEq, V4.mk.injEq] at he
    simp only [Bool.and_eq_false_iff, decide_eq_false_iff_not]
    omega
  rw [hzf] at hz
  simp only [go_sem, hz]
  refine sdraw0 [.t 0, .t 1, .t 3, .t 4, .t 7, .t 8, .t 9, .t 10, .t 12, .t 13, .t 14, .t 15, .r 2, .r 5, .r 6, .r 11, .r 16, .r 17, .r 18, .t 19] 20 rfl (by kernel_rfl) ?_
  simp only [go_sem]
  refine sum_s ?_
  simp only [go_sem]
  refine sum_s ?_
  simp only [go_sem]
  refine cmpu_s ?_
  simp only [go_sem]
  refine cmpi_s ?_
  simp only [go_sem]
  refine scall_keep (.c (ci (vcmp ⟨a0, a1, a2, a3⟩ ⟨b0, b1, b2, b3⟩))) Try.call84 (fun ρ w' a hs => ?_) rfl (fun _ _ _ => rfl) ?_
  · have h0 := hs.now.hp 0 _ (mem_hget rfl)
    have h1 := hs.now.hp 1 _ (mem_hget rfl)
    have := vcmp_c w' ⟨a0, a1, a2, a3⟩ ⟨b0, b1, b2, b3⟩ (imm_cells h0 0 4 (rv := fun i => [vu (V4.nth ⟨a0, a1, a2, a3⟩ i)]) (by simp) (fun i hi => by
      have : i = 0 ∨ i = 1 ∨ i = 2 ∨ i = 3 := by omega
      rcases this with rfl | rfl | rfl | rfl <;> rfl)) (imm_cells h1 0 4 (rv := fun i => [vu (V4.nth ⟨b0, b1, b2, b3⟩ i)]) (by simp) (fun i hi => by
      have : i = 0 ∨ i = 1 ∨ i = 2 ∨ i = 3 := by omega
      rcases this with rfl | rfl | rfl | rfl <;> rfl))
    simpa [SV.denL, SV.den, CV.den] using this
  simp only [go_sem]
  refine scall_in 18 _ Try.func81 rfl Try.ntmps81 Try.results81 Try.call81 (by simp only [go_sem]) (fun _ _ => ?_)
  simp only [go_sem]
  refine sloop_rounds 4 ?_
  obtain ⟨z1, h1⟩ : ∃ z, cmpI (V4.sum ⟨a0, a1, a2, a3⟩) (V4.sum ⟨b0, b1, b2, b3⟩) = z := ⟨_, rfl⟩
  obtain ⟨z2, h2⟩ : ∃ z, cmpI p q = z := ⟨_, rfl⟩
  obtain ⟨z3, h3⟩ : ∃ z, vcmp ⟨a0, a1, a2, a3⟩ ⟨b0, b1, b2, b3⟩ = z := ⟨_, rfl⟩
  rw [h1, h2, h3]
  unfold or2
  by_cases k1 : z1 = 0
  · rw [if_pos k1]
    by_cases k2 : z2 = 0
    · rw [if_pos k2]
      by_cases k3 : z3 = 0
      · simp only [go_sem, k1, k2, k3]
        exact fun ρ a w hs _ => ⟨rfl, hs.grown⟩
      · simp only [go_sem, k1, k2, k3]
        exact fun ρ a w hs _ => ⟨rfl, hs.grown⟩
    · rw [if_neg k2]
      simp only [go_sem, k1, k2]
      exact fun ρ a w hs _ => ⟨rfl, hs.grown⟩
  · rw [if_neg k1]
    simp only [go_sem, k1]
    exact fun ρ a w hs _ => ⟨rfl, hs.grown⟩
theorem n_c (s : Stp) (w : World) : Calls Try.prog 31 #[s.val] w fun e w' => e = .returned (vu s.n) ∧ Below w.heap.size w w' := by
  obtain ⟨⟨a0, a1, a2, a3⟩, p⟩ := s
  refine calls_pure 8 _ Try.func31 rfl Try.ntmps31 Try.results31 [sst a0 a1 a2 a3 p] (by simp) (fun _ => rfl) ?_
  simp only [go_sem]
  refine at_s ?_
  simp only [go_sem]
  exact fun ρ a w hs _ => ⟨rfl, hs.grown⟩
theorem seen_c' (s : Stp) (at' : V4) (w : World) : Calls Try.prog 71 #[s.val, at'.v] w fun e w' => e = .returned (.bool (s.seen at')) ∧ Below w.heap.size w w' := by
  obtain ⟨⟨a0, a1, a2, a3⟩, p⟩ := s
  obtain ⟨b0, b1, b2, b3⟩ := at'
  refine calls_pure 9 _ Try.func71 rfl Try.ntmps71 Try.results71 [sst a0 a1 a2 a3 p, sv4 b0 b1 b2 b3] (by simp) (fun _ => rfl) ?_
  simp only [go_sem]
  refine leq_s ?_
  simp only [go_sem]
  exact fun ρ a w hs _ => ⟨rfl, hs.grown⟩
section
variable {C : Cx} {fr : List (Nat × SV)} {hp : List (Nat × Blk)} {nx : Nat} {d : Option Tmp} {K : St → Prop} {a0 a1 a2 a3 p b0 b1 b2 b3 q : Int}
theorem ord_s (h : dOk C.N d ∧ kput K ⟨fr, hp, nx⟩ d (.c (ci (Stp.ord ⟨⟨a0, a1, a2, a3⟩, p⟩ ⟨⟨b0, b1, b2, b3⟩, q⟩)))) : SCall Try.prog C 67 [sst a0 a1 a2 a3 p, sst b0 b1 b2 b3 q] d K ⟨fr, hp, nx⟩ :=
  scall_pure [Stp.val ⟨⟨a0, a1, a2, a3⟩, p⟩, Stp.val ⟨⟨b0, b1, b2, b3⟩, q⟩] _ _ Try.call67 (ord_c _ _) rfl (fun _ => rfl) (fun _ => rfl) h
theorem n_s (h : dOk C.N d ∧ kput K ⟨fr, hp, nx⟩ d (.c (cu (Stp.n ⟨⟨a0, a1, a2, a3⟩, p⟩)))) : SCall Try.prog C 31 [sst a0 a1 a2 a3 p] d K ⟨fr, hp, nx⟩ :=
  scall_pure [Stp.val ⟨⟨a0, a1, a2, a3⟩, p⟩] _ _ Try.call31 (n_c _) rfl (fun _ => rfl) (fun _ => rfl) h
theorem seen_s (h : dOk C.N d ∧ kput K ⟨fr, hp, nx⟩ d (.c (.v (.bool (Stp.seen ⟨⟨a0, a1, a2, a3⟩, p⟩ ⟨b0, b1, b2, b3⟩))))) : SCall Try.prog C 71 [sst a0 a1 a2 a3 p, sv4 b0 b1 b2 b3] d K ⟨fr, hp, nx⟩ :=
  scall_pure [Stp.val ⟨⟨a0, a1, a2, a3⟩, p⟩, V4.v ⟨b0, b1, b2, b3⟩] _ _ Try.call71 (seen_c' _ _) rfl (fun _ => rfl) (fun _ => rfl) h
end
theorem sright_c (s : Stp) (w : World) : Calls Try.prog 50 #[s.val] w fun e w' => e = .returned (.bool s.right) ∧ Below w.heap.size w w' := by
  obtain ⟨⟨a0, a1, a2, a3⟩, p⟩ := s
  refine calls_pure 11 _ Try.func50 rfl Try.ntmps50 Try.results50 [sst a0 a1 a2 a3 p] (by simp) (fun _ => rfl) ?_
  unfold Stp.right
  simp only [go_sem]
  refine right_s ?_
  cases h : V4.right ⟨a0, a1, a2, a3⟩
  · simp only [go_sem]
    exact fun ρ a w hs _ => ⟨rfl, hs.grown⟩
  · simp only [go_sem]
    refine n_s ?_
    simp only [go_sem]
    exact fun ρ a w hs _ => ⟨rfl, hs.grown⟩
section
variable {C : Cx} {fr : List (Nat × SV)} {hp : List (Nat × Blk)} {nx : Nat} {d : Option Tmp} {K : St → Prop} {a0 a1 a2 a3 p : Int}
theorem sright_s (h : dOk C.N d ∧ kput K ⟨fr, hp, nx⟩ d (.c (.v (.bool (Stp.right ⟨⟨a0, a1, a2, a3⟩, p⟩))))) : SCall Try.prog C 50 [sst a0 a1 a2 a3 p] d K ⟨fr, hp, nx⟩ :=
  scall_pure [Stp.val ⟨⟨a0, a1, a2, a3⟩, p⟩] _ _ Try.call50 (sright_c _) rfl (fun _ => rfl) (fun _ => rfl) h
end
end Go.Proofs.Ytagjblkfgjcmnaa
namespace Go.Proofs.Ytagjblkfgjcmnaa
open Go.RowKit Go.Sx
def Wr.val (x : Wr) : Value := .agg x.l.toArray
abbrev Wr.c (x : Wr) : List CV := [.v (.string x.b), .v (.string x.k), .v (.string x.x), .v (.bool x.g)]
end Go.Proofs.Ytagjblkfgjcmnaa
namespace Go.Proofs.Ytagjblkfgjcmnaa
open Go.RowKit Go.Sx
attribute [local go_sem ↓] reduceIte
attribute [local go_sem] Nat.reduceEqDiff Nat.reduceLT Nat.reduceLeDiff Nat.reduceAdd Nat.reduceMul Nat.reduceSub Nat.reduceDiv Nat.reduceMod Int.reduceToNat Int.reduceLT Int.reduceLE Int.reduceAdd Int.reduceSub Int.reduceMul Int.reduceEq Int.reduceNeg reduceCtorEq or_false false_or decide_true decide_false Int.cast_ofNat_Int Nat.zero_add Nat.add_zero Int.toNat_natCast Option.isNone_none Option.isNone_some Bool.not_true Bool.not_false Bool.xor_true Bool.xor_false Bool.true_xor Bool.false_xor Bool.and_true Bool.true_and Bool.and_false Bool.false_and eq_self ne_eq not_false_eq_true not_true_eq_false true_and and_true and_self
def nmd (s : ByteArray) : Bool := !decide (s = ⟨#[]⟩) && decide ((s.size : Int) ≤ 16)
theorem named_c (s : ByteArray) (w : World) : Calls Try.prog 74 #[.string s] w fun e w' => e = .returned (.bool (nmd s)) ∧ Below w.heap.size w w' := by
  refine calls_pure 10 _ Try.func74 rfl Try.ntmps74 Try.results74 [.c (.v (.string s))] (by simp) (fun _ => rfl) ?_
  unfold nmd
  obtain ⟨b1, h1⟩ : ∃ b, decide (s = ⟨#[]⟩) = b := ⟨_, rfl⟩
  obtain ⟨b2, h2⟩ : ∃ b, decide ((s.size : Int) ≤ 16) = b := ⟨_, rfl⟩
  rw [h1, h2]
  cases b1
  · simp only [go_sem, h1, h2]
    exact fun ρ a w hs _ => ⟨rfl, hs.grown⟩
  · simp only [go_sem, h1, h2]
    exact fun ρ a w hs _ => ⟨rfl, hs.grown⟩
theorem named_s {C : Cx} {fr : List (Nat × SV)} {hp : List (Nat × Blk)} {nx : Nat} {d : Option Tmp} {K : St → Prop} {s : ByteArray} (h : dOk C.N d ∧ kput K ⟨fr, hp, nx⟩ d (.c (.v (.bool (nmd s))))) : SCall Try.prog C 74 [.c (.v (.string s))] d K ⟨fr, hp, nx⟩ :=
  scall_pure [.string s] _ (.bool (nmd s)) Try.call74 (named_c s) rfl (fun _ => rfl) (fun _ => rfl) h
def Wr.right (x : Wr) : Bool := nmd x.b && (nmd x.k && (decide ((x.x.size : Int) ≤ 32) && (decide (x.x = ⟨#[]⟩) || !x.g)))
set_option maxRecDepth 100000 in
theorem wright_c (x : Wr) (w : World) : Calls Try.prog 49 #[x.val] w fun e w' => e = .returned (.bool x.right) ∧ Below w.heap.size w w' := by
  refine calls_pure 27 _ Try.func49 rfl Try.ntmps49 Try.results49 [.agg x.c] (by simp) (fun _ => rfl) ?_
  obtain ⟨bk, ky, vl, gone⟩ := x
  unfold Wr.right
  dsimp only
  obtain ⟨b1, h1⟩ : ∃ b, nmd bk = b := ⟨_, rfl⟩
  obtain ⟨b2, h2⟩ : ∃ b, nmd ky = b := ⟨_, rfl⟩
  obtain ⟨b3, h3⟩ : ∃ b, decide ((vl.size : Int) ≤ 32) = b := ⟨_, rfl⟩
  obtain ⟨b4, h4⟩ : ∃ b, decide (vl = ⟨#[]⟩) = b := ⟨_, rfl⟩
  rw [h1, h2, h3, h4]
  simp only [go_sem]
  refine named_s ?_
  rw [h1]
  cases b1
  · simp only [go_sem]
    exact fun ρ a w hs _ => ⟨rfl, hs.grown⟩
  simp only [go_sem]
  refine named_s ?_
  rw [h2]
  cases b2
  · simp only [go_sem]
    exact fun ρ a w hs _ => ⟨rfl, hs.grown⟩
  cases b3
  · simp only [go_sem, h3]
    exact fun ρ a w hs _ => ⟨rfl, hs.grown⟩
  cases b4 <;> cases gone
  all_goals
    simp only [go_sem, h3, h4]
    exact fun ρ a w hs _ => ⟨rfl, hs.grown⟩
end Go.Proofs.Ytagjblkfgjcmnaa
namespace Go.Proofs.Ytagjblkfgjcmnaa
open Go.RowKit Go.Sx Go.Conc
def LnAt (l c cap : Nat) (buf : List Value) (s r : Nat) (w : World) : Prop := w.heap[l]? = some (.cells #[.chan (some c)] 135 (0, 0)) ∧ w.heap[c]? = some (.chan cap buf.toArray false s r false)
theorem LnAt.cell {l c cap : Nat} {buf : List Value} {s r : Nat} {w : World} (h : LnAt l c cap buf s r w) : w.cell? ⟨l, 0, none⟩ = some (.chan (some c)) := by
  simp [World.cell?, h.1]
theorem LnAt.ltl {l c cap : Nat} {buf : List Value} {s r : Nat} {w : World} (h : LnAt l c cap buf s r w) : l < w.heap.size := (Array.getElem?_eq_some_iff.1 h.1).1
theorem LnAt.ltc {l c cap : Nat} {buf : List Value} {s r : Nat} {w : World} (h : LnAt l c cap buf s r w) : c < w.heap.size := (Array.getElem?_eq_some_iff.1 h.2).1
theorem cells_set {W : World} {B : Nat} {t : TypeId} {cs : Array Value} (q : Nat) (v : Value) (h : W.heap[B]? = some (.cells cs t (0, 0))) : (W.setCell ⟨B, q, none⟩ v).heap[B]? = some (.cells (cs.setIfInBounds q v) t (0, 0)) := by
  show (W.heap.modify B _)[B]? = _
  rw [Array.getElem?_modify, if_pos rfl, h]
  simp
theorem setChan_alloc {w : World} {c : Nat} (hc : c < w.heap.size) (o : Obj) (cap : Nat) (buf : Array Value) (cl : Bool) (s r : Nat) (tm : Bool) : Below w.heap.size (w.setChan c cap buf cl s r tm) ((w.alloc o).setChan c cap buf cl s r tm) :=
  ⟨rfl, rfl, rfl, by simp [World.setChan], fun k hk => by
    show ((w.heap.push o).setIfInBounds c _)[k]? = (w.heap.setIfInBounds c _)[k]?
    rw [Array.getElem?_setIfInBounds, Array.getElem?_setIfInBounds, Array.getElem?_push]
    by_cases h : c = k
    · subst h; simp [hc]; omega
    · rw [if_neg h, if_neg h, if_neg (by omega)]⟩
set_option maxRecDepth 100000 in
theorem llen_c {l c cap : Nat} {buf : List Value} {s r : Nat} (w : World) (h : LnAt l c cap buf s r w) : Calls Try.prog 58 #[gptr l] w fun e w' => e = .returned (.int .i64 (buf.length : Nat)) ∧ Below w.heap.size w w' := by
  refine calls_of_loneTo fun cs => ?_
  have e : Frame.enter Try.prog 58 #[gptr l] .normal = (base 58).at ⟨#[gptr l, undef, undef, undef, undef, undef, undef, undef], []⟩ [.code (Try.f58.body.getD .skip)] := by
    simp [Frame.enter, Frame.at, Try.func58, base, Try.f58]
  rw [e]
  have hcell := h.cell
  have hlen := fun ty => run_len_chan (P := Try.prog) 133 ty Try.underlying133 h.2
  refine LoneTo.goes (n := 30) ?_
  simp only [Try.f58, Option.getD_some, gptr]
  s_c stepG_seq
  s_reg
  s_op
  s_c stepG_region_end
  s_c stepG_seq
  s_reg
  s_op
  s_op
  s_op
  s_op
  s_op
  s_op
  s_c stepG_region_end
  s_c stepG_ret'
  s_stop
  refine LoneTo.done ⟨.returned (.int .i64 (buf.length : Nat)), _, rfl, ⟨rfl, Below.refl _ w⟩, rfl, rfl, rfl, rfl, _, Try.func58, by simp [results, Try.f58, Frame.at]⟩
set_option maxRecDepth 100000 in
theorem lroom_c {l c cap : Nat} {buf : List Value} {s r : Nat} (w : World) (h : LnAt l c cap buf s r w) : Calls Try.prog 59 #[gptr l] w fun e w' => e = .returned (.int .i64 (cap : Nat)) ∧ Below w.heap.size w w' := by
  refine calls_of_loneTo fun cs => ?_
  have e : Frame.enter Try.prog 59 #[gptr l] .normal = (base 59).at ⟨#[gptr l, undef, undef, undef, undef, undef, undef, undef], []⟩ [.code (Try.f59.body.getD .skip)] := by
    simp [Frame.enter, Frame.at, Try.func59, base, Try.f59]
  rw [e]
  have hcell := h.cell
  have hcap := fun ty => run_cap_chan (P := Try.prog) 133 ty Try.underlying133 h.2
  refine LoneTo.goes (n := 30) ?_
  simp only [Try.f59, Option.getD_some, gptr]
  s_c stepG_seq
  s_reg
  s_op
  s_c stepG_region_end
  s_c stepG_seq
  s_reg
  s_op
  s_op
  s_op
  s_op
  s_op
  s_op
  s_c stepG_region_end
  s_c stepG_ret'
  s_stop
  refine LoneTo.done ⟨.returned (.int .i64 (cap : Nat)), _, rfl, ⟨rfl, Below.refl _ w⟩, rfl, rfl, rfl, rfl, _, Try.func59, by simp [results, Try.f59, Frame.at]⟩
set_option maxRecDepth 100000 in
theorem lput_c {l c cap : Nat} {buf : List Value} {s r : Nat} (a0 a1 a2 a3 a4 x : Value) (w : World) (h : LnAt l c cap buf s r w) : Calls Try.prog 52 #[gptr l, .agg #[a0, a1, a2, a3, a4, x]] w fun e w' =>
    if buf.length < cap then e = .returned (.bool true) ∧ Below w.heap.size (w.setChan c cap (buf ++ [Value.agg #[a0, a1, a2, a3, a4, x]]).toArray false (s + 1) r false) w' else e = .returned (.bool false) ∧ Below w.heap.size w w' := by
  refine calls_of_loneTo (fun cs => ?_) (by intro w' hh; split at hh <;> exact absurd hh.1 (by simp))
  have e : Frame.enter Try.prog 52 #[gptr l, .agg #[a0, a1, a2, a3, a4, x]] .normal = (base 52).at ⟨#[gptr l, .agg #[a0, a1, a2, a3, a4, x], undef, undef, undef, undef, undef, undef, undef, undef, undef, undef, undef], []⟩ [.code (Try.f52.body.getD .skip)] := by
    simp [Frame.enter, Frame.at, Try.func52, base, Try.f52]
  rw [e]
  have hb : Below w.heap.size w (w.alloc (.cells #[a0, a1, a2, a3, a4, x] 95)) := (Below.refl _ w).alloc (Nat.le_refl _) _
  have hcell := (hb.cell (p := ⟨l, 0, none⟩) h.ltl).trans h.cell
  have hch := (hb.block c h.ltc).trans h.2
  refine LoneTo.goes (n := 40) ?_
  simp only [Try.f52, Option.getD_some, gptr]
  s_c stepG_seq
  s_reg
  s_op
  s_op
  s_c stepG_region_end
  s_c stepG_seq
  s_c stepG_seq
  s_reg
  repeat s_op
  s_c stepG_region_end
  s_reg
  repeat s_op
  s_c stepG_region_end
  s_c stepG_seq
  s_reg
  s_stop
  obtain ⟨z, hz, _⟩ := zero_of (P := Try.prog) tz95 (w.alloc (.cells #[a0, a1, a2, a3, a4, x] 95))
  by_cases hlt : buf.length < cap
  · simp only [hlt, if_true]
    refine LoneTo.step (step_lone_select_send_room (c := c) (v := .agg #[a0, a1, a2, a3, a4, x]) (z' := z) (cap := cap) (buf := buf.toArray) (s := s) (r := r) (tm := false) (stepG_comm (cases := #[scase c (.agg #[a0, a1, a2, a3, a4, x]) z]) (blocking := false) (shape := .select) (w' := w.alloc (.cells #[a0, a1, a2, a3, a4, x] 95)) rfl rfl (by decide) (by simp [go_sem, execOp, scase, Act.eval, hz])) hch (by simpa using hlt)) ?_
    rw [Frame.finish_at]
    walk_nrm
    refine LoneTo.goes (n := 20) ?_
    repeat s_op
    s_c stepG_region_end
    s_c stepG_block
    s_cond true
    s_c stepG_seq
    s_reg
    repeat s_op
    s_c stepG_region_end
    s_c stepG_ret'
    s_stop
    refine LoneTo.done ⟨.returned (.bool true), _, rfl, ⟨rfl, setChan_alloc h.ltc _ _ _ _ _ _ _⟩, rfl, rfl, rfl, rfl, _, Try.func52, by simp [results, Try.f52, Frame.at]⟩
  · simp only [hlt, if_false]
    refine LoneTo.step (step_lone_select_send_full (c := c) (v := .agg #[a0, a1, a2, a3, a4, x]) (z' := z) (cap := cap) (buf := buf.toArray) (s := s) (r := r) (tm := false) (stepG_comm (cases := #[scase c (.agg #[a0, a1, a2, a3, a4, x]) z]) (blocking := false) (shape := .select) (w' := w.alloc (.cells #[a0, a1, a2, a3, a4, x] 95)) rfl rfl (by decide) (by simp [go_sem, execOp, scase, Act.eval, hz])) hch (by simpa using hlt)) ?_
    rw [Frame.finish_at]
    walk_nrm
    refine LoneTo.goes (n := 20) ?_
    repeat s_op
    s_c stepG_region_end
    s_c stepG_block
    s_cond false
    s_c stepG_seq
    s_reg
    repeat s_op
    s_c stepG_region_end
    s_c stepG_ret'
    s_stop
    refine LoneTo.done ⟨.returned (.bool false), _, rfl, ⟨rfl, hb⟩, rfl, rfl, rfl, rfl, _, Try.func52, by simp [results, Try.f52, Frame.at]⟩
set_option maxRecDepth 100000 in
set_option maxHeartbeats 800000 in
theorem ltake_c {l c cap : Nat} {buf : List Value} {s r : Nat} (w : World) (h : LnAt l c cap buf s r w) (hall : ∀ v, v ∈ buf → ∃ (a0 a1 a2 a3 a4 : Int) (x : Option Addr) (y z : Nat), v = .agg #[.int .u64 a0, .int .u64 a1, .int .u64 a2, .int .u64 a3, .int .i64 a4, .slice x y z]) : Calls Try.prog 38 #[gptr l] w fun e w' =>
    match buf with
    | [] => e = .returned (.tuple #[.agg #[.int .u64 0, .int .u64 0, .int .u64 0, .int .u64 0, .int .i64 0, .slice none 0 0], .bool false]) ∧ Below w.heap.size w w'
    | v :: rest => e = .returned (.tuple #[v, .bool true]) ∧ Below w.heap.size (w.setChan c cap rest.toArray false s (r + 1) false) w' := by
  refine calls_of_loneTo (fun cs => ?_) (by intro w' hh; split at hh <;> exact absurd hh.1 (by simp))
  have e : Frame.enter Try.prog 38 #[gptr l] .normal = (base 38).at ⟨#[gptr l, undef, undef, undef, undef, undef, undef, undef, undef, undef, undef, undef, undef, undef], []⟩ [.code (Try.f38.body.getD .skip)] := by
    simp [Frame.enter, Frame.at, Try.func38, base, Try.f38]
  rw [e]
  obtain ⟨Z, hZ⟩ : ∃ Z : Array Value, Z = #[.int .u64 0, .int .u64 0, .int .u64 0, .int .u64 0, .int .i64 0, .slice none 0 0] := ⟨_, rfl⟩
  have hz : ∀ w' : World, (zeroValue 95).run Try.prog w' = .ok (.agg #[.int .u64 0, .int .u64 0, .int .u64 0, .int .u64 0, .int .i64 0, .slice none 0 0]) w' := fun w' => by simp [go_sem]
  have hb : Below w.heap.size w (w.alloc (.cells #[.int .u64 0, .int .u64 0, .int .u64 0, .int .u64 0, .int .i64 0, .slice none 0 0] 95)) := (Below.refl _ w).alloc (Nat.le_refl _) _
  have hcell := (hb.cell (p := ⟨l, 0, none⟩) h.ltl).trans h.cell
  have hch := (hb.block c h.ltc).trans h.2
  rcases buf with _ | ⟨v, rest⟩
  · have hch : (w.alloc (.cells #[.int .u64 0, .int .u64 0, .int .u64 0, .int .u64 0, .int .i64 0, .slice none 0 0] 95)).heap[c]? = some (.chan cap #[] false s r false) := hch
    refine LoneTo.goes (n := 40) ?_
    simp only [Try.f38, Option.getD_some, gptr]
    s_c stepG_seq
    s_reg
    repeat s_op
    s_c stepG_region_end
    s_c stepG_seq
    s_reg
    repeat s_op
    s_c stepG_region_end
    s_c stepG_seq
    s_reg
    s_stop
    refine LoneTo.step (step_lone_select_default (c := c) (z := (.agg #[.int .u64 0, .int .u64 0, .int .u64 0, .int .u64 0, .int .i64 0, .slice none 0 0])) (cap := cap) (s := s) (r := r) (tm := false) (stepG_comm (cases := #[rcase c (.agg #[.int .u64 0, .int .u64 0, .int .u64 0, .int .u64 0, .int .i64 0, .slice none 0 0])]) (blocking := false) (shape := .select) (w' := (w.alloc (.cells #[.int .u64 0, .int .u64 0, .int .u64 0, .int .u64 0, .int .i64 0, .slice none 0 0] 95))) rfl rfl (by decide) (by simp [go_sem, execOp, rcase, Act.eval, hz])) hch) ?_
    rw [Frame.finish_at]
    walk_nrm
    refine LoneTo.goes (n := 20) ?_
    repeat s_op
    s_c stepG_region_end
    s_c stepG_block
    s_cond false
    s_c stepG_seq
    s_reg
    repeat s_op
    s_c stepG_region_end
    s_c stepG_ret'
    s_stop
    refine LoneTo.done ⟨.returned (.tuple #[.agg #[.int .u64 0, .int .u64 0, .int .u64 0, .int .u64 0, .int .i64 0, .slice none 0 0], .bool false]), _, rfl, ⟨rfl, ?_⟩, rfl, rfl, rfl, rfl, _, Try.func38, by simp [results, Try.f38, Frame.at, go_sem]⟩
    repeat refine Below.setCell ?_ (by simp) _
    exact hb
  · obtain ⟨a0, a1, a2, a3, a4, x, y, z, rfl⟩ := hall v (by simp)
    have hch : (w.alloc (.cells #[.int .u64 0, .int .u64 0, .int .u64 0, .int .u64 0, .int .i64 0, .slice none 0 0] 95)).heap[c]? = some (.chan cap (.agg #[.int .u64 a0, .int .u64 a1, .int .u64 a2, .int .u64 a3, .int .i64 a4, .slice x y z] :: rest).toArray false s r false) := hch
    refine LoneTo.goes (n := 40) ?_
    simp only [Try.f38, Option.getD_some, gptr]
    s_c stepG_seq
    s_reg
    repeat s_op
    s_c stepG_region_end
    s_c stepG_seq
    s_reg
    repeat s_op
    s_c stepG_region_end
    s_c stepG_seq
    s_reg
    s_stop
    refine LoneTo.step (step_lone_select_recv_buf (c := c) (z := (.agg #[.int .u64 0, .int .u64 0, .int .u64 0, .int .u64 0, .int .i64 0, .slice none 0 0])) (cap := cap) (buf := (.agg #[.int .u64 a0, .int .u64 a1, .int .u64 a2, .int .u64 a3, .int .i64 a4, .slice x y z] :: rest).toArray) (closed := false) (s := s) (r := r) (tm := false) (stepG_comm (cases := #[rcase c (.agg #[.int .u64 0, .int .u64 0, .int .u64 0, .int .u64 0, .int .i64 0, .slice none 0 0])]) (blocking := false) (shape := .select) (w' := (w.alloc (.cells #[.int .u64 0, .int .u64 0, .int .u64 0, .int .u64 0, .int .i64 0, .slice none 0 0] 95))) rfl rfl (by decide) (by simp [go_sem, execOp, rcase, Act.eval, hz])) hch (by simp)) ?_
    rw [Frame.finish_at]
    walk_nrm
    have hrest : (Value.agg #[.int .u64 a0, .int .u64 a1, .int .u64 a2, .int .u64 a3, .int .i64 a4, .slice x y z] :: rest).toArray.extract 1 (rest.length + 1) = rest.toArray := by simp
    rw [hrest]
    have hlc : c ≠ w.heap.size := Nat.ne_of_lt h.ltc
    have hbx : ((w.alloc (.cells #[.int .u64 0, .int .u64 0, .int .u64 0, .int .u64 0, .int .i64 0, .slice none 0 0] 95)).setChan c cap rest.toArray false s (r + 1) false).heap[w.heap.size]? = some (.cells #[.int .u64 0, .int .u64 0, .int .u64 0, .int .u64 0, .int .i64 0, .slice none 0 0] 95 (0, 0)) := by
      show ((w.alloc (.cells #[.int .u64 0, .int .u64 0, .int .u64 0, .int .u64 0, .int .i64 0, .slice none 0 0] 95)).heap.setIfInBounds c _)[w.heap.size]? = _
      rw [Array.getElem?_setIfInBounds_ne hlc]
      exact heap_push_new w _
    have hb2 : Below w.heap.size (w.setChan c cap rest.toArray false s (r + 1) false) ((w.alloc (.cells #[.int .u64 0, .int .u64 0, .int .u64 0, .int .u64 0, .int .i64 0, .slice none 0 0] 95)).setChan c cap rest.toArray false s (r + 1) false) := setChan_alloc h.ltc _ _ _ _ _ _ _
    obtain ⟨w2, hw2⟩ : ∃ w2, (w.alloc (.cells #[.int .u64 0, .int .u64 0, .int .u64 0, .int .u64 0, .int .i64 0, .slice none 0 0] 95)).setChan c cap rest.toArray false s (r + 1) false = w2 := ⟨_, rfl⟩
    rw [hw2] at hbx hb2 ⊢
    have z0 : w2.cell? ⟨w.heap.size, 0, none⟩ = some (.int .u64 0) := by simp [World.cell?, hbx]
    have z1 : w2.cell? ⟨w.heap.size, 1, none⟩ = some (.int .u64 0) := by simp [World.cell?, hbx]
    have z2 : w2.cell? ⟨w.heap.size, 2, none⟩ = some (.int .u64 0) := by simp [World.cell?, hbx]
    have z3 : w2.cell? ⟨w.heap.size, 3, none⟩ = some (.int .u64 0) := by simp [World.cell?, hbx]
    have z4 : w2.cell? ⟨w.heap.size, 4, none⟩ = some (.int .i64 0) := by simp [World.cell?, hbx]
    have z5 : w2.cell? ⟨w.heap.size, 5, none⟩ = some (.slice none 0 0) := by simp [World.cell?, hbx]
    have gg : ∀ q, w2.frozen? ⟨w.heap.size, q, none⟩ = false := fun q => by simp [World.frozen?, hbx]
    have g0 := gg 0
    have g1 := gg 1
    have g2 := gg 2
    have g3 := gg 3
    have g4 := gg 4
    have g5 := gg 5
    refine LoneTo.goes (n := 20) ?_
    repeat s_op
    s_c stepG_region_end
    s_c stepG_block
    s_cond true
    s_c stepG_seq
    s_reg
    repeat s_op
    s_c stepG_region_end
    have hb3 := ((((((hb2.setCell (p := ⟨w.heap.size, 0, none⟩) (Nat.le_refl _) (.int .u64 a0)).setCell (p := ⟨w.heap.size, 1, none⟩) (Nat.le_refl _) (.int .u64 a1)).setCell (p := ⟨w.heap.size, 2, none⟩) (Nat.le_refl _) (.int .u64 a2)).setCell (p := ⟨w.heap.size, 3, none⟩) (Nat.le_refl _) (.int .u64 a3)).setCell (p := ⟨w.heap.size, 4, none⟩) (Nat.le_refl _) (.int .i64 a4)).setCell (p := ⟨w.heap.size, 5, none⟩) (Nat.le_refl _) (.slice x y z))
    have hbx3 := (cells_set 5 (.slice x y z) (cells_set 4 (.int .i64 a4) (cells_set 3 (.int .u64 a3) (cells_set 2 (.int .u64 a2) (cells_set 1 (.int .u64 a1) (cells_set 0 (.int .u64 a0) hbx))))))
    obtain ⟨w3, hw3⟩ : ∃ w3, ((((((w2.setCell ⟨w.heap.size, 0, none⟩ (.int .u64 a0)).setCell ⟨w.heap.size, 1, none⟩ (.int .u64 a1)).setCell ⟨w.heap.size, 2, none⟩ (.int .u64 a2)).setCell ⟨w.heap.size, 3, none⟩ (.int .u64 a3)).setCell ⟨w.heap.size, 4, none⟩ (.int .i64 a4)).setCell ⟨w.heap.size, 5, none⟩ (.slice x y z)) = w3 := ⟨_, rfl⟩
    rw [hw3] at hb3 hbx3 ⊢
    clear hw3 hw2 z0 z1 z2 z3 z4 z5 g0 g1 g2 g3 g4 g5 gg hbx
    have z0 : w3.cell? ⟨w.heap.size, 0, none⟩ = some (.int .u64 a0) := by simp [World.cell?, hbx3]
    have z1 : w3.cell? ⟨w.heap.size, 1, none⟩ = some (.int .u64 a1) := by simp [World.cell?, hbx3]
    have z2 : w3.cell? ⟨w.heap.size, 2, none⟩ = some (.int .u64 a2) := by simp [World.cell?, hbx3]
    have z3 : w3.cell? ⟨w.heap.size, 3, none⟩ = some (.int .u64 a3) := by simp [World.cell?, hbx3]
    have z4 : w3.cell? ⟨w.heap.size, 4, none⟩ = some (.int .i64 a4) := by simp [World.cell?, hbx3]
    have z5 : w3.cell? ⟨w.heap.size, 5, none⟩ = some (.slice x y z) := by simp [World.cell?, hbx3]
    have gg : ∀ q, w3.frozen? ⟨w.heap.size, q, none⟩ = false := fun q => by simp [World.frozen?, hbx3]
    have g0 := gg 0
    have g1 := gg 1
    have g2 := gg 2
    have g3 := gg 3
    have g4 := gg 4
    have g5 := gg 5
    s_c stepG_seq
    s_reg
    repeat s_op
    s_c stepG_region_end
    s_c stepG_ret'
    s_stop
    refine LoneTo.done ⟨.returned (.tuple #[.agg #[.int .u64 a0, .int .u64 a1, .int .u64 a2, .int .u64 a3, .int .i64 a4, .slice x y z], .bool true]), _, rfl, ⟨rfl, ?_⟩, rfl, rfl, rfl, rfl, _, Try.func38, by simp [results, Try.f38, Frame.at, go_sem, z0, z1, z2, z3, z4, z5]⟩
    repeat refine Below.setCell ?_ (by simp) _
    exact hb3
end Go.Proofs.Ytagjblkfgjcmnaa
namespace Go.Proofs.Ytagjblkfgjcmnaa
open Go.RowKit Go.Sx
attribute [local go_sem ↓] reduceIte
attribute [local go_sem] Nat.reduceEqDiff Nat.reduceLT Nat.reduceLeDiff Nat.reduceAdd Nat.reduceMul Nat.reduceSub Nat.reduceDiv Nat.reduceMod Int.reduceToNat Int.reduceLT Int.reduceLE Int.reduceAdd Int.reduceSub Int.reduceMul Int.reduceEq Int.reduceNeg reduceCtorEq or_false false_or decide_true decide_false Int.cast_ofNat_Int Nat.zero_add Nat.add_zero Int.toNat_natCast Option.isNone_none Option.isNone_some Bool.not_true Bool.not_false Bool.xor_true Bool.xor_false Bool.true_xor Bool.false_xor Bool.and_true Bool.true_and Bool.and_false Bool.false_and eq_self ne_eq not_false_eq_true not_true_eq_false true_and and_true and_self
def wrw (ws : List Wr) (j : Nat) : List Value := ((ws[j]?).map Wr.l).getD []
theorem wrw_eq {ws : List Wr} {j : Nat} {x : Wr} (h : ws[j]? = some x) : wrw ws j = x.l := by simp [wrw, h]
inductive WArg (hp : List (Nat × Blk)) (ws : List Wr) : CV → Prop where
  | nil (h : ws = []) : WArg hp ws (.v (.slice none 0 0))
  | rows (m c k cb : Nat) (r : Nat → List CV) (h : hget hp m = some (.rows 42 4 k cb r)) (hk : 0 < ws.length ∧ ws.length ≤ k) (hr : ∀ i, i < ws.length → r i = (wrw ws i).map .v) : WArg hp ws (.s m 0 ws.length c)
  | imm (m o c k : Nat) (r : Nat → List CV) (h : hget hp m = some (.imm 4 k r)) (hk : 0 < ws.length ∧ o + ws.length ≤ k) (hr : ∀ i, i < ws.length → r (o + i) = (wrw ws i).map .v) : WArg hp ws (.s m o ws.length c)
def idxW (p : Wr → Bool) (ws : List Wr) : Int := match ws.findIdx? p with
  | some i => i
  | none => -1
theorem idxW_some {p : Wr → Bool} {ws : List Wr} {i : Nat} {x : Wr} (hx : ws[i]? = some x) (hp : p x = true) (hn : ∀ q y, q < i → ws[q]? = some y → p y = false) : idxW p ws = i := by
  obtain ⟨h1, rfl⟩ := List.getElem?_eq_some_iff.1 hx
  have : ws.findIdx? p = some i := by
    rw [List.findIdx?_eq_some_iff_getElem]
    exact ⟨h1, hp, fun j hj => by rw [hn j _ hj (List.getElem?_eq_getElem (by omega))]; simp⟩
  simp [idxW, this]
theorem idxW_none {p : Wr → Bool} {ws : List Wr} (hn : ∀ q y, q < ws.length → ws[q]? = some y → p y = false) : idxW p ws = -1 := by
  have : ws.findIdx? p = none := by
    rw [List.findIdx?_eq_none_iff]
    intro x hx
    obtain ⟨i, hi, rfl⟩ := List.getElem_of_mem hx
    exact hn i _ hi (List.getElem?_eq_getElem hi)
  simp [idxW, this]
theorem idxW_any (p : Wr → Bool) (ws : List Wr) : decide (0 ≤ idxW p ws) = ws.any p := by
  unfold idxW
  cases h : ws.findIdx? p with
  | none =>
    rw [List.findIdx?_eq_none_iff] at h
    have : ws.any p = false := by
      rw [List.any_eq_false]
      intro x hx; rw [h x hx]; simp
    simp [this]
  | some i =>
    rw [List.findIdx?_eq_some_iff_getElem] at h
    obtain ⟨h1, h2, _⟩ := h
    have : ws.any p = true := List.any_eq_true.2 ⟨_, List.getElem_mem h1, h2⟩
    rw [this]; simp
section
variable {C : Cx} {fr : List (Nat × SV)} {hp : List (Nat × Blk)} {nx : Nat} {d : Option Tmp} {K : St → Prop}
set_option maxHeartbeats 1000000 in
theorem index_s {x : CV} {ws : List Wr} (hw : WArg hp ws x) (hlen : ws.length ≤ 1000000) (p : Wr → Bool) (f : Nat) (caps : List CV) (hf : ∀ (x : Wr) (d : Option Tmp) (K : St → Prop) (C : Cx) (fr : List (Nat × SV)) (nx' : Nat), nx ≤ nx' → dOk C.N d ∧ kput K ⟨fr, hp, nx'⟩ d (.c (.v (.bool (p x)))) → SCall Try.prog C f ([.agg x.c] ++ caps.map .c) d K ⟨fr, hp, nx'⟩)
    (hd : dOk C.N d) (hK : kput K ⟨fr, hp, nx⟩ d (.c (ci (idxW p ws)))) : SCall Try.prog C 76 [.c x, .c (.fn f caps)] d K ⟨fr, hp, nx⟩ := by
  have hrow : ∀ i y, ws[i]? = some y → (wrw ws i).map CV.v = y.c := fun i y h => by rw [wrw_eq h]; rfl
  cases hw with
  | nil h =>
    subst h
    refine scall_in 19 _ Try.func76 rfl Try.ntmps76 Try.results76 Try.call76 (by simp only [go_sem, hd]) (fun _ _ => ?_)
    simp only [go_sem]
    refine sloop_rounds 1 ?_
    simp only [go_sem]
    exact hK
  | rows m c k cb r h hk hr =>
    refine scall_in 19 _ Try.func76 rfl Try.ntmps76 Try.results76 Try.call76 (by simp only [go_sem, hd]) (fun _ _ => ?_)
    simp only [go_sem]
    refine sloop (fun i : Nat => ⟨[(0, .c (.s m 0 ws.length c)), (1, .c (.fn f caps)), (7, .c (ci ws.length)), (8, .c (ci i))], hp, nx⟩) (fun i => i ≤ ws.length ∧ ∀ q y, q < i → ws[q]? = some y → p y = false) (fun i => ws.length - i) 0
      ⟨by omega, fun q y hq => by omega⟩ (ent_fr ⟨rfl, rfl, rfl, rfl, trivial⟩) (fun i hi => ?_)
    obtain ⟨hi, hno⟩ : i ≤ ws.length ∧ ∀ q y, q < i → ws[q]? = some y → p y = false := hi
    by_cases hil : i < ws.length
    · obtain ⟨y, hy⟩ : ∃ y, ws[i]? = some y := ⟨_, List.getElem?_eq_getElem hil⟩
      have h1 := hr i hil
      rw [hrow i y hy] at h1
      simp (disch := omega) only [go_sem, wrapI64, wrapu64, wrapu32, wrapu8, ltT, ltF, leT, leF, eqF, eqT, nltT, nleT, neqFn, h, h1]
      refine hf y _ _ _ _ _ (Nat.le_refl _) ?_
      cases hp : p y
      · simp (disch := omega) only [go_sem, wrapI64, wrapu64, wrapu32, wrapu8, ltT, ltF, leT, leF, eqF, eqT, nltT, nleT, neqFn]
        refine ⟨i + 1, ⟨hil, fun q z hq hz => ?_⟩, by omega, ent_fr ⟨rfl, rfl, rfl, rfl, trivial⟩⟩
        rcases Nat.lt_or_ge q i with hqi | hqi
        · exact hno q z hqi hz
        · have : q = i := by omega
          rw [this, hy] at hz; injection hz with hz; rw [← hz]; exact hp
      · simp (disch := omega) only [go_sem, wrapI64, wrapu64, wrapu32, wrapu8, ltT, ltF, leT, leF, eqF, eqT, nltT, nleT, neqFn]
        rw [idxW_some hy hp hno] at hK
        exact hK
    · have hie : i = ws.length := by omega
      subst hie
      simp (disch := omega) only [go_sem, wrapI64, wrapu64, wrapu32, wrapu8, ltT, ltF, leT, leF, eqF, eqT, nltT, nleT, neqFn]
      rw [idxW_none hno] at hK
      exact hK
  | imm m o c k r h hk hr =>
    refine scall_in 19 _ Try.func76 rfl Try.ntmps76 Try.results76 Try.call76 (by simp only [go_sem, hd]) (fun _ _ => ?_)
    simp only [go_sem]
    refine sloop (fun i : Nat => ⟨[(0, .c (.s m o ws.length c)), (1, .c (.fn f caps)), (7, .c (ci ws.length)), (8, .c (ci i))], hp, nx⟩) (fun i => i ≤ ws.length ∧ ∀ q y, q < i → ws[q]? = some y → p y = false) (fun i => ws.length - i) 0
      ⟨by omega, fun q y hq => by omega⟩ (ent_fr ⟨rfl, rfl, rfl, rfl, trivial⟩) (fun i hi => ?_)
    obtain ⟨hi, hno⟩ : i ≤ ws.length ∧ ∀ q y, q < i → ws[q]? = some y → p y = false := hi
    by_cases hil : i < ws.length
    · obtain ⟨y, hy⟩ : ∃ y, ws[i]? = some y := ⟨_, List.getElem?_eq_getElem hil⟩
      have h1 := hr i hil
      rw [hrow i y hy] at h1
      simp (disch := omega) only [go_sem, wrapI64, wrapu64, wrapu32, wrapu8, ltT, ltF, leT, leF, eqF, eqT, nltT, nleT, neqFn, h, h1]
      refine hf y _ _ _ _ _ (Nat.le_refl _) ?_
      cases hp : p y
      · simp (disch := omega) only [go_sem, wrapI64, wrapu64, wrapu32, wrapu8, ltT, ltF, leT, leF, eqF, eqT, nltT, nleT, neqFn]
        refine ⟨i + 1, ⟨hil, fun q z hq hz => ?_⟩, by omega, ent_fr ⟨rfl, rfl, rfl, rfl, trivial⟩⟩
        rcases Nat.lt_or_ge q i with hqi | hqi
        · exact hno q z hqi hz
        · have : q = i := by omega
          rw [this, hy] at hz; injection hz with hz; rw [← hz]; exact hp
      · simp (disch := omega) only [go_sem, wrapI64, wrapu64, wrapu32, wrapu8, ltT, ltF, leT, leF, eqF, eqT, nltT, nleT, neqFn]
        rw [idxW_some hy hp hno] at hK
        exact hK
    · have hie : i = ws.length := by omega
      subst hie
      simp (disch := omega) only [go_sem, wrapI64, wrapu64, wrapu32, wrapu8, ltT, ltF, leT, leF, eqF, eqT, nltT, nleT, neqFn]
      rw [idxW_none hno] at hK
      exact hK
theorem contains_s {x : CV} {ws : List Wr} (hw : WArg hp ws x) (hlen : ws.length ≤ 1000000) (p : Wr → Bool) (f : Nat) (caps : List CV) (hf : ∀ (x : Wr) (d : Option Tmp) (K : St → Prop) (C : Cx) (fr : List (Nat × SV)) (nx' : Nat), nx ≤ nx' → dOk C.N d ∧ kput K ⟨fr, hp, nx'⟩ d (.c (.v (.bool (p x)))) → SCall Try.prog C f ([.agg x.c] ++ caps.map .c) d K ⟨fr, hp, nx'⟩)
    (hd : dOk C.N d) (hx : SV.ok (.c x) = true) (hK : kput K ⟨fr, hp, nx⟩ d (.c (.v (.bool (ws.any p))))) : SCall Try.prog C 51 [.c x, .c (.fn f caps)] d K ⟨fr, hp, nx⟩ := by
  refine scall_in 9 _ Try.func51 rfl Try.ntmps51 Try.results51 Try.call51 (by simp only [go_sem, hd, hx]) (fun _ _ => ?_)
  simp only [go_sem]
  refine index_s hw hlen p f caps hf (by show (7 : Nat) < 9; omega) ?_
  simp only [go_sem]
  have h := idxW_any p ws
  simp only [go_sem, h]
  exact hK
theorem wrow_one {ws : List Wr} {i : Nat} : ((wrw ws i).map CV.v).all one1 = true := by
  unfold wrw
  cases ws[i]? <;> rfl
set_option maxHeartbeats 1000000 in
theorem clone_s {x : CV} {ws : List Wr} (hw : WArg hp ws x) (hlen : ws.length ≤ 1000000) (hd : dOk C.N d) (hx : SV.ok (.c x) = true) (hK0 : ws = [] → kput K ⟨fr, hp, nx⟩ d (.c (.v (.slice none 0 0))))
    (hK1 : 0 < ws.length → ∀ c, ws.length ≤ c → kput K ⟨fr, (nx + 1, .rows 42 4 ws.length c fun i => (wrw ws i).map .v) :: hp, nx + 2⟩ d (.c (.s (nx + 1) 0 ws.length c))) : SCall Try.prog C 53 [.c x] d K ⟨fr, hp, nx⟩ := by
  refine scall_names (by simpa [SV.okL] using hx) fun hnm honce => ?_
  cases hw with
  | nil h =>
    refine scall_in 8 _ Try.func53 rfl Try.ntmps53 Try.results53 Try.call53 (by simp only [go_sem, hd]) (fun _ _ => ?_)
    simp only [go_sem]
    exact hK0 h
  | rows m c k cb r h hk hr =>
    have hlt := hget_lt hnm h
    have hh : hget ((nx, Blk.rows 42 4 0 0 (rowsOf 4 [])) :: hp) m = some (.rows 42 4 k cb r) := by rw [hget_cons, if_neg (by omega)]; exact h
    refine scall_in 8 _ Try.func53 rfl Try.ntmps53 Try.results53 Try.call53 (by simp only [go_sem, hd]) (fun _ _ => ?_)
    simp only [go_sem]
    refine sappendR (b := nx) (n := 0) (r2 := r) (fun i => (wrw ws i).map .v) hp (by rw [hrem, if_pos rfl, hrem_none hnm]) (fun i hi => by rw [← hr i (by omega)]; simp [rapp]) rfl rfl tkind49 tsz42 tby42 tz42 (by rw [hget_cons, if_pos rfl]) (by rw [hh]; rfl) ⟨⟨rfl, by decide, hk.1, Nat.le_refl _⟩, by omega, by omega, by omega⟩ (fun q hq => by rw [Nat.zero_add, hr q hq]; exact wrow_one) ⟨by show (7 : Nat) < 8; omega, fun c' hc' => ?_⟩
    simp only [go_sem]
    exact hK1 hk.1 c' (by omega)
  | imm m o c k r h hk hr =>
    have hlt := hget_lt hnm h
    have hh : hget ((nx, Blk.rows 42 4 0 0 (rowsOf 4 [])) :: hp) m = some (.imm 4 k r) := by rw [hget_cons, if_neg (by omega)]; exact h
    refine scall_in 8 _ Try.func53 rfl Try.ntmps53 Try.results53 Try.call53 (by simp only [go_sem, hd]) (fun _ _ => ?_)
    simp only [go_sem]
    refine sappendR (b := nx) (n := 0) (r2 := r) (fun i => (wrw ws i).map .v) hp (by rw [hrem, if_pos rfl, hrem_none hnm]) (fun i hi => by rw [← hr i (by omega)]; simp [rapp]) rfl rfl tkind49 tsz42 tby42 tz42 (by rw [hget_cons, if_pos rfl]) (by rw [hh]; rfl) ⟨⟨rfl, by decide, hk.1, Nat.le_refl _⟩, by omega, by omega, by omega⟩ (fun q hq => by rw [hr q hq]; exact wrow_one) ⟨by show (7 : Nat) < 8; omega, fun c' hc' => ?_⟩
    simp only [go_sem]
    exact hK1 hk.1 c' (by omega)
end
end Go.Proofs.Ytagjblkfgjcmnaa
