/-
  Parts of the proof: Sx6. Conditions: none.
-/
import Derived.Test.YtagjblkfgjcmnaaM5
set_option linter.unusedVariables false
set_option linter.unusedSimpArgs false
set_option linter.unusedSectionVars false
namespace Go.Sx
open Go.RowKit
section
variable {P : Program} {C : Cx} {st : St}

theorem QQ_n {Q : Exit → St → Prop} {st : St} {ρ0 ρ : Env} {a : Act} {w : World} {e : Exit} (h : Q e st) (hs : Sat C st ρ a w) (hρ : ∀ k, k < C.n0 → ρ k = ρ0 k) (he : (∀ c, e ≠ .panic c) ∧ e ≠ .outgrown) : QQ C ρ0 Q e a w := by
  cases e <;> first | exact ⟨st, ρ, h, hs, hρ⟩ | exact absurd rfl (he.1 _) | exact absurd rfl he.2

theorem nK_QQ {Q : Exit → St → Prop} {ρ0 : Env} (e : Exit) (a : Act) (w : World) (h : nK C ρ0 (Q .normal) e a w) : QQ C ρ0 Q e a w := by
  cases e <;> first | exact h | exact h.elim
theorem QQ_to {Q : Exit → St → Prop} {ρ ρ0 : Env} (hρ : ∀ k, k < C.n0 → ρ k = ρ0 k) (e : Exit) (a : Act) (w : World) (h : QQ C ρ Q e a w) : QQ C ρ0 Q e a w := by
  cases e <;> first | exact h.elim | (obtain ⟨st, ρ', h1, h2, h3⟩ := h; exact ⟨st, ρ', h1, h2, fun k hk => (h3 k hk).trans (hρ k hk)⟩)

theorem X_sound : ∀ (c : Code) (Q : Exit → St → Prop) (st : St), X P C c Q st → SCode P C c Q st
  | .skip, Q, st, h => fun ρ a w hs => wp_skip (QQ_n h hs (fun _ _ => rfl) (by simp))
  | .ret, Q, st, h => fun ρ a w hs => wp_ret (QQ_n h hs (fun _ _ => rfl) (by simp))
  | .exit id, Q, st, h => fun ρ a w hs => wp_exit (QQ_n h hs (fun _ _ => rfl) (by simp))
  | .seq x y, Q, st, h => fun ρ a w hs => by
    refine wp_seq (Code.wp_mono (fun e a w he => ?_) (X_sound x _ st h ρ a w hs))
    cases e with
    | normal =>
      obtain ⟨st', ρ', hq, hs', hag⟩ := he
      exact Code.wp_mono (QQ_to hag) (X_sound y Q st' hq ρ' a w hs')
    | panic c => exact he.elim
    | outgrown => exact he.elim
    | exit id => exact he
    | goto id => exact he
    | ret => exact he
  | .cond c t e, Q, st, h => fun ρ a w hs => by
    obtain ⟨b, hb, hT, hF⟩ := wB_out h
    have hv : a.eval c = .bool b := by rw [ev_c hs.fr' hb rfl]; rfl
    cases b with
    | true => exact wp_cond_true hv (X_sound t Q st (hT rfl) ρ a w hs)
    | false => exact wp_cond_false hv (X_sound e Q st (hF rfl) ρ a w hs)
  | .block id c, Q, st, h => fun ρ a w hs => by
    refine wp_block (Code.wp_mono (fun e a w he => ?_) (X_sound c _ st h ρ a w hs))
    cases e with
    | normal => exact he
    | panic c => exact he.elim
    | outgrown => exact he.elim
    | exit id' =>
      obtain ⟨st', ρ', hq, hs'⟩ := he
      simp only [Exit.inBlock]
      simp only [blockQ] at hq
      by_cases hid : id' = id
      · subst hid; simp at hq ⊢; exact ⟨st', ρ', hq, hs'⟩
      · have : Nat.beq id' id = false := by
          cases hb : Nat.beq id' id with
          | false => rfl
          | true => exact absurd (Nat.eq_of_beq_eq_true hb) hid
        rw [this] at hq
        simp only [cond_false] at hq
        rw [if_neg hid]; exact ⟨st', ρ', hq, hs'⟩
    | goto id => exact he
    | ret => exact he
  | .region id ops false, Q, st, h => fun ρ a w hs => wp_region_list (wpList_mono nK_QQ _ _ _ (XL_sound ops ops.toList (Q .normal) st h ρ ρ a w (fun _ _ => rfl) hs))
  | .region id ops true, Q, st, h => h
  | .loop c, Q, st, h => h
  | .rangeFunc f p x c, Q, st, h => h
  | .scope c, Q, st, h => h
  | .label l, Q, st, h => h
  | .goto l, Q, st, h => h
  | .refuse y, Q, st, h => h

def res1 (r : ResultVar) (tmps : Array Value) : Sem Value := match r with | .tmp t => pure (tmps.getD t undef) | .cell a t => do loadVar t (← asAddr (tmps.getD a undef))

theorem XRes1_out {r : ResultVar} {F : SV → Prop} (h : XRes1 P st r F) : ∃ x, F x ∧ x.ok = true ∧ ∀ (C : Cx) (ρ : Env) (a : Act) (w : World), FrOk st ρ a → HpOk C ρ w st.hp → (res1 r a.tmps).run P w = .ok (x.den ρ) w := by
  cases r with
  | tmp t =>
    obtain ⟨h1, h2⟩ := wOk_out h
    exact ⟨_, h2, h1, fun C ρ a w hf _ => by simp only [res1, Sem.run_pure]; rw [hf t h1]⟩
  | cell t ty =>
    obtain ⟨ag, hag, h⟩ := wO_out h
    obtain ⟨n, hn, h⟩ := wO_out h
    obtain ⟨b, i, f, hx, h⟩ := wP_out h
    obtain ⟨cs, hF, hl, hc⟩ := rdB_out h
    refine ⟨_, hF, mkV_ok hl, fun C ρ a w hf hp => ?_⟩
    have := loadVar_of hag hn (w := w) (a := ⟨(ρ b).blk, (ρ b).base + i * (ρ b).esz + f, none⟩) rfl hl (fun j hj => hc C ρ w hp j hj)
    have h2 := hf t (by rw [hx]; rfl)
    rw [hx] at h2
    simp only [res1]
    rw [h2]
    simp [SV.den, CV.den, asAddr, this]

theorem XResL_out : ∀ {rs : List ResultVar} {F : List SV → Prop}, XResL P st rs F → ∃ l, F l ∧ l.length = rs.length ∧ ∀ (C : Cx) (ρ : Env) (a : Act) (w : World), FrOk st ρ a → HpOk C ρ w st.hp → (rs.mapM (res1 · a.tmps)).run P w = .ok (SV.denL ρ l) w
  | [], F, h => ⟨[], h, rfl, fun C ρ a w _ _ => by simp [SV.denL]⟩
  | r :: rs, F, h => by
    obtain ⟨x, hx, _, h1⟩ := XRes1_out h
    obtain ⟨l, hl, hn, h2⟩ := XResL_out hx
    refine ⟨x :: l, hl, by simp [hn], fun C ρ a w hf hp => ?_⟩
    have e1 := h1 C ρ a w hf hp
    have e2 := h2 C ρ a w hf hp
    simp only [List.mapM_cons, Sem.run_bind, e1, Result.andThen_ok, e2, Sem.run_pure, SV.denL]

theorem results_out {fn : Func} {rs : List ResultVar} {F : List SV → Prop} (hr : fn.results = rs.toArray) (h : XResL P st rs F) :
    ∃ l, F l ∧ ∀ (C : Cx) (ρ : Env) (a : Act) (w : World), FrOk st ρ a → HpOk C ρ w st.hp → (results fn a.tmps).run P w = .ok ((tupSV l).den ρ) w := by
  obtain ⟨l, hl, hn, h1⟩ := XResL_out h
  refine ⟨l, hl, fun C ρ a w hf hp => ?_⟩
  have e1 := h1 C ρ a w hf hp
  have e2 : (rs.toArray.mapM (res1 · a.tmps)).run P w = .ok (SV.denL ρ l).toArray w := by
    rw [Array.mapM_eq_mapM_toList]
    simp [e1]
  have e3 : results fn a.tmps = (do let vs ← rs.toArray.mapM (res1 · a.tmps); pure (if h : vs.size = 1 then vs[0] else .tuple vs)) := by
    unfold results
    rw [hr]
    rfl
  rw [e3, Sem.run_bind, e2]
  simp only [Result.andThen_ok, Sem.run_pure]
  congr 1
  match l with
  | [] => simp [tupSV, SV.den, SV.denL]
  | [x] => simp [tupSV, SV.denL]
  | x :: y :: r => simp [tupSV, SV.den, SV.denL]
def frOf : Nat → List SV → List (Nat × SV)
  | _, [] => []
  | n, x :: r => (n, x) :: frOf (n + 1) r

theorem lk_frOf : ∀ (xs : List SV) (n t : Nat), lk (frOf n xs) t = if n ≤ t then (xs[t - n]?).getD .bad else .bad
  | [], n, t => by simp [frOf, lk]
  | x :: r, n, t => by
    simp only [frOf, lk]
    by_cases h : n = t
    · subst h; simp
    · have hb : Nat.beq n t = false := by
        cases hb : Nat.beq n t with
        | false => rfl
        | true => exact absurd (Nat.eq_of_beq_eq_true hb) h
      rw [hb, cond_false, lk_frOf r (n + 1) t]
      by_cases h1 : n ≤ t
      · rw [if_pos (by omega), if_pos h1, show t - n = (t - (n + 1)) + 1 by omega, List.getElem?_cons_succ]
      · rw [if_neg (by omega), if_neg h1]
theorem start_of {w0 w : World} {M : Nat → Prop} {n m nx : Nat} {xs : List SV} {hp : List (Nat × Blk)} {ρ ρ0 : Env} {args : Array Value} (hm : m = n - args.size) (hl : xs.length ≤ n) (ha : ∀ ρ' : Env, (∀ k, k < nx → ρ' k = ρ k) → args.toList = SV.denL ρ' xs)
    (hk : Keeps M w0 w) (hh : ∀ ρ' : Env, (∀ k, k < nx → ρ' k = ρ k) → HpOk ⟨w0, M, n, nx, ρ0⟩ ρ' w hp ∧ (footL ρ' hp).Nodup) (hnm : ∀ m b, (m, b) ∈ hp → m < nx) (h1 : (hp.map (·.1)).Nodup) (hpin : ∀ k, k < nx → ρ k = ρ0 k) :
    Sat ⟨w0, M, n, nx, ρ0⟩ ⟨frOf 0 xs, hp, nx⟩ ρ { tmps := args ++ Array.replicate m undef, defers := [] } w := fun ρ' hρ => by
  have hal : args.size = xs.length := by
    have := ha ρ fun _ _ => rfl
    rw [← Array.length_toList, this, SV.denL_eq, List.length_map]
  refine ⟨fun t ht => ?_, rfl, ⟨by simp; omega, fun k hk => (hρ k hk).trans (hpin k hk)⟩, hk, (hh ρ' hρ).1, (hh ρ' hρ).2, hnm, h1, Nat.le_refl _⟩
  simp only [lk_frOf, Nat.zero_le, if_true, Nat.sub_zero] at ht ⊢
  cases hx : xs[t]? with
  | none => rw [hx] at ht; cases ht
  | some x =>
    have hlt : t < xs.length := (List.getElem?_eq_some_iff.1 hx).1
    have e := ha ρ' hρ
    have e2 : args[t]? = some (x.den ρ') := by
      rw [← Array.getElem?_toList, e, SV.denL_eq, List.getElem?_map, hx]; rfl
    simp only [Option.getD_some]
    rw [Array.getD_eq_getD_getElem?, Array.getElem?_append_left (by omega), e2]; rfl
theorem calls_of {f : FuncId} {fn : Func} {c : Code} {args : Array Value} {w : World} {R : Ending → World → Prop} (M : Nat → Prop) (n : Nat) (rs : List ResultVar) (hf : P.funcs[f]? = some fn) (hb : fn.body = some c) (hn : fn.ntmps = n) (hr : fn.results = rs.toArray)
    (xs : List SV) (hp : List (Nat × Blk)) (nx : Nat) (ρ : Env) (hl : xs.length ≤ n) (ha : ∀ ρ' : Env, (∀ k, k < nx → ρ' k = ρ k) → args.toList = SV.denL ρ' xs)
    (hh : ∀ ρ' : Env, (∀ k, k < nx → ρ' k = ρ k) → HpOk ⟨w, M, n, nx, ρ⟩ ρ' w hp ∧ (footL ρ' hp).Nodup) (hnm : ∀ m b, (m, b) ∈ hp → m < nx) (h1 : (hp.map (·.1)).Nodup)
    (h : X P ⟨w, M, n, nx, ρ⟩ c (retQ P ⟨w, M, n, nx, ρ⟩ rs R) ⟨frOf 0 xs, hp, nx⟩) : Calls P f args w R := by
  refine calls_of_wp hf hb ?_
  have hs := start_of (ρ0 := ρ) (M := M) (w0 := w) (w := w) (n := n) (m := fn.ntmps - args.size) (by rw [hn]) hl ha ⟨rfl, rfl, rfl, Nat.le_refl _, fun _ _ _ => rfl⟩ hh hnm h1 (fun _ _ => rfl)
  refine Code.wp_mono (fun e a w' he => ?_) (X_sound c _ _ h ρ _ w hs)
  cases e with
  | normal =>
    obtain ⟨st', ρ', hq, hs', hag⟩ := he
    obtain ⟨l, hd, hres⟩ := results_out hr hq
    exact ⟨hs'.now.defers, _, hres _ ρ' a w' hs'.fr' hs'.now.hp, hd ρ' a w' hs' hag⟩
  | ret =>
    obtain ⟨st', ρ', hq, hs', hag⟩ := he
    obtain ⟨l, hd, hres⟩ := results_out hr hq
    exact ⟨hs'.now.defers, _, hres _ ρ' a w' hs'.fr' hs'.now.hp, hd ρ' a w' hs' hag⟩
  | panic c => exact he.elim
  | outgrown => exact he.elim
  | exit id => obtain ⟨st', ρ', hq, hs'⟩ := he; exact hq.elim
  | goto id => obtain ⟨st', ρ', hq, hs'⟩ := he; exact hq.elim
theorem calls_pure {f : FuncId} {fn : Func} {c : Code} {args : Array Value} {w : World} {R : Ending → World → Prop} (n : Nat) (rs : List ResultVar) (hf : P.funcs[f]? = some fn) (hb : fn.body = some c) (hn : fn.ntmps = n) (hr : fn.results = rs.toArray)
    (xs : List SV) (hl : xs.length ≤ n) (ha : ∀ ρ' : Env, args.toList = SV.denL ρ' xs)
    (h : X P ⟨w, fun _ => False, n, 0, fun _ => ⟨0, 0, 0⟩⟩ c (retQ P ⟨w, fun _ => False, n, 0, fun _ => ⟨0, 0, 0⟩⟩ rs R) ⟨frOf 0 xs, [], 0⟩) : Calls P f args w R :=
  calls_of (fun _ => False) n rs hf hb hn hr xs [] 0 (fun _ => ⟨0, 0, 0⟩) hl (fun ρ' _ => ha ρ') (fun _ _ => ⟨fun _ _ h => (by cases h), (by simp [footL])⟩) (fun _ _ h => by cases h) (by simp) h
def kin (K : St → Prop) (fr : List (Nat × SV)) (d : Option Tmp) (x : SV) (st : St) : Prop := K (St.put ⟨fr, st.hp, st.nx⟩ d x)
def inQ (P : Program) (rs : List ResultVar) (K : St → Prop) (fr : List (Nat × SV)) (d : Option Tmp) (e : Exit) (st : St) : Prop :=
  match e with
  | .normal => XResL P st rs fun l => kin K fr d (tupSV l) st
  | .ret => XResL P st rs fun l => kin K fr d (tupSV l) st
  | _ => False
theorem scall_in {f : FuncId} {fn : Func} {c : Code} {args : List SV} {d : Option Tmp} {K : St → Prop} {fr : List (Nat × SV)} {hp : List (Nat × Blk)} {nx : Nat} (n : Nat) (rs : List ResultVar) (hf : P.funcs[f]? = some fn) (hb : fn.body = some c) (hn : fn.ntmps = n) (hr : fn.results = rs.toArray)
    (hc : ∀ (v : Array Value) w, (callFunc f v).run P w = .ok (.enter f v) w)
    (h' : dOk C.N d ∧ args.length ≤ n ∧ SV.okL args = true) (h : ∀ ρi : Env, (∀ k, k < C.n0 → ρi k = C.ρ0 k) → X P ⟨C.w0, C.M, n, nx, ρi⟩ c (inQ P rs K fr d) ⟨frOf 0 args, hp, nx⟩) : SCall P C f args d K ⟨fr, hp, nx⟩ := by
  obtain ⟨hd, hl, hok⟩ := h'
  refine ⟨hok, fun ρ w a hs hinv => .inl ⟨fun v w => hc _ w, ?_⟩⟩
  have h := h ρ hs.now.size.2
  refine calls_of_wp hf hb ?_
  have h0 := hs.now
  have hs1 := start_of (ρ0 := ρ) (M := C.M) (w0 := C.w0) (w := w) (n := n) (nx := nx) (xs := args) (hp := hp) (ρ := ρ) (args := (SV.denL ρ args).toArray) (m := fn.ntmps - (SV.denL ρ args).toArray.size) (by rw [hn]) hl
    (fun ρ' hρ => by rw [hinv ρ' hρ]) h0.keeps (fun ρ' hρ => ⟨fun m b hm => by
      have := (hs ρ' hρ).hp m b hm
      cases b <;> exact this, (hs ρ' hρ).nodup⟩) h0.names h0.once (fun _ _ => rfl)
  refine Code.wp_mono (fun e a' w' he => ?_) (X_sound c _ _ h ρ _ w hs1)
  have back : ∀ (st' : St) (ρ' : Env) (x : SV) (v : Value), Sat ⟨C.w0, C.M, n, nx, ρ⟩ st' ρ' a' w' → (∀ k, k < nx → ρ' k = ρ k) → kin K fr d x st' → (∀ ρ'' : Env, (∀ k, k < st'.nx → ρ'' k = ρ' k) → v = x.den ρ'') → KK C nx ρ K (a.put d v) w' := fun st' ρ' x v hs' hag hk hx => by
    refine ⟨_, ρ', hk, Sat.put (st := ⟨fr, st'.hp, st'.nx⟩) (fun ρ'' hρ'' => ?_) hd (fun _ ρ'' hρ'' => hx ρ'' hρ''), by cases d <;> exact hs'.now.n0le, hag⟩
    have h1 := hs' ρ'' hρ''
    have hle : nx ≤ st'.nx := hs'.now.n0le
    have h2 := hs ρ'' fun k hk => (hρ'' k (Nat.lt_of_lt_of_le hk hle)).trans (hag k hk)
    refine ⟨h2.fr, h2.defers, h2.size, h1.keeps, fun m b hm => ?_, h1.nodup, h1.names, h1.once, Nat.le_trans h2.n0le hle⟩
    have := h1.hp m b hm
    cases b <;> exact this
  cases e with
  | normal =>
    obtain ⟨st', ρ', hq, hs', hag⟩ := he
    obtain ⟨l, hd', hres⟩ := results_out hr hq
    refine ⟨hs'.now.defers, _, hres _ ρ' a' w' hs'.fr' hs'.now.hp, ⟨_, rfl, back st' ρ' (tupSV l) _ hs' hag hd' fun ρ'' hρ'' => ?_⟩⟩
    have e1 := hres _ ρ' a' w' hs'.fr' hs'.now.hp
    have e2 := hres _ ρ'' a' w' (hs' ρ'' hρ'').fr (hs' ρ'' hρ'').hp
    rw [e1] at e2; injection e2
  | ret =>
    obtain ⟨st', ρ', hq, hs', hag⟩ := he
    obtain ⟨l, hd', hres⟩ := results_out hr hq
    refine ⟨hs'.now.defers, _, hres _ ρ' a' w' hs'.fr' hs'.now.hp, ⟨_, rfl, back st' ρ' (tupSV l) _ hs' hag hd' fun ρ'' hρ'' => ?_⟩⟩
    have e1 := hres _ ρ' a' w' hs'.fr' hs'.now.hp
    have e2 := hres _ ρ'' a' w' (hs' ρ'' hρ'').fr (hs' ρ'' hρ'').hp
    rw [e1] at e2; injection e2
  | panic c => exact he.elim
  | outgrown => exact he.elim
  | exit id => obtain ⟨st', ρ', hq, hs'⟩ := he; exact hq.elim
  | goto id => obtain ⟨st', ρ', hq, hs'⟩ := he; exact hq.elim
theorem Sat.grown {w0 : World} {n m : Nat} {ρ ρ0 : Env} {a : Act} {w : World} (h : Sat ⟨w0, fun _ => False, n, m, ρ0⟩ st ρ a w) : Below w0.heap.size w0 w :=
  have k := h.now.keeps
  ⟨k.os, k.tape, k.output, k.size, fun i hi => k.block i hi (fun h => h)⟩
theorem scall_pure {f : FuncId} {args : List SV} {d : Option Tmp} {K : St → Prop} (vs : List Value) (x : SV) (v : Value) (hc : ∀ (v : Array Value) w, (callFunc f v).run P w = .ok (.enter f v) w) (hcall : ∀ w, Calls P f vs.toArray w fun e w' => e = .returned v ∧ Below w.heap.size w w')
    (hok : SV.okL args = true) (hv : ∀ ρ, SV.denL ρ args = vs) (hx : ∀ ρ, v = x.den ρ) (hK : dOk C.N d ∧ kput K st d x) : SCall P C f args d K st := by
  refine ⟨hok, fun ρ w a hs _ => .inl ⟨fun v w => hc _ w, ?_⟩⟩
  rw [hv ρ]
  exact (hcall w).mono fun e w' ⟨he, hb⟩ => ⟨v, he, _, ρ, hK.2, (hs.below hb).put hK.1 fun _ ρ' _ => hx ρ', (by cases d <;> simp [St.put]), fun _ _ => rfl⟩

end
end Go.Sx
