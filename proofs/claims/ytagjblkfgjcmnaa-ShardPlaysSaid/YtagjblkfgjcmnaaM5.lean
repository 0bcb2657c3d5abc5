/-
  Parts of the proof: Sx5. Conditions: none.
-/
import Derived.Test.YtagjblkfgjcmnaaM4
set_option linter.unusedVariables false
set_option linter.unusedSimpArgs false
set_option linter.unusedSectionVars false
namespace Go.Sx
open Go.RowKit
section
variable {P : Program} {C : Cx} {st : St}

theorem wp_value {o : Oper} {a : Act} {w w' : World} {v : Value} {K : Act → World → Prop} (h : (execOp a.eval o).run P w = .ok (.value v) w') (hK : K (a.put o.dst v) w') : o.wp P a w K nQ := by
  unfold Oper.wp; rw [h]; exact hK

theorem evL_den : ∀ (l : List Operand), SV.okL (st.evL l) = true → ∀ (ρ : Env) (a : Act), FrOk st ρ a → l.map a.eval = SV.denL ρ (st.evL l)
  | [], _, ρ, a, hf => by simp [St.evL, SV.denL]
  | x :: r, h, ρ, a, hf => by
    simp only [St.evL, SV.okL, Bool.and_eq_true] at h
    simp only [St.evL, SV.denL, List.map_cons]
    rw [ev_eq hf x h.1, evL_den r h.2 ρ a hf]

theorem dOk_out {N : Nat} {d : Tmp} (h : dOk N (some d)) : d < N := h

theorem okL_append : ∀ (l m : List SV), SV.okL (l ++ m) = (SV.okL l && SV.okL m)
  | [], m => by simp [SV.okL]
  | x :: r, m => by simp [SV.okL, okL_append r m, Bool.and_assoc]
theorem denL_append (ρ : Env) (l m : List SV) : SV.denL ρ (l ++ m) = SV.denL ρ l ++ SV.denL ρ m := by simp [SV.denL_eq]

theorem flat_rep {α : Type} (l : List α) (n : Nat) (hl : l.length = n) (hn : 0 < n) : ∀ (len i : Nat), ((List.replicate len l).flatten)[i]? = if i < len * n then l[i % n]? else none
  | 0, i => by simp
  | len + 1, i => by
    rw [List.replicate_succ, List.flatten_cons, List.getElem?_append]
    have h1 : (len + 1) * n = len * n + n := by rw [Nat.add_mul]; omega
    by_cases hi : i < n
    · rw [if_pos (by omega), if_pos (by omega), Nat.mod_eq_of_lt hi]
    · rw [if_neg (by omega), hl, flat_rep l n hl hn len (i - n)]
      have h2 : (i - n) % n = i % n := by
        conv => rhs; rw [show i = (i - n) + n by omega, Nat.add_mod_right]
      by_cases h3 : i - n < len * n
      · rw [if_pos h3, if_pos (by omega), h2]
      · rw [if_neg h3, if_neg (by omega)]

theorem XOp_sound {o : Oper} {K : St → Prop} (hd : dOk C.N o.dst) (h : XOp P C o K st) : SOp P C o K st := by
  have gen : (bif isVal o.op then XV P o.op st (kput K st o.dst) else SOp P C o K st) → SOp P C o K st := fun h => by
    cases hv : isVal o.op with
    | true =>
      rw [hv] at h
      obtain ⟨x, hF, hok, hr⟩ := XV_sound (F := kput K st o.dst) hv h
      intro ρ a w hs
      refine wp_value (hr C ρ a w hs.fr' hs.now.hp) ⟨_, ρ, hF, hs.put hd fun _ ρ' hρ => ?_, by cases hdd : o.dst <;> simp [St.put], fun _ _ => rfl⟩
      have h1 := hr C ρ a w hs.fr' hs.now.hp
      have h2 := hr C ρ' a w (hs ρ' hρ).fr (hs ρ' hρ).hp
      rw [h1] at h2
      injection h2 with h2; injection h2
    | false => rw [hv] at h; exact h
  obtain ⟨d, op, ty, pos, af, g⟩ := o
  cases op
  case convert s t x =>
    have h : XCv (st.ev x) (SOp P C ⟨d, .convert s t x, ty, pos, af, g⟩ K st) (XV P (.convert s t x) st (kput K st d)) := h
    unfold XCv at h
    split at h
    · exact h
    · exact gen h
  case alloc t =>
    obtain ⟨d', hd', g1⟩ := wO_out h
    obtain ⟨zs, hz, g2⟩ := wO_out g1
    simp only at hd'; subst hd'
    intro ρ a w hs
    obtain ⟨z, hzr, hzc⟩ := zero_of hz w
    cases ht : tarr P t with
    | none =>
      rw [ht] at g2
      refine wp_value (w' := w.alloc (.cells z.cells t)) (v := .pointer (some ⟨w.heap.size, 0, none⟩)) ?_ ⟨_, _, g2, hs.alloc hd fun ρ' _ => ?_, Nat.le_succ _, fun k hk => by simp [envSet, Nat.ne_of_lt hk]⟩
      · simp [execOp, Instr.alloc, hzr, newVar, newRow, newObj]; rfl
      · apply Array.toList_inj.1; simp [hzc, Function.comp_def, CV.den]
    | some q =>
      obtain ⟨m, e⟩ := q
      rw [ht] at g2
      obtain ⟨⟨hzl, he⟩, g2⟩ := g2
      have hsz : z.cells.size = m * e := by rw [← Array.length_toList, hzc, hzl]
      refine wp_value (w' := w.alloc (.cells z.cells t)) (v := .pointer (some ⟨w.heap.size, 0, none⟩)) ?_ ⟨_, _, g2, hs.allocArr hd (by rw [hsz]; exact Nat.le_refl _) fun ρ' _ i hi => ?_, Nat.le_succ _, fun k hk => by simp [envSet, Nat.ne_of_lt hk]⟩
      · simp [execOp, Instr.alloc, hzr, newVar, newRow, newObj]; rfl
      · have h3 : i * e + e ≤ m * e := by
          have : (i + 1) * e ≤ m * e := Nat.mul_le_mul_right e hi
          rw [Nat.add_mul] at this; omega
        refine ⟨by simp [rowsOf, hzl]; omega, fun k hk => ?_⟩
        have e1 : z.cells[i * e + k]? = zs[i * e + k]? := by rw [← hzc, Array.getElem?_toList]
        rw [e1]
        simp only [rowsOf]
        rw [List.getElem?_take_of_lt hk, List.getElem?_drop, List.getElem?_map]
        cases zs[i * e + k]? <;> simp [CV.den]
  case box t x =>
    obtain ⟨d', hd', g1⟩ := wO_out h
    obtain ⟨cs, hc, g2⟩ := wO_out g1
    simp only at hd'; subst hd'
    intro ρ a w hs
    have hok : (st.ev x).ok = true := by
      cases hx : st.ev x <;> first | rfl | (rw [hx] at hc; simp [SV.cellsOf] at hc)
    refine wp_value (w' := w.alloc (.cells (a.eval x).cells t)) (v := .pointer (some ⟨w.heap.size, 0, none⟩)) ?_ ⟨_, _, g2, hs.alloc hd fun ρ' hρ => ?_, Nat.le_succ _, fun k hk => by simp [envSet, Nat.ne_of_lt hk]⟩
    · simp [execOp, Instr.box, newVar, newRow, newObj]; rfl
    · rw [ev_eq (hs ρ' hρ).fr x hok]
      apply Array.toList_inj.1; rw [cellsOf_den hc, CV.denL_eq]
  case store t x y =>
    obtain ⟨n, hn, g1⟩ := wO_out h
    obtain ⟨cs, hc, ⟨hl, h1⟩, g2⟩ := wO_out g1
    obtain ⟨b, i, f, hx, g3⟩ := wP_out g2
    have hok : (st.ev y).ok = true := by
      cases hx : st.ev y <;> first | rfl | (rw [hx] at hc; simp [SV.cellsOf] at hc)
    intro ρ a w hs
    obtain ⟨bl, w', hG, hs', hr⟩ := store_of (P := P) hs hn hl h1 g3 (v := a.eval y) (fun ρ' hρ => by
      rw [ev_eq (hs ρ' hρ).fr y hok, cellsOf_den hc, CV.denL_eq])
    unfold Oper.wp
    have : (execOp a.eval ⟨d, .store t x y, ty, pos, af, g⟩).run P w = .ok .skip w' := by
      simp [execOp, Instr.storeAt, ev_c hs.fr' hx rfl, SV.den, CV.den, Instr.sureAddr, hr]
    rw [this]
    refine ⟨_, ρ, hG, ?_, Nat.le_refl _, fun _ _ => rfl⟩
    cases d with
    | none => exact hs'
    | some d => exact Sat.put (d := some d) (x := .bad) hs' hd (fun hh => by cases hh)
  case buildSlice t len ps =>
    obtain ⟨d', hd', g1⟩ := wO_out h
    obtain ⟨k, hk, g2⟩ := wO_out g1
    obtain ⟨ds, hu, hds⟩ := kind_of hk
    simp only at hd'; subst hd'
    cases k <;> simp only at g2
    case slc e =>
      obtain ⟨n, hn, g3⟩ := wO_out g2
      obtain ⟨zs, hz, ⟨hsz, hn0, hzl⟩, g4⟩ := wO_out g3
      obtain ⟨cs, hcs, g5⟩ := wO_out g4
      simp at hds; subst hds
      have hcl : cs.length = len * n := by
        have : ∀ (ps : List (Nat × Nat × SV)) (zs cs : List CV), fillX zs ps = some cs → cs.length = zs.length := fun ps => by
          induction ps with
          | nil => intro zs cs h; simp [fillX] at h; simp [h]
          | cons p r ih =>
            obtain ⟨off, n, x⟩ := p
            intro zs cs h
            unfold fillX at h
            split at h
            · rename_i l hl
              cases hb : Nat.beq l.length n with
              | false => simp [hb] at h
              | true =>
                simp only [hb, cond_true, Option.bind_eq_some_iff] at h
                obtain ⟨zs', h1, h2⟩ := h
                rw [ih _ _ h2, (spl_eq _ _ _ _ h1).1]
            · cases h
        rw [this _ _ _ hcs]
        simp [hzl]
      intro ρ a w hs
      obtain ⟨z, hzr, hzc⟩ := zero_of hz w
      have hfill : ∀ ρ' : Env, (∀ n, n < st.nx → ρ' n = ρ n) → Instr.fill (fun i => some (i * n, n)) (CV.denL ρ' ((List.replicate len (zs.map CV.v)).flatten)).toArray (ps.toList.map fun p => (p.1, a.eval p.2)) = some (CV.denL ρ' cs).toArray := fun ρ' hρ => by
        have h1 := placedA_map ps.toList (n := n) (fillX_ok _ _ _ hcs) ρ' a (hs ρ' hρ).fr
        exact fillX_den ρ' (fun i => some (i * n, n)) _ (ps.toList.map fun p => (p.1, a.eval p.2)) _ cs hcs h1
      have hzero : ∀ ρ' : Env, (CV.denL ρ' ((List.replicate len (zs.map CV.v)).flatten)).toArray = (Array.range (len * n)).map (fun i => z.cells[i % z.cells.size]!) := fun ρ' => by
        apply Array.ext_getElem?
        intro i
        have hzs : z.cells.size = n := by rw [← Array.length_toList, hzc, hzl]
        simp only [List.getElem?_toArray, CV.denL_eq, List.getElem?_map, Array.getElem?_map]
        rw [flat_rep _ n (by simpa using hzl) hn0 len i]
        by_cases hi : i < len * n
        · have him : i % n < z.cells.size := by rw [hzs]; exact Nat.mod_lt _ hn0
          have : zs[i % n]? = some z.cells[i % n] := by rw [← hzc, Array.getElem?_toList, Array.getElem?_eq_getElem him]
          simp [hi, hzs, this, CV.den]
          rw [getElem!_pos z.cells (i % n) him]
        · simp [hi]
      have hcells : ∀ ρ' : Env, (∀ n, n < st.nx → ρ' n = ρ n) → (CV.denL ρ' cs) = CV.denL ρ cs := fun ρ' hρ => by
        have h1 := hfill ρ' hρ
        have h2 := hfill ρ fun _ _ => rfl
        rw [hzero] at h1 h2
        rw [h1] at h2
        simpa using h2
      refine wp_value (w' := w.alloc (.cells (CV.denL ρ cs).toArray e)) (v := .slice (some ⟨w.heap.size, 0, none⟩) len len) ?_ ⟨_, _, g5, hs.allocRows hd (by simp [CV.denL_eq, hcl]) fun ρ' hρ i hi => ?_, Nat.le_succ _, fun k hk => by simp [envSet, Nat.ne_of_lt hk]⟩
      · have h2 := hfill ρ fun _ _ => rfl
        rw [hzero] at h2
        have hlim : ¬ 16777216 < len * n := by omega
        rcases Nat.eq_zero_or_pos len with hlen | hlen
        · subst hlen
          have hr0 : ∀ f : Nat → Value, (Array.range 0).map f = #[] := fun f => by simp [Array.range]
          rw [Nat.zero_mul, hr0] at h2
          simp [execOp, Instr.buildSlice, run_underlying hu, sizeOf_of hn, newRow, newObj]
          rw [hr0, h2]; simp; rfl
        have hl0 : ¬ len * n = 0 := Nat.ne_of_gt (Nat.mul_pos hlen hn0)
        have hl1 : ¬ len = 0 := by omega
        have hl2 : ¬ n = 0 := by omega
        simp [execOp, Instr.buildSlice, run_underlying hu, sizeOf_of hn, hlim, hl1, hl2, hzr, h2, newRow, newObj]
        rw [if_neg hl0]; rfl
      · have h3 : i * n + n ≤ len * n := by
          have : (i + 1) * n ≤ len * n := Nat.mul_le_mul_right n hi
          rw [Nat.add_mul] at this; omega
        refine ⟨by simp [rowsOf, hcl]; omega, fun k hk => ?_⟩
        rw [← hcells ρ' hρ]
        simp only [List.getElem?_toArray, CV.denL_eq, List.getElem?_map, rowsOf]
        rw [List.getElem?_take_of_lt hk, List.getElem?_drop]
    all_goals exact g2.elim
  case call c =>
    obtain ⟨cal, args, tys⟩ := c
    cases cal with
    | value f =>
      change XCall P C (st.ev f) (st.evL args.toList) d K st at h
      have fin : ∀ (g' : FuncId) (full : List SV), SCall P C g' full d K st → (∀ ρ a w, Sat C st ρ a w → ∃ fst caps : Array Value, a.eval f = .func (.func g') fst caps ∧ fst ++ args.map a.eval ++ caps = (SV.denL ρ full).toArray) →
          SOp P C ⟨d, .call { callee := .value f, args := args, argTypes := tys }, ty, pos, af, g⟩ K st := fun g' full hs hf ρ a w hsat => by
        obtain ⟨fst, caps, h1, h2⟩ := hf ρ a w hsat
        have hdis := hs.2 ρ w a hsat fun ρ' hρ => by
          have hsat' : Sat C st ρ' a w := fun ρ'' hρ'' => hsat ρ'' fun n hn => (hρ'' n hn).trans (hρ n hn)
          obtain ⟨fst', caps', h1', h2'⟩ := hf ρ' a w hsat'
          rw [h1] at h1'
          injection h1' with _ e1 e2
          subst e1; subst e2
          rw [h2] at h2'
          simpa using h2'.symm
        rcases hdis with ⟨h3, h4⟩ | ⟨v, w', h3, hk⟩
        rotate_left
        · have : (execOp a.eval ⟨d, .call { callee := .value f, args := args, argTypes := tys }, ty, pos, af, g⟩).run P w = .ok (.value v) w' := by
            simp only [execOp, resolve, h1, Deferred.ofValue]
            simp [invoke]
            rw [← h2] at h3
            simpa using h3
          exact wp_value this hk
        have h5 := h3 (SV.denL ρ full) w
        unfold Oper.wp
        have : (execOp a.eval ⟨d, .call { callee := .value f, args := args, argTypes := tys }, ty, pos, af, g⟩).run P w = .ok (.enter g' (SV.denL ρ full).toArray) w := by
          simp only [execOp, resolve, h1, Deferred.ofValue]
          simp [invoke]
          rw [← h2] at h5 ⊢
          simpa using h5
        rw [this]
        refine Calls.mono h4 fun e w' he => ?_
        obtain ⟨v, rfl, hk⟩ := he
        exact hk
      unfold XCall at h
      split at h
      · rename_i g' caps hx
        refine fin g' _ h fun ρ a w hs => ⟨#[], (CV.denL ρ caps).toArray, by rw [ev_c hs.fr' hx rfl]; rfl, ?_⟩
        have hok := h.1
        rw [okL_append, Bool.and_eq_true] at hok
        have := evL_den _ hok.1 ρ a hs.fr'
        rw [denL_append, ← this]
        apply Array.toList_inj.1
        simp [SV.denL_eq, CV.denL_eq, Function.comp_def, SV.den]
      · rename_i g' fst caps hx
        refine fin g' _ h fun ρ a w hs => ⟨fst, caps, by rw [ev_c hs.fr' hx rfl]; rfl, ?_⟩
        have hok := h.1
        rw [okL_append, okL_append, Bool.and_eq_true, Bool.and_eq_true] at hok
        have := evL_den _ hok.1.2 ρ a hs.fr'
        rw [denL_append, denL_append, ← this]
        apply Array.toList_inj.1
        simp [SV.denL_eq, Function.comp_def, SV.den, CV.den]
      · exact h.elim
    | _ => exact gen h
  all_goals exact gen h

theorem wpList_mono {ops : Array Oper} {Q Q' : Exit → Act → World → Prop} (hq : ∀ e a w, Q e a w → Q' e a w) : ∀ (l : List Oper) (a : Act) (w : World), wpList P ops Q l a w → wpList P ops Q' l a w
  | [], a, w, h => hq _ _ _ h
  | o :: rest, a, w, h => by
    unfold wpList at h ⊢
    split
    · rename_i hw
      rw [if_pos hw] at h
      rcases h with h | ⟨h1, a0, w0, h2⟩
      · refine .inl ?_
        unfold Oper.wp at h ⊢
        generalize (execOp a.eval o).run P w = r at h ⊢
        cases r with
        | ok n w' =>
          cases n <;> simp only [Oper.upon] at h ⊢ <;> first | exact wpList_mono hq rest _ _ h | exact h | skip
          · exact Calls.mono h fun e w'' he => by
              cases e with
              | returned v => exact wpList_mono hq rest _ _ he
              | panicked c => exact hq _ _ _ he
              | outgrown => obtain ⟨a1, w1, h3⟩ := he; exact ⟨a1, w1, hq _ _ _ h3⟩
          · exact Rows.mono h fun v w'' he => wpList_mono hq rest _ _ he
        | halt x w' =>
          cases x <;> simp only [Oper.upon] at h ⊢ <;> first | exact h | exact hq _ _ _ h
      · exact .inr ⟨h1, a0, w0, hq _ _ _ h2⟩
    · rename_i hw
      rw [if_neg hw] at h
      exact wpList_mono hq rest _ _ h

def nK (C : Cx) (ρ0 : Env) (K : St → Prop) (e : Exit) (a : Act) (w : World) : Prop := match e with | .normal => ∃ st ρ, K st ∧ Sat C st ρ a w ∧ ∀ k, k < C.n0 → ρ k = ρ0 k | _ => False

theorem Oper.wp_to {o : Oper} {a : Act} {w : World} {N N' : Act → World → Prop} {Q : Exit → Act → World → Prop} (h : o.wp P a w N nQ) (hn : ∀ a w, N a w → N' a w) : o.wp P a w N' Q := by
  unfold Oper.wp at h ⊢
  generalize (execOp a.eval o).run P w = r at h ⊢
  cases r with
  | ok n w' =>
    cases n <;> simp only [Oper.upon] at h ⊢ <;> first | exact hn _ _ h | exact h | skip
    · exact Calls.mono h fun e w'' he => by
        cases e with
        | returned v => exact hn _ _ he
        | panicked c => exact he.elim
        | outgrown => obtain ⟨a1, w1, h3⟩ := he; exact h3.elim
    · exact Rows.mono h fun v w'' he => hn _ _ he
  | halt x w' => cases x <;> simp only [Oper.upon] at h ⊢ <;> first | exact h | exact h.elim

theorem yield_of {all : Array Oper} {a : Act} {j t : Nat} {b : Bool} (h : gdst all j = some t) (hv : a.tmps.getD t undef = .bool b) (ht : t < a.tmps.size) : yielded all a.tmps j = some b := by
  unfold gdst at h
  unfold yielded
  rw [h]
  simp at hv
  simp [ht] at hv ⊢
  rw [hv]

theorem wG_out {x : SV} {p q u : St → Prop} {st : St} (h : wG x p q u st) : (∃ l, x = .c (.v (.tuple l)) ∧ u st) ∨ wB x p q st := by
  unfold wG at h
  split at h
  · exact .inl ⟨_, rfl, h⟩
  · exact .inr h
theorem yield_no {all : Array Oper} {a : Act} {j t : Nat} {l : Array Value} (h : gdst all j = some t) (hv : a.tmps.getD t undef = .tuple l) : yielded all a.tmps j = none := by
  unfold gdst at h
  unfold yielded
  rw [h]
  simp only [Option.bind_some]
  by_cases ht : t < a.tmps.size
  · simp [ht] at hv ⊢
    rw [hv]
  · simp [Array.getElem?_eq_none (Nat.le_of_not_lt ht)]

theorem XL_sound (all : Array Oper) : ∀ (l : List Oper) (K : St → Prop) (st : St), XL P C all l K st → ∀ ρ0 ρ a w, (∀ k, k < C.n0 → ρ k = ρ0 k) → Sat C st ρ a w → wpList P all (nK C ρ0 K) l a w
  | [], K, st, h, ρ0, ρ, a, w, hρ, hs => ⟨st, ρ, h, hs, hρ⟩
  | o :: rest, K, st, h, ρ0, ρ, a, w, hρ, hs => by
    obtain ⟨hd, h⟩ := h
    have hle : C.n0 ≤ st.nx := hs.now.n0le
    have next : ∀ (st1 : St), C.n0 ≤ st1.nx → ∀ a w, KK C st1.nx ρ (XL P C all rest K) a w → wpList P all (nK C ρ0 K) rest a w := fun st1 hle a w ⟨st', ρ', hk, hs', _, hag⟩ => XL_sound all rest K st' hk ρ0 ρ' a w (fun k hk => (hag k (Nat.lt_of_lt_of_le hk hle)).trans (hρ k hk)) hs'
    cases hg : o.guard with
    | none =>
      rw [hg] at h
      have := XOp_sound hd h ρ a w hs
      unfold wpList
      rw [if_pos (by simp [Region.wanted, hg])]
      exact .inl (Oper.wp_to this (next _ hle))
    | some q =>
      obtain ⟨j, want⟩ := q
      rw [hg] at h
      obtain ⟨t, ht, h1⟩ := wO_out h
      rcases wG_out h1 with ⟨l, hb, hu⟩ | h1
      · have hv := hs.now.fr t (by rw [hb]; rfl)
        rw [hb] at hv
        simp only [SV.den, CV.den] at hv
        unfold wpList
        rw [if_neg (by simp [Region.wanted, hg, yield_no ht hv])]
        exact XL_sound all rest K _ hu ρ0 ρ _ w hρ (hs.put (d := o.dst) (x := .c (.v undef)) (v := undef) hd fun _ _ _ => rfl)
      obtain ⟨b, hb, hT, hF⟩ := wB_out h1
      have hev : (lk st.fr t).ok = true := by rw [hb]; rfl
      have hv := hs.now.fr t hev
      rw [hb] at hv
      simp only [SV.den, CV.den] at hv
      by_cases htl : t < C.N
      · have hy := yield_of ht hv (by rw [hs.now.size.1]; exact htl)
        have hs' : Sat C (st.put (some t) (.c (.v (.bool b)))) ρ a w := by
          have := hs.put (d := some t) (x := .c (.v (.bool b))) (v := .bool b) htl fun _ _ _ => rfl
          have he : a.put (some t) (.bool b) = a := by
            have ht' : t < a.tmps.size := by rw [hs.now.size.1]; exact htl
            unfold Act.put
            simp only
            have : a.tmps.setIfInBounds t (.bool b) = a.tmps := by
              apply Array.ext
              · simp
              · intro i h1 h2
                by_cases hit : t = i
                · subst hit
                  unfold Array.getD at hv; rw [dif_pos ht'] at hv
                  rw [Array.getElem_setIfInBounds h2, if_pos rfl]; exact hv.symm
                · rw [Array.getElem_setIfInBounds h2, if_neg hit]
            rw [this]
          rwa [he] at this
        unfold wpList
        by_cases hw : b = want
        · subst hw
          rw [if_pos (by simp [Region.wanted, hg, hy])]
          cases b with
          | true => exact .inl (Oper.wp_to (XOp_sound hd (hT rfl) ρ a w hs') (next _ hle))
          | false => exact .inl (Oper.wp_to (XOp_sound hd (hF rfl) ρ a w hs') (next _ hle))
        · rw [if_neg (by simp [Region.wanted, hg, hy, hw])]
          have h5 := hs'.put (d := o.dst) (x := .c (.v undef)) (v := undef) hd fun _ _ _ => rfl
          cases b with
          | true =>
            have : want = false := by cases want <;> simp_all
            subst this
            exact XL_sound all rest K _ (hT rfl) ρ0 ρ _ w hρ h5
          | false =>
            have : want = true := by cases want <;> simp_all
            subst this
            exact XL_sound all rest K _ (hF rfl) ρ0 ρ _ w hρ h5
      · have : a.tmps.getD t undef = undef := by
          have h9 : ¬ t < a.tmps.size := by rw [hs.now.size.1]; exact htl
          unfold Array.getD; rw [dif_neg h9]
        rw [this] at hv; cases hv

end
end Go.Sx
