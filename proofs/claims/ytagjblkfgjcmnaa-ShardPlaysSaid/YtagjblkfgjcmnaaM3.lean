/-
  Parts of the proof: Sx3. Conditions: none.
-/
import Derived.Test.YtagjblkfgjcmnaaM2
set_option linter.unusedVariables false
set_option linter.unusedSimpArgs false
set_option linter.unusedSectionVars false
namespace Go.Sx
open Go.RowKit
section
variable {P : Program}
section ops
variable {st : St} {F : SV → Prop} {d : Option Tmp} {ty : TypeId} {pos : String} {af : Array Edge} {g : Option (Nat × Bool)}

theorem zero_of {t : TypeId} {zs : List Value} (h : tzero P t = some zs) (w : World) : ∃ z, (zeroValue t).run P w = .ok z w ∧ z.cells.toList = zs := by
  unfold tzero at h
  simp only [Option.map_eq_some_iff, Option.bind_eq_some_iff] at h
  obtain ⟨z, ⟨i, hi, hz⟩, rfl⟩ := h
  exact ⟨z, by simp [zeroValue, typeInfo, hi, hz], rfl⟩

theorem placed_map {pl : List (Nat × Nat)} : ∀ (ps : List (Nat × Operand)) (l : List (Nat × Nat × SV)), placed pl st ps = some l →
    (∀ q ∈ l, (q.2.2).ok = true) → ∀ (ρ : Env) (a : Act), FrOk st ρ a → (ps.map fun p => (p.1, a.eval p.2)).map (fun p => (pl[p.1]?, p.2)) = l.map (fun p => (some (p.1, p.2.1), p.2.2.den ρ))
  | [], l, h, _, ρ, a, hf => by simp [placed] at h; subst h; rfl
  | (i, x) :: r, l, h, hok, ρ, a, hf => by
    unfold placed at h
    split at h
    · rename_i off n hp
      simp only [Option.map_eq_some_iff] at h
      obtain ⟨l', hl', rfl⟩ := h
      have := placed_map r l' hl' (fun q hq => hok q (by simp [hq])) ρ a hf
      simp only [List.map_cons, this, hp]
      rw [ev_eq hf x (hok (off, n, st.ev x) (by simp))]
    · cases h
theorem placedA_map {n : Nat} : ∀ (ps : List (Nat × Operand)), (∀ q ∈ placedA n st ps, (q.2.2).ok = true) → ∀ (ρ : Env) (a : Act), FrOk st ρ a →
    (ps.map fun p => (p.1, a.eval p.2)).map (fun p => (some (p.1 * n, n), p.2)) = (placedA n st ps).map (fun p => (some (p.1, p.2.1), p.2.2.den ρ))
  | [], _, ρ, a, hf => rfl
  | (i, x) :: r, hok, ρ, a, hf => by
    simp only [placedA, List.map_cons]
    rw [ev_eq hf x (hok (i * n, n, st.ev x) (by simp [placedA])), placedA_map r (fun q hq => hok q (by simp [placedA, hq])) ρ a hf]

theorem fillX_ok : ∀ (ps : List (Nat × Nat × SV)) (zs cs : List CV), fillX zs ps = some cs → ∀ q ∈ ps, (q.2.2).ok = true
  | [], _, _, _, q, hq => by cases hq
  | (off, n, x) :: r, zs, cs, h, q, hq => by
    unfold fillX at h
    split at h
    · rename_i l hl
      cases hb : Nat.beq l.length n with
      | false => simp [hb] at h
      | true =>
        simp only [hb, cond_true, Option.bind_eq_some_iff] at h
        obtain ⟨zs', _, hr⟩ := h
        rcases List.mem_cons.1 hq with rfl | hq
        · cases x <;> first | rfl | simp [SV.cellsOf] at hl
        · exact fillX_ok r zs' cs hr q hq
    · cases h

theorem places_of {t : TypeId} {pl : List (Nat × Nat)} (h : tplaces P t = some pl) : ∃ fs, P.underlying t = some (.struct fs) ∧ fs.toList.mapM (fun f => (tsz P f.type).map fun n => (f.offset, n)) = some pl := by
  unfold tplaces at h
  split at h
  · exact ⟨_, ‹_›, h⟩
  · cases h

theorem mapM_run : ∀ (l : List Field) (pl : List (Nat × Nat)), l.mapM (fun f => (tsz P f.type).map fun n => (f.offset, n)) = some pl → ∀ w : World,
    (l.mapM (fun f => (do pure (f.offset, ← sizeOf f.type) : Sem (Nat × Nat)))).run P w = .ok pl w
  | [], pl, h, w => by simp at h; subst h; simp
  | f :: r, pl, h, w => by
    simp only [List.mapM_cons, Option.pure_def, Option.bind_eq_bind, Option.bind_eq_some_iff, Option.map_eq_some_iff, Option.some.injEq] at h
    obtain ⟨q, ⟨n, hn, rfl⟩, pl', hpl, rfl⟩ := h
    have := mapM_run r pl' hpl w
    simp only [List.mapM_cons]
    simp [sizeOf_of hn]
    simp at this
    rw [this]; rfl

theorem val_build {t : TypeId} {ps : Array (Nat × Operand)} (h : XV P (.build t ps) st F) : ∃ x', F x' ∧ x'.ok = true ∧ ValOk P ⟨d, .build t ps, ty, pos, af, g⟩ st x' := by
  obtain ⟨zs, hz, g1⟩ := wO_out h
  have hparts : ∀ a : Act, (ps.map fun p => (p.1, a.eval p.2)).toList = ps.toList.map fun p => (p.1, a.eval p.2) := fun a => by simp
  unfold XBld at g1
  split at g1
  · rename_i pl hpl
    obtain ⟨l, hl, g2⟩ := wO_out g1
    obtain ⟨cs, hcs, g3⟩ := wO_out g2
    obtain ⟨fs, hu, hm⟩ := places_of hpl
    refine val_of g3 rfl fun C ρ a w hf hp => ?_
    obtain ⟨z, hzr, hzc⟩ := zero_of hz w
    have h1 := placed_map _ _ hl (fillX_ok _ _ _ hcs) ρ a hf
    have hfill := fillX_den ρ (pl.toArray[·]?) l (ps.toList.map fun p => (p.1, a.eval p.2)) _ cs hcs (by rw [← h1]; simp)
    have hzc' : z.cells = (CV.denL ρ (zs.map .v)).toArray := by apply Array.toList_inj.1; simp [hzc, CV.denL_eq, Function.comp_def, CV.den]
    have hpm : (fs.mapM (fun f => (do pure (f.offset, ← sizeOf f.type) : Sem (Nat × Nat)))).run P w = .ok pl.toArray w := by
      have := mapM_run _ _ hm w
      rw [Array.mapM_eq_mapM_toList]
      simp at this ⊢
      rw [this]; rfl
    simp only [execOp, Instr.build]
    simp [hzr, run_underlying hu, SV.den]
    simp at hpm
    rw [hpm]
    simp [hzc']
    simp at hfill
    simp [hfill]
  · obtain ⟨k, hk, g2⟩ := wO_out g1
    obtain ⟨ds, hu, hds⟩ := kind_of hk
    unfold XBldA at g2
    split at g2
    · rename_i n e
      obtain ⟨es, hes, g3⟩ := wO_out g2
      obtain ⟨cs, hcs, g4⟩ := wO_out g3
      simp at hds; subst hds
      refine val_of g4 rfl fun C ρ a w hf hp => ?_
      obtain ⟨z, hzr, hzc⟩ := zero_of hz w
      have h1 := placedA_map ps.toList (n := es) (fillX_ok _ _ _ hcs) ρ a hf
      have hfill := fillX_den ρ (fun i => some (i * es, es)) _ (ps.toList.map fun p => (p.1, a.eval p.2)) _ cs hcs h1
      have hzc' : z.cells = (CV.denL ρ (zs.map .v)).toArray := by apply Array.toList_inj.1; simp [hzc, CV.denL_eq, Function.comp_def, CV.den]
      simp only [execOp, Instr.build]
      simp [hzr, run_underlying hu, SV.den, sizeOf_of hes, hzc', hfill]
    · exact g2.elim
theorem XV_sound {o : Oper} (hv : isVal o.op = true) (h : XV P o.op st F) : ∃ x', F x' ∧ x'.ok = true ∧ ValOk P o st x' := by
  obtain ⟨d, op, ty, pos, af, g⟩ := o
  cases op <;> first | (simp [isVal] at hv; done) | skip
  case move => exact val_move h
  case assign => exact val_assign h
  case pick => exact val_pick h
  case nilCheck => exact val_nilCheck h
  case sliceToArrayPointer => exact val_s2a h
  case load => exact val_load h
  case binOp => exact val_binOp h
  case unOp => exact val_unOp h
  case convert => exact val_convert h
  case fieldAddr => exact val_fieldAddr h
  case field => exact val_field h
  case indexAddr => exact val_indexAddr h
  case index => exact val_index h
  case extract => exact val_extract h
  case build => exact val_build h
  case makeFunc => exact val_makeFunc h
  case slice => exact val_slice h
  case call c =>
    obtain ⟨cal, args, tys⟩ := c
    cases cal with
    | value f => simp [isVal] at hv
    | invoke r m => simp [isVal] at hv
    | builtin b => exact val_call hv h

end ops

/-! ### The state behind a step -/
section sat
variable {C : Cx} {st : St} {ρ : Env} {a : Act} {w : World}

theorem put_getD (a : Act) (d t : Nat) (v : Value) (hd : d < a.tmps.size) : (a.put (some d) v).tmps.getD t undef = if d = t then v else a.tmps.getD t undef := by
  simp only [Act.put]
  by_cases h : d = t
  · subst h; simp [hd]
  · simp [h, Array.getElem?_setIfInBounds_ne h]

theorem lk_put (st : St) (d t : Nat) (x : SV) : lk (st.put (some d) x).fr t = if d = t then x else lk st.fr t := by
  simp only [St.put, lk]
  by_cases h : d = t
  · subst h; simp
  · have : Nat.beq d t = false := by
      cases hb : Nat.beq d t with
      | false => rfl
      | true => exact absurd (Nat.eq_of_beq_eq_true hb) h
    simp [this, h]

theorem Sat.put (h : Sat C st ρ a w) {d : Option Tmp} {x : SV} {v : Value} (hd : dOk C.N d) (hv : x.ok = true → ∀ ρ' : Env, (∀ n, n < st.nx → ρ' n = ρ n) → v = x.den ρ') : Sat C (st.put d x) ρ (a.put d v) w := by
  cases d with
  | none => exact h
  | some d =>
    intro ρ' hρ
    have h0 := h ρ' hρ
    refine ⟨fun t ht => ?_, h0.defers, ⟨by simp [Act.put, h0.size.1], h0.size.2⟩, h0.keeps, h0.hp, h0.nodup, h0.names, h0.once, h0.n0le⟩
    rw [put_getD _ _ _ _ (by rw [h0.size.1]; exact hd)]
    rw [lk_put] at ht ⊢
    by_cases hdt : d = t
    · simp only [hdt, if_true] at ht ⊢
      exact hv ht ρ' hρ
    · simp only [hdt, if_false] at ht ⊢
      exact h0.fr t ht

theorem Sat.fr' (h : Sat C st ρ a w) : FrOk st ρ a := h.now.fr

end sat
end
end Go.Sx
