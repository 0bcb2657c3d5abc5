/-
  Parts of the proof: Sx2. Conditions: none.
-/
import Derived.Test.YtagjblkfgjcmnaaM1
import Derived.ChangeKeysEq
import Derived.Laws.BytesArg
set_option linter.unusedVariables false
set_option linter.unusedSimpArgs false
set_option linter.unusedSectionVars false
namespace Go.Sx
open Go.RowKit

section
variable {P : Program}

theorem sizeOf_of {t : TypeId} {n : Nat} (h : tsz P t = some n) (w : World) : (sizeOf t).run P w = .ok n w := by
  unfold tsz at h
  cases hi : P.info? t with
  | none => simp [hi] at h
  | some i => simp [hi] at h; subst h; unfold sizeOf; simp [typeInfo, hi]

theorem isAgg_of {t : TypeId} {b : Bool} (h : tagg P t = some b) (w : World) : (isAgg t).run P w = .ok b w := by
  unfold tagg at h
  cases hu : P.underlying t with
  | none => simp [hu] at h
  | some d => unfold isAgg; simp [run_underlying hu]; simp [hu] at h; subst h; cases d <;> simp

theorem kind_of {t : TypeId} {k : TK} (h : tkind P t = some k) : ∃ d, P.underlying t = some d ∧ (match k with | .arr n e => d = .array n e | .slc e => d = .slice e | .str => d = .string | .oth => True) := by
  unfold tkind at h
  cases hu : P.underlying t with
  | none => simp [hu] at h
  | some d => simp [hu] at h; subst h; refine ⟨d, rfl, ?_⟩; cases d <;> simp

theorem denL_len (ρ : Env) (l : List CV) : (CV.denL ρ l).length = l.length := by simp [CV.denL_eq]

theorem takeN_eq : ∀ (n : Nat) (l cs : List CV), takeN n l = some cs → cs = l.take n ∧ cs.length = n
  | 0, l, cs, h => by simp [takeN] at h; subst h; simp
  | n + 1, [], cs, h => by simp [takeN] at h
  | n + 1, x :: r, cs, h => by
    simp only [takeN, Option.map_eq_some_iff] at h
    obtain ⟨c, hc, rfl⟩ := h
    obtain ⟨h1, h2⟩ := takeN_eq n r c hc
    simp [h1] at h2 ⊢
    exact h2

theorem subL_eq : ∀ (l : List CV) (f n : Nat) (cs : List CV), subL l f n = some cs → cs = (l.drop f).take n ∧ cs.length = n
  | l, 0, n, cs, h => by simp only [subL] at h; simpa using takeN_eq n l cs h
  | [], f + 1, n, cs, h => by simp [subL] at h
  | x :: r, f + 1, n, cs, h => by simp only [subL] at h; simpa using subL_eq r f n cs h

theorem subL_get {l : List CV} {f n : Nat} {cs : List CV} (h : subL l f n = some cs) {j : Nat} (hj : j < n) : l[f + j]? = cs[j]? := by
  obtain ⟨rfl, h2⟩ := subL_eq _ _ _ _ h
  rw [List.getElem?_take_of_lt hj, List.getElem?_drop]

theorem spl_eq : ∀ (l : List CV) (f : Nat) (ys l' : List CV), spl l f ys = some l' → l'.length = l.length ∧ f + ys.length ≤ l.length ∧ l' = l.take f ++ ys ++ l.drop (f + ys.length)
  | l, 0, [], l', h => by simp [spl] at h; subst h; simp
  | [], 0, y :: ys, l', h => by simp [spl] at h
  | x :: r, 0, y :: ys, l', h => by
    simp only [spl, Option.map_eq_some_iff] at h
    obtain ⟨c, hc, rfl⟩ := h
    obtain ⟨h1, h2, h3⟩ := spl_eq r 0 ys c hc
    refine ⟨by simp [h1], by simp at h2 ⊢; omega, ?_⟩
    simp only [List.take_zero, List.nil_append, Nat.zero_add] at h3 ⊢
    rw [h3]; simp
  | [], f + 1, ys, l', h => by simp [spl] at h
  | x :: r, f + 1, ys, l', h => by
    simp only [spl, Option.map_eq_some_iff] at h
    obtain ⟨c, hc, rfl⟩ := h
    obtain ⟨h1, h2, h3⟩ := spl_eq r f ys c hc
    refine ⟨by simp [h1], by simp; omega, ?_⟩
    rw [h3]
    simp [Nat.add_right_comm f 1]
def FrOk (st : St) (ρ : Env) (a : Act) : Prop := ∀ t, (lk st.fr t).ok = true → a.tmps.getD t undef = (lk st.fr t).den ρ

theorem ev_eq {st : St} {ρ : Env} {a : Act} (h : FrOk st ρ a) (x : Operand) (hx : (st.ev x).ok = true) : a.eval x = (st.ev x).den ρ := by
  cases x with
  | tmp t => exact h t hx
  | const v => rfl
  | global g => simp [Act.eval, St.ev, SV.den, CV.den]
  | func f => simp [Act.eval, St.ev, SV.den, CV.den, CV.denL]
def ValOk (P : Program) (o : Oper) (st : St) (x : SV) : Prop :=
  ∀ (C : Cx) (ρ : Env) (a : Act) (w : World), FrOk st ρ a → HpOk C ρ w st.hp → (execOp a.eval o).run P w = .ok (.value (x.den ρ)) w

theorem wOk_out {x : SV} {F : SV → Prop} (h : wOk x F) : x.ok = true ∧ F x := by
  cases x <;> simp_all [wOk, SV.ok]
theorem wPk_out {c x y : SV} {F : SV → Prop} (h : wPk c x y F) : ∃ b, c = .c (.v (.bool b)) ∧ (b = true → wOk x F) ∧ (b = false → wOk y F) := by
  unfold wPk at h; split at h
  · exact ⟨_, rfl, h⟩
  · exact h.elim

theorem mkV_ok {ag : Bool} {cs : List CV} {n : Nat} (hl : cs.length = bif ag then n else 1) : (mkV ag cs).ok = true := by
  cases ag with
  | true => rfl
  | false => simp at hl; match cs, hl with | [x], _ => rfl

theorem mem_hget : ∀ {hp : List (Nat × Blk)} {n : Nat} {b : Blk}, hget hp n = some b → (n, b) ∈ hp
  | [], n, b, h => by simp [hget] at h
  | (a, x) :: r, n, b, h => by
    simp only [hget] at h
    cases hb : Nat.beq a n with
    | true => rw [hb] at h; have := Nat.eq_of_beq_eq_true hb; simp at h; subst h; subst this; simp
    | false => rw [hb] at h; exact List.mem_cons_of_mem _ (mem_hget h)

theorem rowsL_len {r : Nat → List CV} {e : Nat} : ∀ (k : Nat), (∀ i, i < k → (r i).length = e) → (rowsL r k).length = k * e
  | 0, _ => by simp [rowsL]
  | k + 1, h => by
    have := rowsL_len k (fun i hi => h i (by omega))
    simp only [rowsL, List.range_succ, List.flatMap_append, List.length_append, List.flatMap_cons, List.flatMap_nil, List.append_nil] at this ⊢
    rw [this, h k (by omega), Nat.add_mul]; omega

theorem rowsL_get {r : Nat → List CV} {e : Nat} : ∀ (k : Nat), (∀ i, i < k → (r i).length = e) → ∀ i q, i < k → q < e → (rowsL r k)[i * e + q]? = (r i)[q]?
  | 0, _, i, q, h, _ => by omega
  | k + 1, h, i, q, hi, hq => by
    have hl := rowsL_len k (fun i hi => h i (by omega))
    have ih := rowsL_get k (fun i hi => h i (by omega)) i q
    simp only [rowsL, List.range_succ, List.flatMap_append, List.flatMap_cons, List.flatMap_nil, List.append_nil] at hl ih ⊢
    rcases Nat.lt_or_ge i k with hik | hik
    · have : (i + 1) * e ≤ k * e := Nat.mul_le_mul_right e hik
      rw [Nat.add_mul] at this
      rw [List.getElem?_append_left (by omega)]
      exact ih hik hq
    · have : i = k := by omega
      subst this
      rw [List.getElem?_append_right (by omega), hl]
      congr 1; omega

theorem div_mod_lt {q k e : Nat} (h : q < k * e) (he : 0 < e) : q / e < k ∧ q % e < e ∧ q / e * e + q % e = q :=
  ⟨Nat.div_lt_of_lt_mul (by rw [Nat.mul_comm]; exact h), Nat.mod_lt _ he, by rw [Nat.mul_comm]; exact Nat.div_add_mod q e⟩
theorem HeapAt.of {w : World} {b : Nat} {arr : Array Value} {ty : TypeId} {e : Nat} (h : w.heap[b]? = some (.cells arr ty (0, 0))) : HeapAt w b arr ty e := ⟨_, h, .inl rfl⟩
theorem HeapAt.lt {w : World} {b : Nat} {arr : Array Value} {ty : TypeId} {e : Nat} (h : HeapAt w b arr ty e) : b < w.heap.size := (Array.getElem?_eq_some_iff.1 h.choose_spec.1).1
theorem HeapAt.same {w w' : World} {b : Nat} {arr : Array Value} {ty : TypeId} {e : Nat} (h : HeapAt w b arr ty e) (hs : w'.heap[b]? = w.heap[b]?) : HeapAt w' b arr ty e := by
  obtain ⟨fz, h1, h2⟩ := h
  exact ⟨fz, by rw [hs]; exact h1, h2⟩
theorem HeapAt.inj {w : World} {b : Nat} {arr arr' : Array Value} {ty ty' : TypeId} {e e' : Nat} (h : HeapAt w b arr ty e) (h' : HeapAt w b arr' ty' e') : arr = arr' := by
  obtain ⟨fz, h1, h2⟩ := h
  obtain ⟨fz', h1', h2'⟩ := h'
  rw [h1] at h1'
  simp only [Option.some.injEq, Obj.cells.injEq] at h1'
  exact h1'.1
theorem HeapAt.cell {w : World} {b : Nat} {arr : Array Value} {ty : TypeId} {e : Nat} (h : HeapAt w b arr ty e) (off : Nat) : w.cell? ⟨b, off, none⟩ = arr[off]? := by
  obtain ⟨fz, h1, h2⟩ := h
  simp [World.cell?, h1]
theorem HeapAt.zero {w : World} {b : Nat} {arr : Array Value} {ty : TypeId} {e : Nat} (h : HeapAt w b arr ty e) (he : e ≠ 1) : w.heap[b]? = some (.cells arr ty (0, 0)) := by
  obtain ⟨fz, h1, h2⟩ := h
  rcases h2 with rfl | h2
  · exact h1
  · exact absurd h2.2 he
theorem rdB_out {hp : List (Nat × Blk)} {b i f n : Nat} {F : List CV → Prop} (h : rdB (hget hp b) i f n F) :
    ∃ cs, F cs ∧ cs.length = n ∧ ∀ (C : Cx) (ρ : Env) (w : World), HpOk C ρ w hp → ∀ j, j < n → w.cell? ⟨(ρ b).blk, (ρ b).base + i * (ρ b).esz + f + j, none⟩ = (cs[j]?).map (CV.den ρ) := by
  unfold rdB at h
  split at h
  · rename_i ty cs hb
    obtain ⟨rfl, h⟩ := h
    unfold wO at h; split at h
    · rename_i l hl
      refine ⟨l, h, (subL_eq _ _ _ _ hl).2, fun C ρ w hp j hj => ?_⟩
      obtain ⟨h0, h1, _⟩ := hp _ _ (mem_hget hb)
      simp [World.cell?, h1, h0, subL_get hl hj]
    · exact h.elim
  · rename_i ty e m c r hb
    cases hone : Nat.ble (f + n) e with
    | false =>
      rw [hone] at h
      simp only [cond_false] at h
      obtain ⟨⟨rfl, he, hn, him, hl⟩, h⟩ := h
      have hlen := rowsL_len (r := fun j => r (i + j)) (e := e) (n / e) hl
      refine ⟨_, h, by rw [hlen]; exact hn.symm, fun C ρ w hp j hj => ?_⟩
      obtain ⟨h0, h1, ⟨arr, h2, _, h3⟩, _⟩ := hp _ _ (mem_hget hb)
      rw [hn] at hj
      obtain ⟨d1, d2, d3⟩ := div_mod_lt hj he
      obtain ⟨h4, h5⟩ := h3 (i + j / e) (by omega)
      have h6 := rowsL_get (r := fun j => r (i + j)) (e := e) (n / e) hl (j / e) (j % e) d1 d2
      rw [d3] at h6
      have h7 := h5 (j % e) d2
      rw [Nat.add_mul, Nat.add_assoc, d3] at h7
      subst h1
      rw [h0, h2.cell]
      simp only [Nat.zero_add, Nat.add_zero]
      rw [h6, ← h7]
    | true =>
    rw [hone] at h
    simp only [cond_true] at h
    obtain ⟨him, h⟩ := h
    unfold wO at h; split at h
    · rename_i l hl
      refine ⟨l, h, (subL_eq _ _ _ _ hl).2, fun C ρ w hp j hj => ?_⟩
      obtain ⟨h0, h1, ⟨arr, h2, _, h3⟩, _⟩ := hp _ _ (mem_hget hb)
      obtain ⟨h4, h5⟩ := h3 i him
      obtain ⟨g1, g2⟩ := subL_eq _ _ _ _ hl
      have hfj : f + j < e := by
        rw [← h4]
        have h6 := subL_get hl hj
        have : (l[j]?).isSome := by simp [g2, hj]
        rw [← h6] at this
        simpa using this
      have h7 := h5 (f + j) hfj
      subst h1
      rw [h0, h2.cell, ← subL_get hl hj, ← h7]
      congr 1; omega
    · exact h.elim
  · rename_i e m r hb
    obtain ⟨him, h⟩ := h
    unfold wO at h; split at h
    · rename_i l hl
      refine ⟨l, h, (subL_eq _ _ _ _ hl).2, fun C ρ w hp j hj => ?_⟩
      obtain ⟨h1, h3, _⟩ := hp _ _ (mem_hget hb)
      obtain ⟨h4, h5⟩ := h3 i him
      obtain ⟨g1, g2⟩ := subL_eq _ _ _ _ hl
      have hfj : f + j < e := by
        rw [← h4]
        have h6 := subL_get hl hj
        have : (l[j]?).isSome := by simp [g2, hj]
        rw [← h6] at this
        simpa using this
      have h7 := h5 (f + j) hfj
      subst h1
      simp only [← Nat.add_assoc] at h7
      rw [h7, subL_get hl hj]
    · exact h.elim
  · exact h.elim

theorem addr_add (a : Addr) (n : Nat) (h : a.spot = none) : a.add n = ⟨a.block, a.off + n, none⟩ := by
  unfold Addr.add
  split
  · subst n; cases a; simp_all
  · simp
theorem loadVar_of {t : TypeId} {ag : Bool} {n : Nat} (hag : tagg P t = some ag) (hn : tsz P t = some n) {w : World} {a : Addr} (ha : a.spot = none) {ρ : Env} {cs : List CV} (hl : cs.length = bif ag then n else 1)
    (hc : ∀ j, j < (bif ag then n else 1) → w.cell? ⟨a.block, a.off + j, none⟩ = (cs[j]?).map (CV.den ρ)) : (loadVar t a).run P w = .ok ((mkV ag cs).den ρ) w := by
  unfold loadVar
  cases ag with
  | true =>
    have := run_loadCells_list (P := P) (w := w) a (CV.denL ρ cs) (fun j v hj => by
      have hj' : j < n := by
        have := (List.getElem?_eq_some_iff.1 hj).1; simpa [denL_len, hl] using this
      rw [addr_add _ _ ha, hc j (by simpa using hj')]
      rw [CV.denL_eq, List.getElem?_map] at hj
      exact hj)
    rw [denL_len, hl] at this
    simp [isAgg_of hag, sizeOf_of hn, mkV, SV.den]
    simp at this
    rw [this]; rfl
  | false =>
    simp at hl
    match cs, hl with
    | [x], _ =>
      have h0 := hc 0 (by simp)
      simp at h0
      have : a = ⟨a.block, a.off, none⟩ := by cases a; simp_all
      rw [← this] at h0
      simp [isAgg_of hag, mkV, SV.den, h0]


theorem wO_out {α : Type} {x : Option α} {F : α → Prop} (h : wO x F) : ∃ y, x = some y ∧ F y := by
  cases x with
  | none => exact h.elim
  | some y => exact ⟨y, rfl, h⟩
theorem wP_out {x : SV} {F : Nat → Nat → Nat → Prop} (h : wP x F) : ∃ b i f, x = .c (.p b i f) ∧ F b i f := by
  unfold wP at h; split at h
  · exact ⟨_, _, _, rfl, h⟩
  · exact h.elim
theorem wI_out {x : SV} {F : IntKind → Int → Prop} (h : wI x F) : ∃ k n, x = .c (.v (.int k n)) ∧ F k n := by
  unfold wI at h; split at h
  · exact ⟨_, _, rfl, h⟩
  · exact h.elim
theorem wB_out {x : SV} {p q : St → Prop} {st : St} (h : wB x p q st) : ∃ b, x = .c (.v (.bool b)) ∧ (b = true → p st) ∧ (b = false → q st) := by
  unfold wB at h; split at h
  · exact ⟨_, rfl, h⟩
  · exact h.elim

theorem nc (x : CV) : (SV.c x).ok = true := rfl
theorem val_of {o : Oper} {st : St} {F : SV → Prop} {x : SV} (hF : F x) (hx : x.ok = true)
    (h : ∀ (C : Cx) (ρ : Env) (a : Act) (w : World), FrOk st ρ a → HpOk C ρ w st.hp → (execOp a.eval o).run P w = .ok (.value (x.den ρ)) w) : ∃ x, F x ∧ x.ok = true ∧ ValOk P o st x :=
  ⟨x, hF, hx, h⟩

section ops
variable {st : St} {F : SV → Prop} {d : Option Tmp} {ty : TypeId} {pos : String} {af : Array Edge} {g : Option (Nat × Bool)}

theorem ev_c {st : St} {ρ : Env} {a : Act} (h : FrOk st ρ a) {x : Operand} {y : SV} (hy : st.ev x = y) (hok : y.ok = true) : a.eval x = y.den ρ := by
  rw [ev_eq h x (by rw [hy]; exact hok), hy]

theorem val_move {x : Operand} (h : XV P (.move x) st F) : ∃ x', F x' ∧ x'.ok = true ∧ ValOk P ⟨d, .move x, ty, pos, af, g⟩ st x' := by
  obtain ⟨h1, h2⟩ := wOk_out h
  exact val_of h2 h1 fun C ρ a w hf _ => by simp [execOp, ev_eq hf x h1]
theorem val_assign {x : Operand} (h : XV P (.assign x) st F) : ∃ x', F x' ∧ x'.ok = true ∧ ValOk P ⟨d, .assign x, ty, pos, af, g⟩ st x' := by
  obtain ⟨h1, h2⟩ := wOk_out h
  exact val_of h2 h1 fun C ρ a w hf _ => by simp [execOp, ev_eq hf x h1]
theorem val_pick {c x y : Operand} (h : XV P (.pick c x y) st F) : ∃ x', F x' ∧ x'.ok = true ∧ ValOk P ⟨d, .pick c x y, ty, pos, af, g⟩ st x' := by
  obtain ⟨b, hb, h1, h2⟩ := wPk_out h
  cases b with
  | true =>
    obtain ⟨h3, h4⟩ := wOk_out (h1 rfl)
    exact val_of h4 h3 fun C ρ a w hf _ => by simp [execOp, ev_eq hf x h3, ev_c hf hb rfl, SV.den, CV.den, asBool]
  | false =>
    obtain ⟨h3, h4⟩ := wOk_out (h2 rfl)
    exact val_of h4 h3 fun C ρ a w hf _ => by simp [execOp, ev_eq hf y h3, ev_c hf hb rfl, SV.den, CV.den, asBool]
theorem val_nilCheck {x : Operand} (h : XV P (.nilCheck x) st F) : ∃ x', F x' ∧ x'.ok = true ∧ ValOk P ⟨d, .nilCheck x, ty, pos, af, g⟩ st x' := by
  change XNil (st.ev x) F at h
  unfold XNil at h
  split at h <;> rename_i hx <;> first | exact h.elim | exact val_of h rfl fun C ρ a w hf _ => by simp [execOp, ev_c hf hx rfl, SV.den, CV.den]
theorem val_s2a {t : TypeId} {x : Operand} (h : XV P (.sliceToArrayPointer t x) st F) : ∃ x', F x' ∧ x'.ok = true ∧ ValOk P ⟨d, .sliceToArrayPointer t x, ty, pos, af, g⟩ st x' := by
  obtain ⟨k, hk, h⟩ := wO_out h
  obtain ⟨ds, hu, hds⟩ := kind_of hk
  unfold XS2A at h
  split at h
  · rename_i n e b i len c hx
    obtain ⟨hn, h⟩ := h
    simp only at hds; subst hds
    refine val_of h rfl fun C ρ a w hf _ => ?_
    have : ¬ len < n := by omega
    simp [execOp, Instr.arrayAt, ev_c hf hx rfl, SV.den, CV.den, run_underlying hu, this]
  · exact h.elim
theorem val_load {t : TypeId} {x : Operand} (h : XV P (.load t x) st F) : ∃ x', F x' ∧ x'.ok = true ∧ ValOk P ⟨d, .load t x, ty, pos, af, g⟩ st x' := by
  obtain ⟨ag, hag, h⟩ := wO_out h
  obtain ⟨n, hn, h⟩ := wO_out h
  obtain ⟨b, i, f, hx, h⟩ := wP_out h
  obtain ⟨cs, hF, hl, hc⟩ := rdB_out h
  exact val_of hF (mkV_ok hl) fun C ρ a w hf hp => by
    have := loadVar_of hag hn (w := w) (a := ⟨(ρ b).blk, (ρ b).base + i * (ρ b).esz + f, none⟩) rfl hl (fun j hj => hc C ρ w hp j hj)
    simp [execOp, Instr.loadAt, Instr.sureAddr, ev_c hf hx rfl, SV.den, CV.den, this]
    first | done | rfl
theorem val_extract {x : Operand} {k : Nat} (h : XV P (.extract x k) st F) : ∃ x', F x' ∧ x'.ok = true ∧ ValOk P ⟨d, .extract x k, ty, pos, af, g⟩ st x' := by
  change XExt (st.ev x) k F at h
  unfold XExt at h
  split at h
  · rename_i l hx
    obtain ⟨hok, h⟩ := h
    obtain ⟨y, hy, h⟩ := wO_out h
    obtain ⟨h3, h4⟩ := wOk_out h
    refine val_of h4 h3 fun C ρ a w hf _ => ?_
    have hv := ev_c hf hx hok
    simp [execOp, Instr.extract, hv, SV.den, SV.denL_eq, hy]
  · exact h.elim

theorem intEq (m n : Int) : (m == n) = decide (m = n) := by rw [Bool.eq_iff_iff]; simp
theorem guard_plain (op : BinOp) (t : TypeId) (c d : Operand) (x y : Value) (w : World) (h1 : x ≠ .nilIface) (h2 : ∀ l, x ≠ .agg l) : (eqGuard op t c d x y).run P w = .ok () w := by
  unfold eqGuard
  cases op <;> first | rfl | skip
  all_goals
    cases x <;> first | rfl | exact absurd rfl h1 | exact absurd rfl (h2 _)

theorem binI_out {op : BinOp} {k k' : IntKind} {m n : Int} {t : TypeId} (hk : (op = .shl ∨ op = .shr) ∨ k = k') (h : binI op k m n F) :
    ∃ v, F (.c (.v v)) ∧ ∀ w, (binOp op t (.int k m) (.int k' n)).run P w = .ok v w := by
  cases op <;> simp only [binI] at h
  case shl => exact ⟨_, h.2, fun w => by simp [binOp, Op.shift, Int.not_lt.2 h.1]⟩
  case shr => exact ⟨_, h.2, fun w => by simp [binOp, Op.shift, Int.not_lt.2 h.1]⟩
  all_goals (simp at hk; subst hk)
  case quo => exact ⟨_, h.2, fun w => by simp [binOp, Op.intDiv, h.1]⟩
  case rem => exact ⟨_, h.2, fun w => by simp [binOp, Op.intDiv, h.1]⟩
  case eql => exact ⟨_, h, fun w => by simp [binOp, Op.intCmp, intEq]⟩
  case neq => exact ⟨_, h, fun w => by simp [binOp, Op.intCmp, intEq, bne]⟩
  all_goals exact ⟨_, h, fun w => by simp [binOp, Op.intArith, Op.intBits, Op.intCmp, ibit]⟩

theorem run_seq {α β : Type} (x : Sem α) (y : Sem β) (w : World) {u : α} (h : x.run P w = .ok u w) : (do let _ ← x; y).run P w = y.run P w := by
  simp [h]

theorem toList_inj {a b : ByteArray} : (a.toList == b.toList) = decide (a = b) := by
  have h1 : ∀ c : ByteArray, c.toList = c.data.toList := fun c => ByteArray.toList_eq c
  by_cases h : a = b
  · subst h; simp
  · have : ¬ a.toList = b.toList := fun e => h (by
      rw [h1, h1] at e
      cases a; cases b; simp at e; simp [e])
    simp [this, h]

theorem neg_of {op : BinOp} {n : Bool} (h : neg? op = some n) : (op = .eql ∧ n = false) ∨ (op = .neq ∧ n = true) := by
  cases op <;> simp [neg?] at h <;> simp [h]
theorem eqlike {op : BinOp} {n : Bool} (h : neg? op = some n) {t : TypeId} {x y : Value} {e : Bool} {w : World} (hg : ∀ c d : Operand, (eqGuard op t c d x y).run P w = .ok () w)
    (he : (Op.equal t x y).run P w = .ok e w) (h1 : ∀ k m, x ≠ .int k m) (h2 : ∀ s, x ≠ .string s) (h3 : ∀ k m, x ≠ .float k m) (h4 : ∀ k m l, x ≠ .complex k m l) (c d : Operand) :
    (do eqGuard op t c d x y; binOp op t x y).run P w = .ok (.bool (xor n e)) w := by
  rw [run_seq _ _ _ (hg c d)]
  rcases neg_of h with ⟨rfl, rfl⟩ | ⟨rfl, rfl⟩
  · cases x <;> simp at h1 h2 h3 h4 <;> simp [binOp, he]
  · cases x <;> simp at h1 h2 h3 h4 <;> simp [binOp, he]
theorem tptr_of {t : TypeId} (h : tptr P t = some true) : ∃ e, P.underlying t = some (.pointer e) := by
  unfold tptr at h; cases hu : P.underlying t with
  | none => simp [hu] at h
  | some d => simp [hu] at h; cases d <;> simp at h; exact ⟨_, rfl⟩
theorem tslc_of {t : TypeId} (h : tslc P t = some true) : ∃ e, P.underlying t = some (.slice e) := by
  unfold tslc at h; cases hu : P.underlying t with
  | none => simp [hu] at h
  | some d => simp [hu] at h; cases d <;> simp at h; exact ⟨_, rfl⟩
theorem tmap_of {t : TypeId} (h : tmap P t = some true) : ∃ k e, P.underlying t = some (.map k e) := by
  unfold tmap at h; cases hu : P.underlying t with
  | none => simp [hu] at h
  | some d => simp [hu] at h; cases d <;> simp at h; exact ⟨_, _, rfl⟩
theorem tbool_of {t : TypeId} (h : tbool P t = some true) : P.underlying t = some .bool := by
  unfold tbool at h; cases hu : P.underlying t with
  | none => simp [hu] at h
  | some d => simp [hu] at h; cases d <;> simp at h; rfl
theorem eq_ptr_nil {t e : TypeId} (h : P.underlying t = some (.pointer e)) (a : Option Addr) (w : World) : (Op.equal t (.pointer a) (.pointer none)).run P w = .ok a.isNone w := by
  unfold Op.equal Op.maxDepth Op.equalIn
  cases a <;> simp [run_underlying h]
theorem eq_slc_nil {t e : TypeId} (h : P.underlying t = some (.slice e)) (a : Option Addr) (l c l' c' : Nat) (w : World) : (Op.equal t (.slice a l c) (.slice none l' c')).run P w = .ok a.isNone w := by
  unfold Op.equal Op.maxDepth Op.equalIn
  cases a <;> simp [run_underlying h]
theorem eq_map_nil {t k e : TypeId} (h : P.underlying t = some (.map k e)) (a : Option Nat) (w : World) : (Op.equal t (.map a) (.map none)).run P w = .ok a.isNone w := by
  unfold Op.equal Op.maxDepth Op.equalIn
  cases a <;> simp [run_underlying h]
theorem eq_bool {t : TypeId} (h : P.underlying t = some .bool) (a b : Bool) (w : World) : (Op.equal t (.bool a) (.bool b)).run P w = .ok (decide (a = b)) w := by
  unfold Op.equal Op.maxDepth Op.equalIn
  simp [run_underlying h]; cases a <;> cases b <;> rfl

theorem part_of {t : TypeId} {ag : Bool} {n : Nat} (hag : tagg P t = some ag) (hn : tsz P t = some n) {off : Nat} {cs l : List CV} {ρ : Env} (hl : subL cs off (bif ag then n else 1) = some l) (w : World) :
    (part t (CV.denL ρ cs).toArray off).run P w = .ok ((mkV ag l).den ρ) w := by
  obtain ⟨h1, h2⟩ := subL_eq _ _ _ _ hl
  unfold part
  cases ag with
  | true =>
    simp [isAgg_of hag, sizeOf_of hn, mkV, SV.den, CV.denL_eq, h1, List.map_take, List.map_drop]
    first | done | (rw [show off + n - off = n from by omega])
  | false =>
    simp at h2 hl
    match l, h2 with
    | [x], _ =>
      have := subL_get hl (j := 0) (by omega)
      simp at this
      simp [isAgg_of hag, mkV, SV.den, CV.denL_eq, this]

theorem eqL_len : ∀ {ks : List LK} {xs ys : List CV} {b : Bool}, eqL ks xs ys = some b → xs.length = ks.length ∧ ys.length = ks.length
  | [], [], [], _, _ => ⟨rfl, rfl⟩
  | k :: ks, x :: r, y :: s, b, h => by
    simp only [eqL, Option.bind_eq_some_iff, Option.map_eq_some_iff] at h
    obtain ⟨b1, _, b2, h2, _⟩ := h
    have := eqL_len h2
    simp [this.1, this.2]
  | [], [], _ :: _, _, h => by simp [eqL] at h
  | [], _ :: _, _, _, h => by simp [eqL] at h
  | _ :: _, [], _, _, h => by simp [eqL] at h
  | _ :: _, _ :: _, [], _, h => by simp [eqL] at h

theorem eqL_app : ∀ {ks ks2 : List LK} {xs ys : List CV} {b : Bool}, eqL (ks ++ ks2) xs ys = some b →
    ∃ b1 b2, eqL ks (xs.take ks.length) (ys.take ks.length) = some b1 ∧ eqL ks2 (xs.drop ks.length) (ys.drop ks.length) = some b2 ∧ b = (b1 && b2)
  | [], ks2, xs, ys, b, h => ⟨true, b, by simp [eqL], by simpa using h, by simp⟩
  | k :: ks, ks2, x :: r, y :: s, b, h => by
    simp only [List.cons_append, eqL, Option.bind_eq_some_iff, Option.map_eq_some_iff] at h
    obtain ⟨b1, h1, b2, h2, rfl⟩ := h
    obtain ⟨c1, c2, e1, e2, rfl⟩ := eqL_app h2
    exact ⟨b1 && c1, c2, by simp [eqL, h1, e1], by simpa using e2, by simp [Bool.and_assoc]⟩
  | _ :: _, _, [], _, _, h => by simp [eqL] at h
  | _ :: _, _, _ :: _, [], _, h => by simp [eqL] at h

theorem takeN_of : ∀ (n : Nat) (l : List CV), n ≤ l.length → takeN n l = some (l.take n)
  | 0, l, _ => by simp [takeN]
  | n + 1, [], h => by simp at h
  | n + 1, x :: r, h => by simp [takeN, takeN_of n r (by simpa using h)]
theorem subL_of : ∀ (l : List CV) (f n : Nat), f + n ≤ l.length → subL l f n = some ((l.drop f).take n)
  | l, 0, n, h => by
    have := takeN_of n l (by omega)
    cases l <;> simpa [subL] using this
  | [], f + 1, n, h => by simp at h
  | x :: r, f + 1, n, h => by simp only [subL, List.drop_succ_cons]; exact subL_of r f n (by simp at h; omega)

theorem fields_flat {d D : Nat} {ρ : Env} {w : World} {X Y : List CV} (ih : ∀ t ks xs ys b, leafIn P d t = some ks → eqL ks xs ys = some b → ∃ ag, tagg P t = some ag ∧ (ag = false → ks.length = 1) ∧ (Op.equalIn (d + D) t ((mkV ag xs).den ρ) ((mkV ag ys).den ρ)).run P w = .ok b w) :
    ∀ (fs : List Field) (off : Nat) (ks : List LK) (b : Bool), leafFs P (leafIn P d) off fs = some ks → eqL ks (X.drop off) (Y.drop off) = some b → (Op.eqFields (d + D) (CV.denL ρ X).toArray (CV.denL ρ Y).toArray fs).run P w = .ok b w
  | [], off, ks, b, h, he => by
    simp only [leafFs, Option.some.injEq] at h
    subst h
    have hb : b = true := by
      generalize X.drop off = x at he; generalize Y.drop off = y at he
      cases x <;> cases y <;> simp [eqL] at he; first | exact he | exact he.symm
    subst hb; simp [Op.eqFields]
  | f :: fs, off, ks, b, h, he => by
    simp only [leafFs] at h
    cases hg : (decide (f.name ≠ "_") && Nat.beq f.offset off) with
    | false => rw [hg] at h; cases h
    | true =>
      rw [hg] at h
      simp only [cond_true, Option.bind_eq_some_iff] at h
      obtain ⟨l, hl, h⟩ := h
      cases hg2 : (decide (tsz P f.type = some l.length) && Nat.ble 1 l.length) with
      | false => rw [hg2] at h; cases h
      | true =>
        rw [hg2] at h
        simp only [cond_true, Option.map_eq_some_iff] at h
        obtain ⟨l2, h2, rfl⟩ := h
        simp only [Bool.and_eq_true, decide_eq_true_eq, Nat.beq_eq_true_eq, Nat.ble_eq] at hg hg2
        obtain ⟨hnm, hoff⟩ := hg
        have hoff : f.offset = off := by first | exact hoff | exact Nat.eq_of_beq_eq_true hoff
        obtain ⟨hsz, hone⟩ := hg2
        obtain ⟨b1, b2, e1, e2, rfl⟩ := eqL_app he
        obtain ⟨ag, hag, h1, hr⟩ := ih f.type l _ _ b1 hl e1
        have hlen := eqL_len e1
        simp only [List.length_take, List.length_drop] at hlen
        have hx : subL X f.offset (bif ag then l.length else 1) = some ((X.drop off).take l.length) := by
          rw [hoff, show (bif ag then l.length else 1) = l.length by cases ag <;> simp [h1]]
          exact subL_of X off l.length (by have := hlen.1; have := hlen.2; omega)
        have hy : subL Y f.offset (bif ag then l.length else 1) = some ((Y.drop off).take l.length) := by
          rw [hoff, show (bif ag then l.length else 1) = l.length by cases ag <;> simp [h1]]
          exact subL_of Y off l.length (by omega)
        have p1 := part_of (P := P) hag hsz hx (ρ := ρ) w
        have p2 := part_of (P := P) hag hsz hy (ρ := ρ) w
        rw [List.drop_drop, List.drop_drop] at e2
        have hrest := fields_flat ih fs (off + l.length) l2 b2 h2 e2
        simp only [Op.eqFields, hnm, ne_eq, not_false_eq_true, if_true, Sem.run_bind, p1, p2, Result.andThen_ok, hr]
        cases b1
        · simp
        · simpa using hrest

theorem items_flat {d D : Nat} {ρ : Env} {w : World} {X Y : List CV} {e : TypeId} {l : List LK} {ag : Bool} (hag : tagg P e = some ag) (hsz : tsz P e = some l.length) (h1 : ag = false → l.length = 1)
    (ih : ∀ xs ys b, eqL l xs ys = some b → (Op.equalIn (d + D) e ((mkV ag xs).den ρ) ((mkV ag ys).den ρ)).run P w = .ok b w) :
    ∀ (n i : Nat) (b : Bool), eqL (List.replicate n l).flatten (X.drop (i * l.length)) (Y.drop (i * l.length)) = some b → (Op.eqItems (d + D) e l.length (CV.denL ρ X).toArray (CV.denL ρ Y).toArray (List.range' i n)).run P w = .ok b w
  | 0, i, b, he => by
    have hb : b = true := by
      generalize X.drop (i * l.length) = x at he; generalize Y.drop (i * l.length) = y at he
      cases x <;> cases y <;> simp [eqL] at he; first | exact he | exact he.symm
    subst hb; simp [Op.eqItems]
  | n + 1, i, b, he => by
    rw [List.replicate_succ, List.flatten_cons] at he
    obtain ⟨b1, b2, e1, e2, rfl⟩ := eqL_app he
    have hr := ih _ _ b1 e1
    have hlen := eqL_len e1
    simp only [List.length_take, List.length_drop] at hlen
    have hx : subL X (i * l.length) (bif ag then l.length else 1) = some ((X.drop (i * l.length)).take l.length) := by
      rw [show (bif ag then l.length else 1) = l.length by cases ag <;> simp [h1]]
      rcases Nat.eq_zero_or_pos l.length with h0 | h0
      · simp only [h0, Nat.mul_zero]; cases X <;> simp [subL, takeN]
      · exact subL_of X _ l.length (by omega)
    have hy : subL Y (i * l.length) (bif ag then l.length else 1) = some ((Y.drop (i * l.length)).take l.length) := by
      rw [show (bif ag then l.length else 1) = l.length by cases ag <;> simp [h1]]
      rcases Nat.eq_zero_or_pos l.length with h0 | h0
      · simp only [h0, Nat.mul_zero]; cases Y <;> simp [subL, takeN]
      · exact subL_of Y _ l.length (by omega)
    have p1 := part_of (P := P) hag hsz hx (ρ := ρ) w
    have p2 := part_of (P := P) hag hsz hy (ρ := ρ) w
    rw [List.drop_drop, List.drop_drop, ← Nat.succ_mul] at e2
    have hrest := items_flat hag hsz h1 ih n (i + 1) b2 e2
    simp only [List.range'_succ, Op.eqItems, Sem.run_bind, p1, p2, Result.andThen_ok, hr]
    cases b1
    · simp
    · simpa using hrest

theorem eq1_b {x y : CV} {b : Bool} (h : eq1 .b x y = some b) : ∃ a c, x = .v (.bool a) ∧ y = .v (.bool c) ∧ b = decide (a = c) := by
  generalize hk : LK.b = k at h
  unfold eq1 at h
  split at h
  · cases hk
  · simp at h; exact ⟨_, _, rfl, rfl, h.symm⟩
  · cases hk
  · cases h
theorem eq1_i {x y : CV} {b : Bool} (h : eq1 .i x y = some b) : ∃ k a c, x = .v (.int k a) ∧ y = .v (.int k c) ∧ b = decide (a = c) := by
  generalize hk : LK.i = k at h
  unfold eq1 at h
  split at h
  · rename_i k1 a k2 c
    by_cases hq : k1 = k2
    · subst hq; simp at h; exact ⟨_, _, _, rfl, rfl, h.symm⟩
    · simp [hq] at h
  · cases hk
  · cases hk
  · cases h
theorem eq1_s {x y : CV} {b : Bool} (h : eq1 .s x y = some b) : ∃ a c, x = .v (.string a) ∧ y = .v (.string c) ∧ b = decide (a = c) := by
  generalize hk : LK.s = k at h
  unfold eq1 at h
  split at h
  · cases hk
  · cases hk
  · simp at h; exact ⟨_, _, rfl, rfl, h.symm⟩
  · cases h

theorem eq_flat {ρ : Env} {w : World} : ∀ (d D : Nat) (t : TypeId) (ks : List LK) (xs ys : List CV) (b : Bool), leafIn P d t = some ks → eqL ks xs ys = some b →
    ∃ ag, tagg P t = some ag ∧ (ag = false → ks.length = 1) ∧ (Op.equalIn (d + D) t ((mkV ag xs).den ρ) ((mkV ag ys).den ρ)).run P w = .ok b w
  | 0, _, _, _, _, _, _, h, _ => by simp [leafIn] at h
  | d + 1, D, t, ks, xs, ys, b, h, he => by
    have one : ∀ {k : LK}, eqL [k] xs ys = some b → ∃ x y, xs = [x] ∧ ys = [y] ∧ eq1 k x y = some b := fun {k} he => by
      have hl := eqL_len he
      match xs, ys, hl with
      | [x], [y], _ =>
        simp only [eqL, Option.bind_eq_some_iff, Option.map_eq_some_iff] at he
        obtain ⟨b1, h1, c, h2, h3⟩ := he
        simp at h2; subst h2; simp at h3; subst h3
        exact ⟨x, y, rfl, rfl, h1⟩
    rw [show d + 1 + D = d + D + 1 by omega]
    unfold leafIn at h
    split at h
    · rename_i hu
      injection h with h; subst h
      obtain ⟨x, y, rfl, rfl, h1⟩ := one he
      obtain ⟨a, c, rfl, rfl, rfl⟩ := eq1_b h1
      refine ⟨false, by simp [tagg, hu], fun _ => rfl, ?_⟩
      simp only [mkV, SV.den, CV.den, run_equalIn_bool' w _ t _ _ hu]
      cases a <;> cases c <;> rfl
    · rename_i k hu
      injection h with h; subst h
      obtain ⟨x, y, rfl, rfl, h1⟩ := one he
      obtain ⟨k1, a, c, rfl, rfl, rfl⟩ := eq1_i h1
      refine ⟨false, by simp [tagg, hu], fun _ => rfl, ?_⟩
      simp only [mkV, SV.den, CV.den, run_equalIn_int w _ t k1 _ _ _ hu, intEq]
    · rename_i hu
      injection h with h; subst h
      obtain ⟨x, y, rfl, rfl, h1⟩ := one he
      obtain ⟨a, c, rfl, rfl, rfl⟩ := eq1_s h1
      refine ⟨false, by simp [tagg, hu], fun _ => rfl, ?_⟩
      simp only [mkV, SV.den, CV.den, run_equalIn_string w _ t _ _ hu, toList_inj]
    · rename_i fs hu
      cases hs : P.stoodInHeld t with
      | true => rw [hs] at h; cases h
      | false =>
        rw [hs] at h
        simp only [cond_false] at h
        have hfo : P.fieldsOf t = fs := by simp [Program.fieldsOf, hu]
        refine ⟨true, by simp [tagg, hu], by simp, ?_⟩
        simp only [mkV, SV.den]
        rw [run_equalIn_struct w (d + D) t _ _ (by rw [hfo]; exact hu) hs, hfo]
        exact fields_flat (fun t ks xs ys b h1 h2 => eq_flat d D t ks xs ys b h1 h2) fs.toList 0 ks b h (by simpa using he)
    · rename_i n e hu
      simp only [Option.bind_eq_some_iff] at h
      obtain ⟨l, hl, h⟩ := h
      cases hg2 : (decide (tsz P e = some l.length) && Nat.ble 1 l.length) with
      | false => rw [hg2] at h; cases h
      | true =>
        rw [hg2] at h
        simp only [cond_true, Option.some.injEq] at h
        subst h
        simp only [Bool.and_eq_true, decide_eq_true_eq, Nat.ble_eq] at hg2
        obtain ⟨hsz, hone⟩ := hg2
        refine ⟨true, by simp [tagg, hu], by simp, ?_⟩
        simp only [mkV, SV.den]
        have hi : ∃ i, P.info? e = some i ∧ i.size = l.length := by
          unfold tsz at hsz; simpa using hsz
        obtain ⟨i, hi, his⟩ := hi
        have hco : P.cellsOf e = l.length := by simp [Program.cellsOf, hi, his]
        rw [run_equalIn_array w (d + D) _ _ hu hi, hco, List.range_eq_range']
        rcases Nat.eq_zero_or_pos n with h0 | h0
        · subst h0
          have hb : b = true := by
            cases xs <;> cases ys <;> simp [eqL] at he; first | exact he | exact he.symm
          subst hb; simp [Op.eqItems]
        · obtain ⟨ag, hag, h1, _⟩ : ∃ ag, tagg P e = some ag ∧ (ag = false → l.length = 1) ∧ True := by
            obtain ⟨m, rfl⟩ : ∃ m, n = m + 1 := ⟨n - 1, by omega⟩
            rw [List.replicate_succ, List.flatten_cons] at he
            obtain ⟨b1, b2, e1, _, _⟩ := eqL_app he
            obtain ⟨ag, hag, h1, _⟩ := eq_flat (ρ := ρ) (w := w) d D e l _ _ b1 hl e1
            exact ⟨ag, hag, h1, trivial⟩
          refine items_flat hag hsz h1 (fun xs ys b h2 => ?_) n 0 b (by simpa using he)
          obtain ⟨ag', hag', _, hr⟩ := eq_flat (ρ := ρ) (w := w) d D e l xs ys b hl h2
          rw [hag] at hag'; injection hag' with hag'; subst hag'
          exact hr
    · cases h

theorem guard_agg {t : TypeId} (h : P.eqGuardType P.depth t = false) (op : BinOp) (c d : Operand) (l l' : Array Value) (w : World) : (eqGuard op t c d (.agg l) (.agg l')).run P w = .ok () w := by
  unfold eqGuard
  cases op <;> first | rfl | simp [h]

theorem XBin_out {op : BinOp} {t : TypeId} {x y : SV} (hx : XBin P op t x y F) : ∃ z, F z ∧ z.ok = true ∧ ∀ (ρ : Env) (c d : Operand) (w : World),
    (do eqGuard op t c d (x.den ρ) (y.den ρ); binOp op t (x.den ρ) (y.den ρ)).run P w = .ok (z.den ρ) w := by
  unfold XBin at hx
  split at hx
  · rename_i k a k' b
    have h' : ∃ v, F (.c (.v v)) ∧ ∀ w, (binOp op t (.int k a) (.int k' b)).run P w = .ok v w := by
      by_cases hs : op = .shl ∨ op = .shr
      · simp [hs] at hx; exact binI_out (.inl hs) hx
      · simp [hs] at hx; exact binI_out (.inr hx.1) hx.2
    obtain ⟨v, hv, hr⟩ := h'
    refine ⟨_, hv, rfl, fun ρ c d w => ?_⟩
    simp only [SV.den, CV.den]
    rw [run_seq _ _ _ (guard_plain op t c d _ _ w (by simp) (by simp))]
    exact hr w
  · rename_i a b
    cases op <;> simp only [binS] at hx <;> first | exact hx.elim | skip
    · refine ⟨_, hx.2, rfl, fun ρ c d w => ?_⟩
      have : ¬ ((a.size + b.size : Nat) : Int) > IntKind.i64.max := by
        have : IntKind.i64.max = 9223372036854775807 := by decide
        rw [this]; omega
      simp only [SV.den, CV.den]
      rw [run_seq _ _ _ (guard_plain _ t c d _ _ w (by simp) (by simp))]
      simp only [binOp, Op.stringOp, if_neg this]
      simp
    · refine ⟨_, hx, rfl, fun ρ c d w => ?_⟩
      simp only [SV.den, CV.den]
      rw [run_seq _ _ _ (guard_plain _ t c d _ _ w (by simp) (by simp))]
      simp only [binOp, Op.stringOp, toList_inj]; simp
    · refine ⟨_, hx, rfl, fun ρ c d w => ?_⟩
      simp only [SV.den, CV.den]
      rw [run_seq _ _ _ (guard_plain _ t c d _ _ w (by simp) (by simp))]
      simp only [binOp, Op.stringOp, toList_inj]; simp
  · obtain ⟨ht, hx⟩ := hx
    obtain ⟨n, hn, hx⟩ := wO_out hx
    exact ⟨_, hx, rfl, fun ρ c d w => eqlike hn (fun c d => guard_plain _ _ _ _ _ _ _ (by simp [SV.den, CV.den]) (by simp [SV.den, CV.den])) (eq_bool (tbool_of ht) _ _ _) (by simp [SV.den, CV.den]) (by simp [SV.den, CV.den]) (by simp [SV.den, CV.den]) (by simp [SV.den, CV.den]) c d⟩
  · obtain ⟨ht, hx⟩ := hx
    obtain ⟨n, hn, hx⟩ := wO_out hx
    obtain ⟨e, hu⟩ := tptr_of ht
    refine ⟨_, hx, rfl, fun ρ c d w => ?_⟩
    simp only [SV.den, CV.den]
    exact (eqlike (w := w) hn (fun c d => guard_plain _ _ _ _ _ _ _ (by simp) (by simp)) (eq_ptr_nil hu (some _) _) (by simp) (by simp) (by simp) (by simp) c d).trans (by simp)
  · obtain ⟨ht, hx⟩ := hx
    obtain ⟨n, hn, hx⟩ := wO_out hx
    obtain ⟨e, hu⟩ := tptr_of ht
    exact ⟨_, hx, rfl, fun ρ c d w => eqlike hn (fun c d => guard_plain _ _ _ _ _ _ _ (by simp [SV.den, CV.den]) (by simp [SV.den, CV.den])) (eq_ptr_nil hu _ _) (by simp [SV.den, CV.den]) (by simp [SV.den, CV.den]) (by simp [SV.den, CV.den]) (by simp [SV.den, CV.den]) c d⟩
  · obtain ⟨ht, hx⟩ := hx
    obtain ⟨n, hn, hx⟩ := wO_out hx
    obtain ⟨e, hu⟩ := tslc_of ht
    refine ⟨_, hx, rfl, fun ρ c d w => ?_⟩
    simp only [SV.den, CV.den]
    exact (eqlike (w := w) hn (fun c d => guard_plain _ _ _ _ _ _ _ (by simp) (by simp)) (eq_slc_nil hu (some _) _ _ _ _ _) (by simp) (by simp) (by simp) (by simp) c d).trans (by simp)
  · obtain ⟨ht, hx⟩ := hx
    obtain ⟨n, hn, hx⟩ := wO_out hx
    obtain ⟨e, hu⟩ := tslc_of ht
    exact ⟨_, hx, rfl, fun ρ c d w => eqlike hn (fun c d => guard_plain _ _ _ _ _ _ _ (by simp [SV.den, CV.den]) (by simp [SV.den, CV.den])) (eq_slc_nil hu _ _ _ _ _ _) (by simp [SV.den, CV.den]) (by simp [SV.den, CV.den]) (by simp [SV.den, CV.den]) (by simp [SV.den, CV.den]) c d⟩
  · obtain ⟨ht, hx⟩ := hx
    obtain ⟨n, hn, hx⟩ := wO_out hx
    obtain ⟨k, e, hu⟩ := tmap_of ht
    exact ⟨_, hx, rfl, fun ρ c d w => eqlike hn (fun c d => guard_plain _ _ _ _ _ _ _ (by simp [SV.den, CV.den]) (by simp [SV.den, CV.den])) (eq_map_nil hu _ _) (by simp [SV.den, CV.den]) (by simp [SV.den, CV.den]) (by simp [SV.den, CV.den]) (by simp [SV.den, CV.den]) c d⟩
  · obtain ⟨ks, hks, hx⟩ := wO_out hx
    obtain ⟨n, hn, hx⟩ := wO_out hx
    obtain ⟨b, hb, hx⟩ := wO_out hx
    unfold tleaf at hks
    cases hg : (decide (tagg P t = some true) && !(P.eqGuardType P.depth t)) with
    | false => rw [hg] at hks; cases hks
    | true =>
      rw [hg] at hks
      simp only [cond_true] at hks
      simp only [Bool.and_eq_true, decide_eq_true_eq, Bool.not_eq_true'] at hg
      refine ⟨_, hx, rfl, fun ρ c d w => ?_⟩
      obtain ⟨ag, hag, h1, hr⟩ := eq_flat (ρ := ρ) (w := w) 8 9992 t ks _ _ b hks hb
      rw [hg.1] at hag
      injection hag with hag
      subst hag
      exact eqlike hn (fun c d => guard_agg hg.2 _ _ _ _ _ _) hr (by simp [SV.den]) (by simp [SV.den]) (by simp [SV.den]) (by simp [SV.den]) c d
  · exact hx.elim

theorem XBin_ok {op : BinOp} {t : TypeId} {x y : SV} (hx : XBin P op t x y F) : x.ok = true ∧ y.ok = true := by
  unfold XBin at hx
  split at hx <;> first | exact ⟨rfl, rfl⟩ | exact hx.elim

theorem val_binOp {op : BinOp} {t u : TypeId} {x y : Operand} (h : XV P (.binOp op t x y u) st F) : ∃ x', F x' ∧ x'.ok = true ∧ ValOk P ⟨d, .binOp op t x y u, ty, pos, af, g⟩ st x' := by
  change XBin P op t (st.ev x) (st.ev y) F at h
  obtain ⟨h1, h2⟩ := XBin_ok h
  obtain ⟨z, hz, hok, hr⟩ := XBin_out h
  refine val_of hz hok fun C ρ a w hf _ => ?_
  have := hr ρ x y w
  rw [← ev_eq hf x h1, ← ev_eq hf y h2] at this
  simp only [execOp]
  rw [Sem.run_bind, this]
  rfl

theorem val_unOp {op : UnOp} {t : TypeId} {x : Operand} (h : XV P (.unOp op t x) st F) : ∃ x', F x' ∧ x'.ok = true ∧ ValOk P ⟨d, .unOp op t x, ty, pos, af, g⟩ st x' := by
  change XUn op (st.ev x) F at h
  unfold XUn at h
  split at h <;> rename_i hx <;> first | exact h.elim | exact val_of h rfl fun C ρ a w hf _ => by simp [execOp, ev_c hf hx rfl, SV.den, CV.den, Op.unary, Op.intArith, Op.intBits, ibit]

theorem byL_out : ∀ (n : Nat) {r : Nat → List CV} {i : Nat} {l : List Int}, byL r i n = some l → l.length = n ∧ ∀ j, j < n → r (i + j) = [.v (.int .u8 (l.getD j 0))]
  | 0, r, i, l, h => by simp [byL] at h; subst h; exact ⟨rfl, fun j hj => by omega⟩
  | n + 1, r, i, l, h => by
    unfold byL byC at h
    split at h
    · rename_i k hk
      simp only [Option.map_eq_some_iff] at h
      obtain ⟨l', h1, rfl⟩ := h
      obtain ⟨h2, h3⟩ := byL_out n h1
      refine ⟨by simp [h2], fun j hj => ?_⟩
      cases j with
      | zero => simpa using hk
      | succ j =>
        have := h3 j (by omega)
        rw [show i + 1 + j = i + (j + 1) by omega] at this
        rw [this]; simp
    · cases h
theorem byB_out {hp : List (Nat × Blk)} {b i n : Nat} {F : List Int → Prop} (h : byB (hget hp b) i n F) :
    ∃ l, F l ∧ l.length = n ∧ ∀ (C : Cx) (ρ : Env) (w : World), HpOk C ρ w hp → (ρ b).esz = 1 ∧ ∀ j, j < n → w.cell? ⟨(ρ b).blk, (ρ b).base + i + j, none⟩ = some (.int .u8 (l.getD j 0)) := by
  unfold byB at h
  split at h
  · rename_i ty e m c r hb
    obtain ⟨⟨rfl, hm⟩, h⟩ := h
    obtain ⟨l, hl, h⟩ := wO_out h
    obtain ⟨h1, h2⟩ := byL_out n hl
    refine ⟨l, h, h1, fun C ρ w hk => ?_⟩
    obtain ⟨g0, g1, ⟨arr, g2, _, g3⟩, _⟩ := hk _ _ (mem_hget hb)
    refine ⟨g1, fun j hj => ?_⟩
    have := (g3 (i + j) (by omega)).2 0 (by omega)
    rw [h2 j hj] at this
    rw [g0, g2.cell, Nat.zero_add]
    simpa [CV.den] using this
  · rename_i e m r hb
    obtain ⟨⟨rfl, hm⟩, h⟩ := h
    obtain ⟨l, hl, h⟩ := wO_out h
    obtain ⟨h1, h2⟩ := byL_out n hl
    refine ⟨l, h, h1, fun C ρ w hk => ?_⟩
    obtain ⟨g1, g3, _⟩ := hk _ _ (mem_hget hb)
    refine ⟨g1, fun j hj => ?_⟩
    have := (g3 (i + j) (by omega)).2 0 (by omega)
    rw [h2 j hj] at this
    simpa [CV.den, Nat.add_assoc] using this
  · rename_i ty cs hb
    obtain ⟨hm, h⟩ := h
    obtain ⟨l, hl, h⟩ := wO_out h
    obtain ⟨h1, h2⟩ := byL_out n hl
    refine ⟨l, h, h1, fun C ρ w hk => ?_⟩
    obtain ⟨g0, g1, _, g3⟩ := hk _ _ (mem_hget hb)
    refine ⟨g3, fun j hj => ?_⟩
    have := h2 j hj
    have hlt : i + j < cs.length := by omega
    rw [List.getElem?_eq_getElem hlt] at this
    simp only [Option.toList_some, List.cons.injEq, and_true] at this
    simp only [World.cell?, g1, g0, Nat.zero_add]
    simp [List.getElem?_eq_getElem hlt, this, CV.den]
  · exact h.elim
theorem tint_of {t : TypeId} {k : IntKind} (h : tint P t = some (some k)) : P.underlying t = some (.int k) := by
  unfold tint at h; cases hu : P.underlying t with
  | none => simp [hu] at h
  | some d => simp [hu] at h; cases d <;> simp at h; simp [h]
theorem val_convert {s t : TypeId} {x : Operand} (h : XV P (.convert s t x) st F) : ∃ x', F x' ∧ x'.ok = true ∧ ValOk P ⟨d, .convert s t x, ty, pos, af, g⟩ st x' := by
  obtain ⟨k, hk, h⟩ := wO_out h
  obtain ⟨ds, hs, hds⟩ := kind_of hk
  unfold XConv at h
  split at h
  · rename_i b i len cap hx
    unfold XConS at h
    split at h
    · rename_i e
      simp only at hds; subst hds
      obtain ⟨⟨h1, h2⟩, h⟩ := h
      obtain ⟨dd, hd, hdd⟩ := kind_of h2
      simp only at hdd; subst hdd
      obtain ⟨l, hF, hl, hc⟩ := byB_out h
      refine val_of hF rfl fun C ρ a w hf hp => ?_
      obtain ⟨he, hcell⟩ := hc C ρ w hp
      have := run_convert_bytes_arg (P := P) w s e hs (tint_of h1) (ρ b).blk ((ρ b).base + i) len cap l hl hcell t hd
      simp [execOp, ev_c hf hx rfl, SV.den, CV.den, he, this]
      rfl
    · exact h.elim
  · rename_i c1 c2 hx
    unfold XConN at h
    split at h
    · rename_i e
      simp only at hds; subst hds
      obtain ⟨⟨h1, h2⟩, h⟩ := h
      obtain ⟨dd, hd, hdd⟩ := kind_of h2
      simp only at hdd; subst hdd
      refine val_of h rfl fun C ρ a w hf hp => ?_
      have := run_convert_bytes_nil (P := P) w s e hs (tint_of h1) c1 c2 t hd
      simp [execOp, ev_c hf hx rfl, SV.den, CV.den, this]
    · exact h.elim
  · rename_i k' n hx
    obtain ⟨k2, hk2, h⟩ := wO_out h
    obtain ⟨k3, rfl, h⟩ := wO_out h
    refine val_of h rfl fun C ρ a w hf _ => ?_
    have hd : P.underlying t = some (.int k3) := tint_of hk2
    simp [execOp, ev_c hf hx rfl, SV.den, CV.den, convert, run_underlying hs, run_underlying hd, Conv.intToInt]
  · exact h.elim

theorem fld_of {t : TypeId} {k : Nat} {fo : Nat × TypeId} (h : tfld P t k = some fo) : ∃ fs f, P.underlying t = some (.struct fs) ∧ fs[k]? = some f ∧ f.offset = fo.1 ∧ f.type = fo.2 := by
  unfold tfld at h
  split at h
  · rename_i fs hu
    simp only [Option.map_eq_some_iff] at h
    obtain ⟨f, hf, rfl⟩ := h
    exact ⟨fs, f, hu, hf, rfl, rfl⟩
  · cases h

theorem val_fieldAddr {s : TypeId} {x : Operand} {k : Nat} (h : XV P (.fieldAddr s x k) st F) : ∃ x', F x' ∧ x'.ok = true ∧ ValOk P ⟨d, .fieldAddr s x k, ty, pos, af, g⟩ st x' := by
  obtain ⟨fo, hfo, h⟩ := wO_out h
  obtain ⟨n, hn, h0, h⟩ := wO_out h
  obtain ⟨b, i, f, hx, h⟩ := wP_out h
  obtain ⟨fs, fl, hu, hf1, hf2, hf3⟩ := fld_of hfo
  refine val_of h rfl fun C ρ a w hf _ => ?_
  have hz := sizeOf_of hn (P := P) w
  rw [← hf3] at hz
  simp [execOp, Instr.fieldAt, ev_c hf hx rfl, SV.den, CV.den, run_underlying hu, hf1, Instr.sureAddr, fieldPlace, hz, h0, hf2]
  first | done | (rw [addr_add _ _ rfl]; simp [Nat.add_assoc])

theorem val_field {s : TypeId} {x : Operand} {k : Nat} (h : XV P (.field s x k) st F) : ∃ x', F x' ∧ x'.ok = true ∧ ValOk P ⟨d, .field s x k, ty, pos, af, g⟩ st x' := by
  obtain ⟨fo, hfo, h⟩ := wO_out h
  obtain ⟨ag, hag, h⟩ := wO_out h
  obtain ⟨n, hn, h⟩ := wO_out h
  obtain ⟨fs, fl, hu, hf1, hf2, hf3⟩ := fld_of hfo
  unfold XFld at h
  split at h
  · rename_i cs hx
    obtain ⟨l, hl, h⟩ := wO_out h
    refine val_of h (mkV_ok (subL_eq _ _ _ _ hl).2) fun C ρ a w hf _ => ?_
    have hp := part_of (P := P) hag hn hl (ρ := ρ) w
    simp [execOp, Instr.field, ev_c hf hx rfl, SV.den, run_underlying hu, hf1, asAgg, hf2, hf3, hp]
    first | done | rfl
  · exact h.elim

theorem arrP_den {hp : List (Nat × Blk)} {b i f es idx : Nat} {C : Cx} {ρ : Env} {w : World} (hk : HpOk C ρ w hp) :
    (arrP (hget hp b) b i f es idx).den ρ = .pointer (some ⟨(ρ b).blk, (ρ b).base + i * (ρ b).esz + f + idx * es, none⟩) := by
  unfold arrP
  split
  · rename_i ty e m c r hb
    obtain ⟨_, h1, _⟩ := hk _ _ (mem_hget hb)
    by_cases hc : e = es ∧ f = 0
    · obtain ⟨rfl, rfl⟩ := hc
      simp [CV.den, h1, Nat.add_mul, Nat.add_assoc]
    · have : (Nat.beq e es && Nat.beq f 0) = false := by
        cases h : (Nat.beq e es && Nat.beq f 0) with
        | false => rfl
        | true => simp at h; exact absurd h hc
      simp only [this, cond_false]; simp [CV.den, Nat.add_assoc]
  · rename_i e m r hb
    obtain ⟨h1, _⟩ := hk _ _ (mem_hget hb)
    by_cases hc : e = es ∧ f = 0
    · obtain ⟨rfl, rfl⟩ := hc
      simp [CV.den, h1, Nat.add_mul, Nat.add_assoc]
    · have : (Nat.beq e es && Nat.beq f 0) = false := by
        cases h : (Nat.beq e es && Nat.beq f 0) with
        | false => rfl
        | true => simp at h; exact absurd h hc
      simp only [this, cond_false]; simp [CV.den, Nat.add_assoc]
  · simp [CV.den, Nat.add_assoc]

theorem esz_den {hp : List (Nat × Blk)} {b es : Nat} {C : Cx} {ρ : Env} {w : World} (hk : HpOk C ρ w hp) (h : eszOf (hget hp b) = some es) : (ρ b).esz = es := by
  unfold eszOf at h
  split at h
  · rename_i hb; obtain ⟨_, _, _, h1⟩ := hk _ _ (mem_hget hb); simp at h; rw [h1, h]
  · rename_i hb; obtain ⟨_, h1, _⟩ := hk _ _ (mem_hget hb); simp at h; rw [h1, h]
  · rename_i hb; obtain ⟨h1, _⟩ := hk _ _ (mem_hget hb); simp at h; rw [h1, h]
  · cases h

theorem rowP_den {hp : List (Nat × Blk)} {b i : Nat} {C : Cx} {ρ : Env} {w : World} (hk : HpOk C ρ w hp) : (rowP (hget hp b) b i).den ρ = .pointer (some ⟨(ρ b).blk, (ρ b).base + i * (ρ b).esz, none⟩) := by
  unfold rowP
  split
  · rename_i hb; obtain ⟨_, _, _, h1⟩ := hk _ _ (mem_hget hb); simp [CV.den, h1]
  · simp [CV.den]
theorem rowP_ok {bl : Option Blk} {b i : Nat} : (SV.c (rowP bl b i)).ok = true := rfl
theorem arrS_out {bl : Option Blk} {i f es : Nat} {F : Nat → Prop} (h : arrS bl i f es F) : ∃ i0, F i0 ∧ ∀ {hp : List (Nat × Blk)} {b : Nat} {C : Cx} {ρ : Env} {w : World}, bl = hget hp b → HpOk C ρ w hp → (ρ b).esz = es ∧ (ρ b).base + i * (ρ b).esz + f = (ρ b).base + i0 * (ρ b).esz := by
  unfold arrS at h
  split at h
  · obtain ⟨⟨rfl, rfl⟩, h⟩ := h
    refine ⟨_, h, fun hb hk => ?_⟩
    obtain ⟨_, _, _, h1⟩ := hk _ _ (mem_hget hb.symm)
    rw [h1]; exact ⟨rfl, by omega⟩
  · obtain ⟨⟨rfl, rfl⟩, h⟩ := h
    refine ⟨_, h, fun hb hk => ?_⟩
    obtain ⟨_, h1, _⟩ := hk _ _ (mem_hget hb.symm)
    exact ⟨h1, by omega⟩
  · obtain ⟨⟨rfl, rfl⟩, h⟩ := h
    refine ⟨_, h, fun hb hk => ?_⟩
    obtain ⟨h1, _⟩ := hk _ _ (mem_hget hb.symm)
    exact ⟨h1, by omega⟩
  · exact h.elim

theorem val_indexAddr {t : TypeId} {x y : Operand} (h : XV P (.indexAddr t x y) st F) : ∃ x', F x' ∧ x'.ok = true ∧ ValOk P ⟨d, .indexAddr t x y, ty, pos, af, g⟩ st x' := by
  obtain ⟨k, hk, g1⟩ := wO_out h
  obtain ⟨ik, n, hy, g2⟩ := wI_out g1
  obtain ⟨ds, hu, hds⟩ := kind_of hk
  unfold XIxA at g2
  split at g2
  · rename_i len e b i f hx
    obtain ⟨⟨h1, h2⟩, g3⟩ := g2
    obtain ⟨es, hes, g4⟩ := wO_out g3
    simp at hds; subst hds
    refine val_of g4 rfl fun C ρ a w hf hp => ?_
    have ha := arrP_den (b := b) (i := i) (f := f) (es := es) (idx := n.toNat) hp
    simp only [SV.den, ha]
    simp [execOp, Instr.indexAt, ev_c hf hx rfl, ev_c hf hy rfl, SV.den, CV.den, asIntOf, run_underlying hu, Instr.sureAddr, h1, h2, sizeOf_of hes]
    first | done | (rw [addr_add _ _ rfl])
  · rename_i e b i len cap hx
    obtain ⟨⟨h1, h2⟩, g3⟩ := g2
    obtain ⟨es, hes, h0, g4⟩ := wO_out g3
    simp at hds; subst hds
    refine val_of g4 rfl fun C ρ a w hf hp => ?_
    have he := esz_den hp h0
    have hr := rowP_den (b := b) (i := i + n.toNat) hp
    simp only [SV.den, hr]
    simp [execOp, Instr.indexAt, ev_c hf hx rfl, ev_c hf hy rfl, SV.den, CV.den, asIntOf, run_underlying hu, Instr.sureAddr, h1, h2, sizeOf_of hes, he]
    first | done | (rw [addr_add _ _ rfl]; simp [Nat.add_mul, Nat.add_assoc])
  · exact g2.elim

theorem val_index {t : TypeId} {x y : Operand} (h : XV P (.index t x y) st F) : ∃ x', F x' ∧ x'.ok = true ∧ ValOk P ⟨d, .index t x y, ty, pos, af, g⟩ st x' := by
  obtain ⟨k, hk, g1⟩ := wO_out h
  obtain ⟨ik, n, hy, g2⟩ := wI_out g1
  obtain ⟨ds, hu, hds⟩ := kind_of hk
  unfold XIx at g2
  split at g2
  · rename_i len e cs hx
    obtain ⟨⟨h1, h2⟩, g3⟩ := g2
    obtain ⟨ag, hag, g4⟩ := wO_out g3
    obtain ⟨es, hes, g5⟩ := wO_out g4
    obtain ⟨l, hl, g6⟩ := wO_out g5
    simp at hds; subst hds
    refine val_of g6 (mkV_ok (subL_eq _ _ _ _ hl).2) fun C ρ a w hf hp => ?_
    have hp := part_of (P := P) hag hes hl (ρ := ρ) w
    simp [execOp, Instr.index, ev_c hf hx rfl, ev_c hf hy rfl, SV.den, CV.den, asIntOf, run_underlying hu, h1, h2, sizeOf_of hes, hp]
    first | done | rfl
  · rename_i s hx
    obtain ⟨⟨h1, h2⟩, g3⟩ := g2
    simp at hds; subst hds
    refine val_of g3 rfl fun C ρ a w hf hp => ?_
    have hlt : n.toNat < s.size := by omega
    have hb : s[n.toNat]? = some (s[n.toNat]) := by simp [hlt]
    simp [execOp, Instr.index, ev_c hf hx rfl, ev_c hf hy rfl, SV.den, CV.den, asIntOf, run_underlying hu, h1, hb]
    have h3 : n.toNat < s.data.size := hlt
    have h4 : s.data[n.toNat]? = some (s.data[n.toNat]) := Array.getElem?_eq_getElem h3
    simp [bt, List.getD_eq_getElem?_getD, h4]; rfl
  · exact g2.elim

theorem bnd_out {x : Option Operand} {G : Option Int → Prop} (h : bnd st x G) : ∃ y, G y ∧ ∀ (ρ : Env) (a : Act), FrOk st ρ a → (x = none ∧ y = none ∨ ∃ o k n, x = some o ∧ y = some n ∧ a.eval o = .int k n) := by
  unfold bnd at h
  split at h
  · exact ⟨_, h, fun _ _ _ => .inl ⟨rfl, rfl⟩⟩
  · rename_i o
    obtain ⟨k, n, hx, g1⟩ := wI_out h
    exact ⟨_, g1, fun ρ a hf => .inr ⟨o, k, n, rfl, rfl, ev_c hf hx rfl⟩⟩


theorem slb {k : IntKind} {n : Int} {y : Nat} {c : BoundsCode} (h1 : 0 ≤ n) (h2 : n ≤ (y : Int)) (w : World) : (Instr.sliceBound (.int k n) y c).run P w = .ok n.toNat w := by
  simp [Instr.sliceBound, asIntOf, h1, h2]
theorem sbs {b : Bool} {len cap : Nat} {lo hi : Option Value} {l h : Option Int} (hl : lo = none ∧ l = none ∨ ∃ k n, lo = some (.int k n) ∧ l = some n) (hh : hi = none ∧ h = none ∨ ∃ k n, hi = some (.int k n) ∧ h = some n)
    (h1 : 0 ≤ h.getD len ∧ h.getD len ≤ (cap : Int)) (h2 : 0 ≤ l.getD 0 ∧ l.getD 0 ≤ h.getD len) (w : World) :
    (Instr.sliceBounds b len cap lo hi none).run P w = .ok ((l.getD 0).toNat, (h.getD len).toNat, cap) w := by
  rcases hl with ⟨rfl, rfl⟩ | ⟨k, n, rfl, rfl⟩ <;> rcases hh with ⟨rfl, rfl⟩ | ⟨k', m, rfl, rfl⟩ <;> simp only [Option.getD_none, Option.getD_some] at h1 h2
  · simp [Instr.sliceBounds]
  · simp [Instr.sliceBounds, slb h1.1 h1.2]
  · simp [Instr.sliceBounds, slb (P := P) (c := .sliceB) h2.1 h2.2]
  · have : n ≤ (m.toNat : Int) := by omega
    simp [Instr.sliceBounds, slb h1.1 h1.2, slb h2.1 this]

theorem val_slice {t : TypeId} {x : Operand} {lo hi mx : Option Operand} (h : XV P (.slice t x lo hi mx) st F) : ∃ x', F x' ∧ x'.ok = true ∧ ValOk P ⟨d, .slice t x lo hi mx, ty, pos, af, g⟩ st x' := by
  obtain ⟨hmx, g0⟩ := h
  subst hmx
  obtain ⟨k, hk, g1⟩ := wO_out g0
  obtain ⟨l, g2, hl⟩ := bnd_out g1
  obtain ⟨u, g3, hu'⟩ := bnd_out g2
  obtain ⟨ds, hu, hds⟩ := kind_of hk
  have hl2 : ∀ (ρ : Env) (a : Act), FrOk st ρ a → (lo.map a.eval = none ∧ l = none ∨ ∃ k n, lo.map a.eval = some (.int k n) ∧ l = some n) := fun ρ a hf => by
    rcases hl ρ a hf with ⟨rfl, rfl⟩ | ⟨o, k, n, rfl, rfl, hv⟩
    · exact .inl ⟨rfl, rfl⟩
    · exact .inr ⟨k, n, by simp [hv], rfl⟩
  have hu2 : ∀ (ρ : Env) (a : Act), FrOk st ρ a → (hi.map a.eval = none ∧ u = none ∨ ∃ k n, hi.map a.eval = some (.int k n) ∧ u = some n) := fun ρ a hf => by
    rcases hu' ρ a hf with ⟨rfl, rfl⟩ | ⟨o, k, n, rfl, rfl, hv⟩
    · exact .inl ⟨rfl, rfl⟩
    · exact .inr ⟨k, n, by simp [hv], rfl⟩
  clear hl hu'
  unfold XSl at g3
  split at g3
  · rename_i s hx
    obtain ⟨h1, h2, g4⟩ := g3
    simp at hds; subst hds
    refine val_of g4 rfl fun C ρ a w hf hp => ?_
    have := sbs (P := P) (b := false) (hl2 ρ a hf) (hu2 ρ a hf) h1 h2 w
    simp [execOp, Instr.sliceAt, Instr.slice, ev_c hf hx rfl, SV.den, CV.den, run_underlying hu, this]
  · rename_i e b i len cap hx
    obtain ⟨es, hes, h0, h1, h2, g4⟩ := wO_out g3
    simp at hds; subst hds
    refine val_of g4 rfl fun C ρ a w hf hp => ?_
    have he := esz_den hp h0
    have := sbs (P := P) (b := true) (hl2 ρ a hf) (hu2 ρ a hf) h1 h2 w
    simp [execOp, Instr.sliceAt, Instr.slice, ev_c hf hx rfl, SV.den, CV.den, run_underlying hu, this, sizeOf_of hes, he]
    split
    · simp
    · simp [addr_add, Nat.add_mul, Nat.add_assoc]
  · rename_i len e b i f hx
    obtain ⟨es, hes, g5⟩ := wO_out g3
    obtain ⟨i0, ⟨h1, h2, g4⟩, h0⟩ := arrS_out g5
    simp at hds; subst hds
    refine val_of g4 rfl fun C ρ a w hf hp => ?_
    obtain ⟨he, hb0⟩ := h0 rfl hp
    have := sbs (P := P) (b := false) (hl2 ρ a hf) (hu2 ρ a hf) h1 h2 w
    simp [execOp, Instr.sliceAt, Instr.sureAddr, ev_c hf hx rfl, SV.den, CV.den, run_underlying hu, this, sizeOf_of hes, he] at hb0 ⊢
    split
    · simp [hb0]
    · simp [addr_add, Nat.add_mul, Nat.add_assoc] at hb0 ⊢
      omega
  · rename_i e hx
    obtain ⟨es, hes, h1, h2, g4⟩ := wO_out g3
    simp at hds; subst hds
    refine val_of g4 rfl fun C ρ a w hf hp => ?_
    have := sbs (P := P) (b := true) (len := 0) (cap := 0) (hl2 ρ a hf) (hu2 ρ a hf) (by simpa using h1) (by simpa using h2) w
    have hz : l.getD 0 = 0 := by omega
    have hz2 : u.getD 0 = 0 := by omega
    simp [execOp, Instr.sliceAt, Instr.slice, ev_c hf hx rfl, SV.den, CV.den, run_underlying hu, this, sizeOf_of hes, hz, hz2]
  · exact g3.elim

theorem capCV_den : ∀ (l : List Operand) (cs : List CV), capCV (st.evL l) = some cs → ∀ (ρ : Env) (a : Act), FrOk st ρ a → l.map a.eval = CV.denL ρ cs
  | [], cs, h, ρ, a, hf => by simp [St.evL, capCV] at h; subst h; simp [CV.denL]
  | x :: r, cs, h, ρ, a, hf => by
    simp only [St.evL] at h
    unfold capCV at h
    split at h
    · rename_i h1; cases h1
    · rename_i y r' h1
      injection h1 with h1 h2
      simp only [Option.map_eq_some_iff] at h
      obtain ⟨c, hc, rfl⟩ := h
      have := capCV_den r c (by rw [h2]; exact hc) ρ a hf
      simp [CV.denL, this, ev_c hf h1 rfl, SV.den]
    · cases h

theorem val_makeFunc {fn : Fn} {first cap : Array Operand} (h : XV P (.makeFunc fn first cap) st F) : ∃ x', F x' ∧ x'.ok = true ∧ ValOk P ⟨d, .makeFunc fn first cap, ty, pos, af, g⟩ st x' := by
  change XMkF fn first.toList cap.toList st F at h
  unfold XMkF at h
  split at h
  · rename_i f hfi
    obtain ⟨cs, hcs, g1⟩ := wO_out h
    refine val_of g1 rfl fun C ρ a w hf hp => ?_
    have := capCV_den _ _ hcs ρ a hf
    have hfi' : first = #[] := by apply Array.toList_inj.1; simpa using hfi
    have hc : cap.map a.eval = (CV.denL ρ cs).toArray := by rw [← this]; apply Array.toList_inj.1; simp
    simp [execOp, Instr.makeFunc, SV.den, CV.den, hc, hfi']
  · exact h.elim

theorem val_call {b : Builtin} {args : Array Operand} {tys : Array TypeId} (hv : isVal (.call { callee := .builtin b, args := args, argTypes := tys }) = true) (h : XV P (.call { callee := .builtin b, args := args, argTypes := tys }) st F) :
    ∃ x', F x' ∧ x'.ok = true ∧ ValOk P ⟨d, .call { callee := .builtin b, args := args, argTypes := tys }, ty, pos, af, g⟩ st x' := by
  change XBui P b args.toList tys.toList st F at h
  unfold XBui at h
  split at h
  · rename_i x t tr ha ht
    obtain ⟨k, hk, g1⟩ := wO_out h
    obtain ⟨ds, hu, hds⟩ := kind_of hk
    have ha' : args = #[x] := by apply Array.toList_inj.1; simpa using ha
    have ht' : tys[0]? = some t := by rw [← Array.getElem?_toList, ht]; rfl
    unfold XLen at g1
    split at g1
    · exact g1.elim
    all_goals first | exact g1.elim | skip
    all_goals
      rename_i hx
      simp at hds
      first
        | (subst hds; refine val_of g1 rfl fun C ρ a w hf hp => ?_; have hxx := ev_c hf hx rfl; simp [execOp, resolve, invoke, builtin, Builtin.len_, ha', ht', hxx, SV.den, CV.den, run_underlying hu, goInt]; done)
        | (refine val_of g1 rfl fun C ρ a w hf hp => ?_; simp [execOp, resolve, invoke, builtin, Builtin.len_, ha', ht', SV.den, CV.den, run_underlying hu, goInt, hds])
  · rename_i x t tr ha ht
    obtain ⟨k, hk, g1⟩ := wO_out h
    obtain ⟨ds, hu, hds⟩ := kind_of hk
    have ha' : args = #[x] := by apply Array.toList_inj.1; simpa using ha
    have ht' : tys[0]? = some t := by rw [← Array.getElem?_toList, ht]; rfl
    unfold XCap at g1
    split at g1
    · rename_i hx
      simp at hds; subst hds
      refine val_of g1 rfl fun C ρ a w hf hp => ?_
      simp [execOp, resolve, invoke, builtin, Builtin.cap_, ha', ht', ev_c hf hx rfl, SV.den, CV.den, run_underlying hu, goInt]
    · rename_i hx
      simp at hds; subst hds
      refine val_of g1 rfl fun C ρ a w hf hp => ?_
      simp [execOp, resolve, invoke, builtin, Builtin.cap_, ha', ht', ev_c hf hx rfl, SV.den, CV.den, run_underlying hu, goInt]
    · exact g1.elim
  · rename_i x y ha
    have ha' : args = #[x, y] := by apply Array.toList_inj.1; simpa using ha
    unfold XMax at h
    split at h
    · rename_i hx hy
      refine val_of h rfl fun C ρ a w hf hp => ?_
      simp [execOp, resolve, invoke, builtin, Builtin.max_, Builtin.max2, ha', ev_c hf hx rfl, ev_c hf hy rfl, SV.den, CV.den]
      omega
    · exact h.elim
  · rename_i x y ha
    have ha' : args = #[x, y] := by apply Array.toList_inj.1; simpa using ha
    unfold XMax at h
    split at h
    · rename_i hx hy
      refine val_of h rfl fun C ρ a w hf hp => ?_
      simp [execOp, resolve, invoke, builtin, Builtin.min_, Builtin.min2, ha', ev_c hf hx rfl, ev_c hf hy rfl, SV.den, CV.den]
      omega
    · exact h.elim
  · exact h.elim


theorem cellsOf_den {x : SV} {l : List CV} (h : x.cellsOf = some l) (ρ : Env) : (x.den ρ).cells.toList = CV.denL ρ l := by
  unfold SV.cellsOf at h
  split at h
  · simp at h; subst h; simp [SV.den, CV.den, Value.cells, CV.denL_eq, Function.comp_def]
  · rename_i y hy
    simp at h; subst h
    cases y with
    | v z => cases z <;> first | exact absurd rfl (hy _) | simp [SV.den, CV.den, Value.cells, CV.denL]
    | _ => simp [SV.den, CV.den, Value.cells, CV.denL]
  · simp at h; subst h; simp [SV.den, Value.cells]
  · cases h

theorem foldl_set : ∀ (ys : List Value) (k off : Nat) (cells : Array Value), off + k + ys.length ≤ cells.size →
    ((ys.zipIdx k).foldl (fun (cs : Array Value) (p : Value × Nat) => cs.setIfInBounds (off + p.2) p.1) cells).toList = cells.toList.take (off + k) ++ ys ++ cells.toList.drop (off + k + ys.length)
  | [], k, off, cells, h => by simp
  | y :: ys, k, off, cells, h => by
    simp only [List.zipIdx_cons, List.foldl_cons, List.length_cons] at h ⊢
    have := foldl_set ys (k + 1) off (cells.setIfInBounds (off + k) y) (by simp; omega)
    rw [this]
    simp only [Array.toList_setIfInBounds]
    apply List.ext_getElem?
    intro j
    simp only [List.getElem?_append, List.getElem?_take, List.getElem?_drop, List.getElem?_set, List.length_append, List.length_take, List.length_set, Array.length_toList, List.length_cons, List.getElem?_cons]
    have h1 : min (off + (k + 1)) cells.size = off + (k + 1) := by omega
    have h2 : min (off + k) cells.size = off + k := by omega
    rw [h1, h2]
    rcases Nat.lt_trichotomy j (off + k) with hj | hj | hj
    · simp [show j < off + (k + 1) + ys.length by omega, show j < off + (k + 1) by omega, show ¬ off + k = j by omega, show j < off + k + (ys.length + 1) by omega, hj]
    · subst hj
      simp [show off + k < off + (k + 1) + ys.length by omega, show off + k < off + (k + 1) by omega, show off + k < cells.size by omega, show off + k < off + k + (ys.length + 1) by omega]
    · by_cases h3 : j < off + (k + 1) + ys.length
      · simp [h3, show ¬ j < off + (k + 1) by omega, show j < off + k + (ys.length + 1) by omega, show ¬ j < off + k by omega, show ¬ (j - (off + k)) = 0 by omega]
        rw [show j - (off + k) - 1 = j - (off + (k + 1)) by omega]
      · simp [h3, show ¬ j < off + k + (ys.length + 1) by omega, show ¬ off + k = off + (k + 1) + ys.length + (j - (off + (k + 1) + ys.length)) by omega]
        rw [show off + (k + 1) + ys.length + (j - (off + (k + 1) + ys.length)) = off + k + (ys.length + 1) + (j - (off + k + (ys.length + 1))) by omega]

theorem fillX_den (ρ : Env) (place : Nat → Option (Nat × Nat)) : ∀ (ps : List (Nat × Nat × SV)) (is : List (Nat × Value)) (zs cs : List CV), fillX zs ps = some cs →
    is.map (fun p => (place p.1, p.2)) = ps.map (fun p => (some (p.1, p.2.1), p.2.2.den ρ)) → Instr.fill place (CV.denL ρ zs).toArray is = some (CV.denL ρ cs).toArray
  | [], [], zs, cs, h, hm => by simp [fillX] at h; subst h; simp [Instr.fill]
  | [], _ :: _, zs, cs, h, hm => by simp at hm
  | _ :: _, [], zs, cs, h, hm => by simp at hm
  | (off, n, x) :: r, (i, v) :: is, zs, cs, h, hm => by
    simp only [List.map_cons, List.cons.injEq, Prod.mk.injEq] at hm
    obtain ⟨⟨hp, hv⟩, hm⟩ := hm
    unfold fillX at h
    split at h
    · rename_i l hl
      by_cases hn : l.length = n
      · subst hn
        simp only [Nat.beq_refl, cond_true] at h
        simp only [Option.bind_eq_some_iff] at h
        obtain ⟨zs', hz, hr⟩ := h
        obtain ⟨h1, h2, h3⟩ := spl_eq _ _ _ _ hz
        have hcl := cellsOf_den hl ρ
        rw [← hv] at hcl
        have hsz : v.cells.size = l.length := by rw [← Array.length_toList, hcl, denL_len]
        unfold Instr.fill
        simp only [hp, hsz, List.size_toArray, denL_len]
        rw [if_neg (by simp; omega)]
        have key : (v.cells.zipIdx.foldl (fun (cs : Array Value) (p : Value × Nat) => cs.setIfInBounds (off + p.2) p.1) (CV.denL ρ zs).toArray) = (CV.denL ρ zs').toArray := by
          apply Array.toList_inj.1
          rw [← Array.foldl_toList, Array.toList_zipIdx, hcl, foldl_set _ 0 off _ (by simp [denL_len]; omega)]
          simp [h3, CV.denL_eq, List.map_take, List.map_drop]
        rw [key]
        exact fillX_den ρ place r is zs' cs hr hm
      · have : Nat.beq l.length n = false := by
          cases hb : Nat.beq l.length n with
          | false => rfl
          | true => exact absurd (Nat.eq_of_beq_eq_true hb) hn
        simp [this] at h
    · cases h

end ops

end
end Go.Sx
