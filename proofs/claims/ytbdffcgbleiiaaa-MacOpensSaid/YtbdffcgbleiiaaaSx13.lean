/-
  The symbolic walk: A law's row behind the call; arguments made of numbers, bools and texts, opened: sound. Nothing here speaks of one program. Conditions: none.
-/
import Derived.Test.YtbdffcgbleiiaaaSx12
import Derived.Carry
import Derived.OpenShut
import Derived.ChangeCalls
import Derived.ProofKit
set_option linter.unusedVariables false
set_option linter.unusedSimpArgs false
/-! A law's row: what it says behind the call; what its arguments hold, where they are made of numbers, bools and texts. -/
namespace Go.Sx
open Go.RowKit Go.ChangeShapes Go.WideShapes
section
variable {H : Type} {enc : TypeId × Value → H} {P : Program} {W W' : World}

theorem trodAll_below (hl : laidOutB P = true) (hb : Below W.heap.size W W') : ∀ (ts : List TypeId) (vs : List Value) (ds : List (DataW H)) (ps : List MemPlace), (∀ t ∈ ts, P.readableRec t = true ∧ t < P.types.size) →
    DataW.TrodAll enc P W 0 (fun _ => true) true ts vs ds ps → (∀ x ∈ ps, x.block < W.heap.size) → DataW.TrodAll enc P W' 0 (fun b => decide (b < W.heap.size)) true ts vs ds ps
  | [], [], [], _, _, h, _ => h
  | t :: ts, v :: vs, d :: ds, ps, hts, ⟨p, q, h1, h2, h3⟩, hlt => by
    subst h3
    have ht := hts t (by simp)
    exact ⟨p, q, Below.trod hl ht.1 ht.2 h1 hb (fun x hx => hlt x (by simp [hx])), trodAll_below hl hb ts vs ds q (fun t ht => hts t (by simp [ht])) h2 (fun x hx => hlt x (by simp [hx])), rfl⟩
  | [], [], _ :: _, _, _, h, _ => h.elim
  | [], _ :: _, _, _, _, h, _ => h.elim
  | _ :: _, [], _, _, _, h, _ => h.elim
  | _ :: _, _ :: _, [], _, _, h, _ => h.elim

/-- The types can be read, and are rows of the table. -/
def rowsB (P : Program) (ts : List TypeId) : Bool := ts.all fun t => P.readableRec t && decide (t < P.types.size)
/-- What a law's row says behind a call that answered true and left all that was there. -/
theorem law_post {f : Func} {s : ChangeSpec} {apart fresh : Bool} {args : Array Value} {ds gs : List (DataW H)} {before : List MemPlace} {tb : TypeId} (hl : laidOutB P = true) (hts : rowsB P f.params.toList = true) (hr : f.resultTypes = #[tb]) (htb : P.underlying tb = some .bool)
    (hv : s.vars = []) (h1 : (s.fn H (ds ++ gs)).results = [.lit (.bool true)]) (h2 : (s.fn H (ds ++ gs)).args = ds) (h3 : (s.fn H (ds ++ gs)).vars = []) (hW : DataW.Whole enc P f.params.toList s.vars apart W args.toList ds gs before) (hb : Below W.heap.size W W') :
    s.post enc P f apart fresh false false W args (.bool true) W' := by
  have hlt := hW.lt
  obtain ⟨p, q, hA, hV, he, hf⟩ := id hW
  have hts : ∀ t ∈ f.params.toList, P.readableRec t = true ∧ t < P.types.size := by
    simpa only [rowsB, List.all_eq_true, Bool.and_eq_true, decide_eq_true_eq] using hts
  refine ⟨ds, gs, before, [], p, [], hW, ?_, ?_, ?_, hb.frame _, by simp⟩
  · rw [h1, hr]
    exact ⟨[], [], shut_bool htb true, rfl, rfl⟩
  · rw [h2]
    exact trodAll_below hl hb _ _ _ _ hts hA (fun x hx => hlt x (by rw [he]; simp [hx]))
  · rw [hv, h3]; exact rfl

/-! What is made of bools, numbers, texts. -/
inductive FK where
  | b
  | i (k : IntKind)
  | s
def FOk : List FK → List Value → Prop
  | [], [] => True
  | .b :: ks, v :: vs => (∃ b, v = .bool b) ∧ FOk ks vs
  | .i k :: ks, v :: vs => (∃ n, v = .int k n ∧ (Lit.int k n).wf = true) ∧ FOk ks vs
  | .s :: ks, v :: vs => (∃ s, v = .string s ∧ s.size ≤ maxLen) ∧ FOk ks vs
  | _, _ => False
theorem FOk.append : ∀ {ks ks' : List FK} {vs vs' : List Value}, FOk ks vs → FOk ks' vs' → FOk (ks ++ ks') (vs ++ vs')
  | [], ks', [], vs', _, h' => h'
  | .b :: ks, ks', v :: vs, vs', h, h' => ⟨h.1, FOk.append h.2 h'⟩
  | .i k :: ks, ks', v :: vs, vs', h, h' => ⟨h.1, FOk.append h.2 h'⟩
  | .s :: ks, ks', v :: vs, vs', h, h' => ⟨h.1, FOk.append h.2 h'⟩
  | [], _, _ :: _, _, h, _ => h.elim
  | .b :: _, _, [], _, h, _ => h.elim
  | .i _ :: _, _, [], _, h, _ => h.elim
  | .s :: _, _, [], _, h, _ => h.elim
theorem FOk.len : ∀ {ks : List FK} {vs : List Value}, FOk ks vs → vs.length = ks.length
  | [], [], _ => rfl
  | .b :: ks, v :: vs, h => by simp [FOk.len h.2]
  | .i k :: ks, v :: vs, h => by simp [FOk.len h.2]
  | .s :: ks, v :: vs, h => by simp [FOk.len h.2]
  | [], _ :: _, h => h.elim
  | .b :: _, [], h => h.elim
  | .i _ :: _, [], h => h.elim
  | .s :: _, [], h => h.elim
def flatFs (P : Program) (rec : TypeId → Option (List FK)) : Nat → List Field → Option (List FK)
  | _, [] => some []
  | off, f :: r => bif Nat.beq f.offset off then (rec f.type).bind fun l => bif Nat.beq (P.cellsOf f.type) l.length then (flatFs P rec (off + l.length) r).map (l ++ ·) else none else none
def flatIn (P : Program) : Nat → TypeId → Option (List FK)
  | 0, _ => none
  | d + 1, t =>
    match P.underlying t with
    | some .bool => some [.b]
    | some (.int k) => some [.i k]
    | some .string => some [.s]
    | some (.struct fs) => (flatFs P (flatIn P d) 0 fs.toList).bind fun l => bif Nat.beq (P.cellsOf t) l.length then some l else none
    | some (.array n e) => (flatIn P d e).bind fun l => bif Nat.beq (P.cellsOf e) l.length && Nat.beq (P.cellsOf t) (n * l.length) then some (List.replicate n l).flatten else none
    | _ => none

theorem flat_fields {rec : TypeId → Option (List FK)} {r : TypeId → List Value → Prop} (hrec : ∀ t l cs, rec t = some l → r t cs → FOk l cs) {cs : List Value} :
    ∀ (fs : List Field) (off : Nat) (l : List FK), flatFs P rec off fs = some l → (∀ (i : Nat) (f : Field), fs[i]? = some f → r f.type ((cs.drop f.offset).take (P.cellsOf f.type))) → FOk l ((cs.drop off).take l.length)
  | [], off, l, h, _ => by simp [flatFs] at h; subst h; simp [FOk]
  | f :: fs, off, l, h, hr => by
    simp only [flatFs] at h
    cases ho : Nat.beq f.offset off with
    | false => rw [ho] at h; cases h
    | true =>
      have ho := Nat.eq_of_beq_eq_true ho
      simp only [ho, Nat.beq_refl, cond_true, Option.bind_eq_some_iff] at h
      obtain ⟨l1, h1, h⟩ := h
      cases hc : Nat.beq (P.cellsOf f.type) l1.length with
      | false => rw [hc] at h; cases h
      | true =>
        rw [hc] at h
        have hc := Nat.eq_of_beq_eq_true hc
        simp only [cond_true, Option.map_eq_some_iff] at h
        obtain ⟨l2, h2, rfl⟩ := h
        have a1 := hrec _ _ _ h1 (hr 0 f rfl)
        have a2 := flat_fields hrec fs _ _ h2 fun i f hf => hr (i + 1) f hf
        rw [ho, hc] at a1
        rw [List.length_append, List.take_add, List.drop_drop]
        exact a1.append a2
theorem flat_items {l : List FK} {cs : List Value} : ∀ (n i : Nat), (∀ j, j < n → FOk l ((cs.drop ((i + j) * l.length)).take l.length)) → FOk (List.replicate n l).flatten ((cs.drop (i * l.length)).take (n * l.length))
  | 0, i, _ => by simp [FOk]
  | n + 1, i, h => by
    have a1 := h 0 (by omega)
    have a2 := flat_items (l := l) (cs := cs) n (i + 1) fun j hj => by
      have := h (j + 1) (by omega)
      rwa [show i + (j + 1) = i + 1 + j by omega] at this
    rw [Nat.add_zero] at a1
    rw [List.replicate_succ, List.flatten_cons, Nat.add_mul n 1, Nat.one_mul, Nat.add_comm (n * l.length), List.take_add, List.drop_drop]
    rw [Nat.add_mul i 1, Nat.one_mul] at a2
    exact a1.append a2
variable {base : Nat} {spare : Nat → Bool} {held : Bool}
theorem flat_trod : ∀ (d : Nat) (t : TypeId) (ks : List FK), flatIn P d t = some ks → ∀ (fuel : Nat) (cs : List Value) (x : DataW H × List MemPlace), DataW.trod enc P W base spare held fuel t cs = some x → FOk ks cs
  | 0, _, _, h, _, _, _, _ => by simp [flatIn] at h
  | d + 1, t, ks, h, fuel, cs, x, hx => by
    unfold flatIn at h
    split at h
    · rename_i hu
      injection h with h; subst h
      obtain ⟨b, rfl, _⟩ := DataW.trod_bool hu hx
      exact ⟨⟨b, rfl⟩, trivial⟩
    · rename_i k hu
      injection h with h; subst h
      obtain ⟨n, rfl, _, hw⟩ := DataW.trod_int hu hx
      exact ⟨⟨n, rfl, hw⟩, trivial⟩
    · rename_i hu
      injection h with h; subst h
      obtain ⟨s, rfl, _, hw⟩ := DataW.trod_string hu hx
      exact ⟨⟨s, rfl, hw⟩, trivial⟩
    · rename_i fs hu
      simp only [Option.bind_eq_some_iff] at h
      obtain ⟨l, hl, h⟩ := h
      cases hc : Nat.beq (P.cellsOf t) l.length with
      | false => rw [hc] at h; cases h
      | true =>
        rw [hc] at h
        have hc := Nat.eq_of_beq_eq_true hc
        injection h with h; subst h
        obtain ⟨xs, n, rfl, _, hlen, hxl, hel⟩ := DataW.trod_struct hu hx
        have := flat_fields (P := P) (cs := cs) (r := fun t cs => ∃ x, DataW.trod enc P W base spare held n t cs = some x) (fun t l cs h1 ⟨x, h2⟩ => flat_trod d t l h1 n cs x h2) fs.toList 0 l hl fun i f hf => by
          have hf' : fs[i]? = some f := by simpa using hf
          have hi : i < xs.length := by rw [hxl]; exact (Array.getElem?_eq_some_iff.1 hf').1
          exact ⟨xs[i], by rw [hel i f hf', List.getElem?_eq_getElem hi]⟩
        rw [List.drop_zero, List.take_of_length_le (by omega)] at this
        exact this
    · rename_i n e hu
      simp only [Option.bind_eq_some_iff] at h
      obtain ⟨l, hl, h⟩ := h
      cases hc : (Nat.beq (P.cellsOf e) l.length && Nat.beq (P.cellsOf t) (n * l.length)) with
      | false => rw [hc] at h; cases h
      | true =>
        rw [hc] at h
        simp only [Bool.and_eq_true] at hc
        have hc1 := Nat.eq_of_beq_eq_true hc.1
        have hc2 := Nat.eq_of_beq_eq_true hc.2
        injection h with h; subst h
        obtain ⟨xs, m, rfl, _, hlen, hxl, hel⟩ := DataW.trod_array hu hx
        have := flat_items (l := l) (cs := cs) n 0 fun j hj => by
          have h1 := hel j hj
          rw [hc1] at h1
          rw [Nat.zero_add]
          exact flat_trod d e l hl m _ xs[j] (by rw [h1, List.getElem?_eq_getElem (by omega)])
        rw [Nat.zero_mul, List.drop_zero, List.take_of_length_le (by omega)] at this
        exact this
    · cases h

/-- An aggregate, opened. -/
theorem open_flat {d : Nat} {t : TypeId} {ks : List FK} {r : Reach} {b0 : Nat} {v : Value} {dd : DataW H} {ps : List MemPlace} (hk : flatIn P d t = some ks) (ha : tagg P t = some true) (hval : Value.okWide P W r b0 t v) (h : DataW.Trod enc P W base spare held t v dd ps) :
    ∃ cs : List Value, v = .agg cs.toArray ∧ FOk ks cs := by
  have : ∃ cs, v = .agg cs := by
    unfold tagg at ha
    unfold Value.okWide at hval
    cases hu : P.underlying t with
    | none => rw [hu] at ha; cases ha
    | some u =>
      rw [hu] at ha hval
      cases u <;> simp at ha <;> exact ⟨hval.choose, hval.choose_spec.1⟩
  obtain ⟨cs, rfl⟩ := this
  obtain ⟨fuel, h⟩ := h
  exact ⟨cs.toList, rfl, flat_trod d t ks hk fuel _ _ h⟩

/-- Rows in memory, read alone. -/
structure ImmAt (w : World) (b off e m : Nat) (r : Nat → List Value) : Prop where
  lt : 0 < m → b < w.heap.size
  len : ∀ i, i < m → (r i).length = e
  cell : ∀ i, i < m → ∀ q, q < e → w.cell? ⟨b, off + i * e + q, none⟩ = (r i)[q]?
theorem cells_get {w : World} {base : Nat} {a : Addr} {n : Nat} {cs : List Value} (h : w.cells? base a n = some cs) : cs.length = n ∧ ∀ q, q < n → w.cell? (a.add q) = cs[q]? := by
  obtain ⟨_, h1, h2⟩ := World.cells?_some h
  exact ⟨h1, h2⟩
/-- A list of such, opened. -/
theorem open_flats {d : Nat} {t e : TypeId} {ks : List FK} {r : Reach} {b0 : Nat} {v : Value} {dd : DataW H} {ps : List MemPlace} (ht : P.underlying t = some (.slice e)) (hk : flatIn P d e = some ks) (hc : P.cellsOf e = ks.length) (h0 : 0 < ks.length) (hval : Value.okWide P W r b0 t v) (h : DataW.Trod enc P W base spare held t v dd ps) :
    v = .slice none 0 0 ∨ ∃ (b off len cap : Nat) (rw : Nat → List Value), v = .slice (some ⟨b, off, none⟩) len cap ∧ len ≤ cap ∧ cap ≤ maxLen ∧ ImmAt W b off ks.length len rw ∧ ∀ i, i < len → FOk ks (rw i) := by
  obtain ⟨a, len, cap, rfl⟩ := okWide_slice ht hval
  obtain ⟨fuel, h⟩ := h
  rcases DataW.trod_slice ht h with ⟨h1, _⟩ | ⟨a', len', cap', elems, rest, n, _, h1, _, hb, hlc, hcm, hel, he, _⟩
  · left; simpa [Value.cells] using h1
  · right
    simp [Value.cells] at h1
    obtain ⟨rfl, rfl, rfl⟩ := h1
    have hsp : a'.spot = none := by
      unfold Value.okWide at hval
      rw [ht] at hval
      simp only [Cell.okWide, ht, Cell.ok] at hval
      exact hval.2.2.2.1
    obtain ⟨ab, ao, as⟩ := a'
    simp only at hsp; subst hsp
    have key : ∀ i, i < len → ∃ cs, cs.length = ks.length ∧ FOk ks cs ∧ ∀ q, q < ks.length → W.cell? ⟨ab, ao + i * ks.length + q, none⟩ = cs[q]? := fun i hi => by
      have h2 := he i hi
      rw [hc, List.getElem?_eq_getElem (by omega), Option.bind_eq_some_iff] at h2
      obtain ⟨cs, hcs, h3⟩ := h2
      obtain ⟨h4, h5⟩ := cells_get hcs
      refine ⟨cs, h4, flat_trod d e ks hk _ _ _ h3, fun q hq => ?_⟩
      rw [← h5 q hq]
      congr 1
      rw [addr_add ⟨ab, ao, none⟩ _ rfl, addr_add _ _ rfl]
    refine ⟨ab, ao, len, cap, fun i => if hi : i < len then (key i hi).choose else [], rfl, hlc, hcm, ⟨fun hm => ?_, fun i hi => ?_, fun i hi q hq => ?_⟩, fun i hi => ?_⟩
    · obtain ⟨cs, h6, _, h7⟩ := key 0 hm
      have h7 := h7 0 h0
      rw [List.getElem?_eq_getElem (by omega)] at h7
      apply Decidable.byContradiction
      intro hn
      have hh : W.heap[ab]? = none := Array.getElem?_eq_none (by omega)
      simp [World.cell?, hh] at h7
    · simp only [hi, dite_true]; exact (key i hi).choose_spec.1
    · simp only [hi, dite_true]; exact (key i hi).choose_spec.2.2 q hq
    · simp only [hi, dite_true]; exact (key i hi).choose_spec.2.1

/-- A list that is read alone: where it lies, and its rows. -/
structure ImmD where
  b : Nat
  off : Nat
  e : Nat
  m : Nat
  r : Nat → List Value
def ImmD.nm (d : ImmD) : Nm := ⟨d.b, d.off, d.e⟩
def immL : Nat → List ImmD → List (Nat × Blk)
  | _, [] => []
  | n, d :: r => (n, .imm d.e d.m fun i => (d.r i).map .v) :: immL (n + 1) r
def immN : List ImmD → Nat → Nm
  | [], _ => ⟨0, 0, 0⟩
  | d :: _, 0 => d.nm
  | _ :: r, n + 1 => immN r n
theorem immL_mem : ∀ (ims : List ImmD) (n m : Nat) (b : Blk), (m, b) ∈ immL n ims → ∃ d, d ∈ ims ∧ n ≤ m ∧ m < n + ims.length ∧ b = .imm d.e d.m (fun i => (d.r i).map .v) ∧ immN ims (m - n) = d.nm
  | [], n, m, b, h => by simp [immL] at h
  | d :: r, n, m, b, h => by
    simp only [immL, List.mem_cons, Prod.mk.injEq] at h
    rcases h with ⟨rfl, rfl⟩ | h
    · exact ⟨d, by simp, by omega, by simp, rfl, by simp [immN]⟩
    · obtain ⟨d', h1, h2, h3, h4, h5⟩ := immL_mem r (n + 1) m b h
      refine ⟨d', by simp [h1], by omega, by simp; omega, h4, ?_⟩
      rw [show m - n = (m - (n + 1)) + 1 by omega]
      exact h5
theorem immL_foot (ρ : Env) : ∀ (ims : List ImmD) (n : Nat), footL ρ (immL n ims) = []
  | [], _ => rfl
  | d :: r, n => by simp [immL, footL, Blk.foot, immL_foot ρ r]
theorem immL_names : ∀ (ims : List ImmD) (n : Nat), (immL n ims).map (·.1) = List.range' n ims.length
  | [], _ => rfl
  | d :: r, n => by simp [immL, immL_names r, List.range'_succ]
/-- The walk of a function that reads lists alone. -/
theorem calls_imm {f : FuncId} {fn : Func} {c : Code} {args : Array Value} {w : World} {R : Ending → World → Prop} (ims : List ImmD) (hi : ∀ d, d ∈ ims → ImmAt w d.b d.off d.e d.m d.r) (n : Nat) (rs : List ResultVar) (hf : P.funcs[f]? = some fn) (hb : fn.body = some c) (hn : fn.ntmps = n) (hr : fn.results = rs.toArray)
    (xs : List SV) (hl : xs.length ≤ n) (ha : ∀ ρ' : Env, (∀ k, k < ims.length → ρ' k = immN ims k) → args.toList = SV.denL ρ' xs)
    (h : X P ⟨w, fun _ => False, n, ims.length, immN ims⟩ c (retQ P ⟨w, fun _ => False, n, ims.length, immN ims⟩ rs R) ⟨frOf 0 xs, immL 0 ims, ims.length⟩) : Calls P f args w R := by
  refine calls_of (fun _ => False) n rs hf hb hn hr xs _ ims.length (immN ims) hl (fun ρ' hρ => ha ρ' hρ) (fun ρ' hρ => ⟨fun m b hm => ?_, by rw [immL_foot]; exact List.nodup_nil⟩) (fun m b hm => ?_) (by rw [immL_names]; exact List.nodup_range') h
  · obtain ⟨d, h1, h2, h3, rfl, h5⟩ := immL_mem _ _ _ _ hm
    obtain ⟨i1, i2, i3⟩ := hi d h1
    rw [Nat.sub_zero] at h5
    have hρm : ρ' m = d.nm := by rw [hρ m (by omega), h5]
    refine ⟨by rw [hρm]; rfl, fun i hi => ⟨by rw [List.length_map]; exact i2 i hi, fun q hq => ?_⟩, fun hm0 => by rw [hρm]; exact ⟨i1 hm0, fun h => h⟩⟩
    rw [hρm, ← List.getElem?_map, map_v]
    exact i3 i hi q hq
  · obtain ⟨d, h1, h2, h3, _⟩ := immL_mem _ _ _ _ hm
    omega
/-- A list argument, as the walk holds it: nothing, or the rows of block 'k'. -/
def LArg (k m : Nat) (x : CV) : Prop := (x = .v (.slice none 0 0) ∧ m = 0) ∨ ∃ cap, x = .s k 0 m cap
theorem LArg.len {k m : Nat} {x : CV} (h : LArg k m x) (e : TypeId) (F : SV → Prop) : XLen (.slc e) (.c x) F = F (.c (.v (.int .i64 m))) := by
  rcases h with ⟨rfl, rfl⟩ | ⟨cap, rfl⟩ <;> rfl
theorem LArg.pos {k m : Nat} {x : CV} (h : LArg k m x) (hm : 0 < m) : ∃ cap, x = .s k 0 m cap := by
  rcases h with ⟨rfl, rfl⟩ | h
  · omega
  · exact h
theorem LArg.bl {k m n : Nat} {x : CV} (h : LArg k m x) (hk : k < n) : x.bl n := by
  rcases h with ⟨rfl, rfl⟩ | ⟨cap, rfl⟩
  · trivial
  · exact hk
/-- A list of such, opened, for the walk. -/
theorem open_list (k : Nat) {d : Nat} {t e : TypeId} {ks : List FK} {r : Reach} {b0 : Nat} {v : Value} {dd : DataW H} {ps : List MemPlace} (ht : P.underlying t = some (.slice e)) (hk : flatIn P d e = some ks) (hc : P.cellsOf e = ks.length) (h0 : 0 < ks.length) (hval : Value.okWide P W r b0 t v) (h : DataW.Trod enc P W base spare held t v dd ps) :
    ∃ (b off m : Nat) (r : Nat → List Value) (x : CV), ImmAt W b off ks.length m r ∧ LArg k m x ∧ (∀ ρ : Env, ρ k = ⟨b, off, ks.length⟩ → x.den ρ = v) ∧ (∀ i, i < m → FOk ks (r i)) ∧ m ≤ maxLen := by
  rcases open_flats ht hk hc h0 hval h with rfl | ⟨b, off, len, cap, r, rfl, hl, hm, hi, hf⟩
  · exact ⟨0, 0, 0, fun _ => [], .v (.slice none 0 0), ⟨fun h => by omega, fun i h => by omega, fun i h => by omega⟩, .inl ⟨rfl, rfl⟩, fun _ _ => rfl, fun i h => by omega, by omega⟩
  · exact ⟨b, off, len, r, .s k 0 len cap, hi, .inr ⟨cap, rfl⟩, fun ρ hρ => by simp [CV.den, hρ], hf, by omega⟩
/-- A law that answers true whatever its arguments, and leaves all that was there. -/
theorem law_lift {C : Checked} {os : Os} {f : FuncId} {fn : Func} {s : ChangeSpec} {apart fresh : Bool} {tb : TypeId} (own : ownKnob C.prog.godebug = none) (started : os.Started) (noInit : C.prog.inits.idxOf? f = none) (hfn : C.prog.funcs[f]? = some fn)
    (witness : ∃ (w : World) (tape : Tape) (i : Input), w.os = os ∧ (w.forCall tape i).Shaped C.prog ∧ i.vars = [] ∧ Input.okWide C.prog (w.forCall tape i) .any w.heap.size f i ∧
      s.pre6 enc C.prog fn [] apart (w.forCall tape i).memory i.args ∧ Assume.holds {} C.prog (lone (Frame.enter C.prog f i.args .normal) [] (w.forCall tape i)))
    (hl : laidOutB C.prog = true) (hts : rowsB C.prog fn.params.toList = true) (hr : fn.resultTypes = #[tb]) (htb : C.prog.underlying tb = some .bool) (hv : s.vars = [])
    (hs : ∀ ds : List (DataW H), ds.length = fn.params.size → (s.fn H ds).results = [.lit (.bool true)] ∧ (s.fn H ds).args = ds ∧ (s.fn H ds).vars = [])
    (hwalk : ∀ (W : World) (base : Nat) (args : Array Value) (ds : List (DataW H)) (p : List MemPlace), (∀ (j : Nat) t v, fn.params[j]? = some t → args[j]? = some v → Value.okWide C.prog W .any base t v) →
      DataW.TrodAll enc C.prog W 0 (fun _ => true) true fn.params.toList args.toList ds p → Calls C.prog f args W fun e W' => e = .returned (.bool true) ∧ Below W.heap.size W W') :
    ReturnsInHanded {} C os f .any (s.pre6 enc C.prog fn [] apart) (s.post enc C.prog fn apart fresh false false) := by
  refine returnsInHanded_of_change own started noInit hfn witness ?_
  intro W base args ds gs before hval hW _ _
  have hW' := hW
  obtain ⟨p, q, hA, hV, _, _⟩ := hW'
  have hlen := (trodAll_length hA).2
  refine (hwalk W base args ds p hval hA).mono fun e W' ⟨he, hb⟩ => ?_
  subst he
  have hg : gs = [] := by rw [hv] at hV; exact (trodVars_none hV).1
  subst hg
  obtain ⟨h1, h2, h3⟩ := hs ds (by simpa using hlen)
  exact ⟨_, rfl, law_post hl hts hr htb hv (by rw [List.append_nil]; exact h1) (by rw [List.append_nil]; exact h2) (by rw [List.append_nil]; exact h3) hW hb⟩
end
end Go.Sx
