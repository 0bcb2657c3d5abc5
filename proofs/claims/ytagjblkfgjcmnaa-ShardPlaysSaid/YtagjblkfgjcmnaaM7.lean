/-
  Parts of the proof: Sx7. Conditions: none.
-/
import Derived.Test.YtagjblkfgjcmnaaM6
set_option linter.unusedVariables false
set_option linter.unusedSimpArgs false
set_option linter.unusedSectionVars false
namespace Go.Sx
open Go.RowKit
inductive PS where
  | t (i : Nat)
  | r (i : Nat)
  | c (i : Nat) (p : List PS) (j : Nat) (q : List PS)
  | d (i : Nat) (p : List PS) (j : Nat) (q : List PS) (k : Nat) (s : List PS)
mutual
def plen : List PS → Nat
  | [] => 0
  | x :: r => plen1 x (plen r) + 1
def plen1 : PS → Nat → Nat
  | .t _, n => n
  | .r _, n => n
  | .c _ p _ _, _ => plen p
  | .d _ p _ _ _ _, _ => plen p
end
def deepW (ops : Array Oper) (i : Nat) : Nat → Nat → Bool
  | 0, _ => false
  | n + 1, j => match ops[j]? with
    | some o => o.after.any fun e => Region.binds .any e && (Nat.beq e.on i || deepW ops i n e.on)
    | none => false
def waits (ops : Array Oper) (last i : Nat) : Bool := match ops[last]? with
  | some _ => i != last && deepW ops i 6 last
  | none => true
def Clo (ops : Array Oper) (l : Array Bool) : Prop := ∀ j o, ops[j]? = some o → l.getD j false = true → ∀ e ∈ o.after, Region.binds .any e = true → l.getD e.on false = true

theorem Clo.none {ops : Array Oper} (n : Nat) : Clo ops (Array.replicate n false) := fun j o ho h => by
  rw [Array.getD_eq_getD_getElem?, Array.getElem?_replicate] at h
  split at h <;> simp at h
theorem Clo.set {ops : Array Oper} {l : Array Bool} (h : Clo ops l) {j : Nat} (hj : j ∈ Region.ready .any ops l) : Clo ops (l.setIfInBounds j true) := fun k o ho hk e he hb => by
  by_cases hjk : j = k
  · subst hjk
    obtain ⟨_, o', ho', hall⟩ := mem_ready.1 hj
    rw [ho] at ho'; injection ho' with ho'; subst ho'
    exact getD_set_true (hall e he hb)
  · rw [getD_set_ne false hjk] at hk
    exact getD_set_true (h k o ho hk e he hb)

mutual
def planOk (ops : Array Oper) (last : Nat) : List PS → Array Bool → Bool
  | [], l => (Region.ready .any ops l).isEmpty
  | x :: p, l => planOk1 ops last x p.isEmpty (planOk ops last p) l
def planOk1 (ops : Array Oper) (last : Nat) : PS → Bool → (Array Bool → Bool) → Array Bool → Bool
  | .t i, _, R, l => waits ops last i && Region.free .any ops l i && (Region.ready .any ops l).contains i && R (l.setIfInBounds i true)
  | .r i, e, R, l => (i != last || e) && (Region.ready .any ops l == [i]) && R (l.setIfInBounds i true)
  | .c i p j q, e, _, l => (e && (i != last && j != last)) && (Region.ready .any ops l == [i, j] && (Nat.beq (plen p) (plen q) && (planOk ops last p (l.setIfInBounds i true) && planOk ops last q (l.setIfInBounds j true))))
  | .d i p j q k s, e, _, l => (e && (i != last && (j != last && k != last))) && (Region.ready .any ops l == [i, j, k] && (Nat.beq (plen p) (plen q) && (Nat.beq (plen p) (plen s) && (planOk ops last p (l.setIfInBounds i true) && (planOk ops last q (l.setIfInBounds j true) && planOk ops last s (l.setIfInBounds k true))))))
end

/-! The same, reckoned with numbers for sets. -/
def maskL : List Edge → Nat
  | [] => 0
  | e :: r => bif Region.binds .any e then maskL r ||| 1 <<< e.on else maskL r
def maskOf (o : Oper) : Nat := maskL o.after.toList
theorem shl_bit (n k : Nat) : (1 <<< n).testBit k = decide (n = k) := by
  rw [Nat.one_shiftLeft, Nat.testBit_two_pow]
theorem maskL_bit (k : Nat) : ∀ l : List Edge, (maskL l).testBit k = true ↔ ∃ e, e ∈ l ∧ Region.binds .any e = true ∧ e.on = k
  | [] => by simp [maskL]
  | e :: r => by
    have ih := maskL_bit k r
    cases hb : Region.binds .any e
    · simp [maskL, hb, ih]
    · simp only [maskL, hb, cond_true, Nat.testBit_or, shl_bit, Bool.or_eq_true, ih, decide_eq_true_eq, List.mem_cons]
      constructor
      · rintro (⟨e', h1, h2, h3⟩ | h)
        · exact ⟨e', .inr h1, h2, h3⟩
        · exact ⟨e, .inl rfl, hb, h⟩
      · rintro ⟨e', rfl | h1, h2, h3⟩
        · exact .inr h3
        · exact .inl ⟨e', h1, h2, h3⟩
def isIn (m D : Nat) : Bool := Nat.beq (m &&& D) m
theorem isIn_spec (m D : Nat) : isIn m D = true ↔ ∀ k, m.testBit k = true → D.testBit k = true := by
  unfold isIn
  constructor
  · intro h k hk
    have h := Nat.eq_of_beq_eq_true h
    rw [← h, Nat.testBit_and] at hk
    simp at hk; exact hk.2
  · intro h
    have : m &&& D = m := by
      apply Nat.eq_of_testBit_eq
      intro k
      rw [Nat.testBit_and]
      cases hk : m.testBit k
      · simp
      · simp [h k hk]
    rw [this]; exact Nat.beq_refl m
def Rep (D : Nat) (l : Array Bool) : Prop := ∀ k, D.testBit k = l.getD k false
theorem Rep.isIn {D : Nat} {l : Array Bool} (h : Rep D l) (o : Oper) : isIn (maskOf o) D = o.after.all fun e => !Region.binds .any e || l.getD e.on false := by
  rw [Bool.eq_iff_iff, isIn_spec, Array.all_eq_true_iff_forall_mem]
  constructor
  · intro hh e he
    cases hb : Region.binds .any e
    · simp
    · have := hh e.on ((maskL_bit _ _).2 ⟨e, by simpa using he, hb, rfl⟩)
      rw [h] at this; simp [this]
  · intro hh k hk
    obtain ⟨e, he, hb, rfl⟩ := (maskL_bit _ _).1 hk
    have := hh e (by simpa using he)
    rw [h]; simpa [hb] using this
theorem Rep.zero (n : Nat) : Rep 0 (Array.replicate n false) := fun k => by
  rw [Array.getD_eq_getD_getElem?, Array.getElem?_replicate]
  split <;> simp
theorem Rep.set {D : Nat} {l : Array Bool} (h : Rep D l) {i : Nat} (hi : i < l.size) : Rep (D ||| 1 <<< i) (l.setIfInBounds i true) := fun k => by
  rw [Nat.testBit_or, shl_bit, h k]
  simp only [Array.getD_eq_getD_getElem?, Array.getElem?_setIfInBounds]
  by_cases hk : i = k
  · subst hk; simp [hi]
  · simp [hk]
def readyG : List Nat → Nat → Nat → List Nat
  | [], _, _ => []
  | m :: r, i, D => bif !(D.testBit i) && isIn m D then i :: readyG r (i + 1) D else readyG r (i + 1) D
theorem readyG_eq (D : Nat) (f : Nat → Bool) : ∀ (ms : List Nat) (i : Nat), (∀ j m, ms[j]? = some m → f (i + j) = (!(D.testBit (i + j)) && isIn m D)) → readyG ms i D = (List.range' i ms.length).filter f
  | [], i, _ => by simp [readyG]
  | m :: r, i, h => by
    have h0 := h 0 m rfl
    have ih := readyG_eq D f r (i + 1) fun j m hj => by rw [Nat.add_right_comm i 1 j]; exact h (j + 1) m (by simpa using hj)
    simp only [Nat.add_zero] at h0
    simp only [readyG, List.length_cons, List.range'_succ, List.filter_cons, h0, ih]
    cases (!(D.testBit i) && isIn m D) <;> simp
theorem Rep.ready {ops : Array Oper} {D : Nat} {l : Array Bool} (h : Rep D l) (hl : l.size = ops.size) : readyG (ops.toList.map maskOf) 0 D = Region.ready .any ops l := by
  unfold Region.ready
  rw [List.range_eq_range', show ops.size = (ops.toList.map maskOf).length by simp]
  refine readyG_eq D _ _ 0 fun j m hj => ?_
  simp only [Nat.zero_add]
  rw [List.getElem?_map, Option.map_eq_some_iff] at hj
  obtain ⟨o, ho, rfl⟩ := hj
  have ho' : ops[j]? = some o := by simpa using ho
  have hlt : j < l.size := by rw [hl]; exact (Array.getElem?_eq_some_iff.1 ho').1
  rw [h j, h.isIn o, ho']
  simp [Array.getD_eq_getD_getElem?, hlt]
def freeG (ops : Array Oper) (oi : Oper) (i : Nat) : List Oper → Nat → Nat → Bool
  | [], _, _ => true
  | o :: os, j, D => (Nat.beq j i || (D.testBit j || ((maskOf o).testBit i || oi.apart ops o))) && freeG ops oi i os (j + 1) D
theorem freeG_out {ops : Array Oper} {oi : Oper} {i D : Nat} {l : Array Bool} (hD : Rep D l) : ∀ (os : List Oper) (j : Nat), freeG ops oi i os j D = true → ∀ q o, os[q]? = some o → (j + q == i || (l.getD (j + q) false || (o.after.any (fun e => Region.binds .any e && e.on == i) || oi.apart ops o))) = true
  | [], _, _, q, o, h => by simp at h
  | o :: os, j, h, q, o', hq => by
    simp only [freeG, Bool.and_eq_true] at h
    cases q with
    | zero =>
      simp at hq; subst hq
      have h1 := h.1
      simp only [Nat.add_zero, Bool.or_eq_true, hD j] at h1 ⊢
      rcases h1 with h1 | h1 | h1 | h1
      · exact .inl (by simpa using Nat.eq_of_beq_eq_true h1)
      · exact .inr (.inl h1)
      · refine .inr (.inr (.inl ?_))
        obtain ⟨e, he, hb, rfl⟩ := (maskL_bit _ _).1 h1
        rw [Array.any_eq_true']
        exact ⟨e, by simpa using he, by simp [hb]⟩
      · exact .inr (.inr (.inr h1))
    | succ q =>
      have := freeG_out hD os (j + 1) h.2 q o' (by simpa using hq)
      rw [Nat.add_right_comm j 1 q] at this
      exact this
theorem Rep.free {ops : Array Oper} {i : Nat} {oi : Oper} {D : Nat} {l : Array Bool} (h : Rep D l) (hl : l.size = ops.size) (hi : ops[i]? = some oi) (hf : freeG ops oi i ops.toList 0 D = true) : Region.free .any ops l i = true := by
  unfold Region.free
  rw [hi]
  simp only [List.all_eq_true, List.mem_range]
  intro j hj
  have := freeG_out h _ _ hf j ops[j] (by simp [hj])
  simp only [Nat.zero_add] at this
  have hlt : j < l.size := by omega
  rw [Array.getElem?_eq_getElem hj]
  simp only [Array.getD_eq_getD_getElem?, Array.getElem?_eq_getElem hlt, Option.getD_some] at this ⊢
  simpa [Bool.or_assoc] using this
mutual
def planOkM (ops : Array Oper) (ms : List Nat) (last : Nat) : List PS → Nat → Bool
  | [], D => (readyG ms 0 D).isEmpty
  | x :: p, D => planOkM1 ops ms last x p.isEmpty (planOkM ops ms last p) D
def planOkM1 (ops : Array Oper) (ms : List Nat) (last : Nat) : PS → Bool → (Nat → Bool) → Nat → Bool
  | .t i, _, R, D => waits ops last i && ((match ops[i]? with | some oi => freeG ops oi i ops.toList 0 D | none => false) && ((readyG ms 0 D).contains i && R (D ||| 1 <<< i)))
  | .r i, e, R, D => (i != last || e) && (readyG ms 0 D == [i] && R (D ||| 1 <<< i))
  | .c i p j q, e, _, D => (e && (i != last && j != last)) && (readyG ms 0 D == [i, j] && (Nat.beq (plen p) (plen q) && (planOkM ops ms last p (D ||| 1 <<< i) && planOkM ops ms last q (D ||| 1 <<< j))))
  | .d i p j q k s, e, _, D => (e && (i != last && (j != last && k != last))) && (readyG ms 0 D == [i, j, k] && (Nat.beq (plen p) (plen q) && (Nat.beq (plen p) (plen s) && (planOkM ops ms last p (D ||| 1 <<< i) && (planOkM ops ms last q (D ||| 1 <<< j) && planOkM ops ms last s (D ||| 1 <<< k))))))
end
theorem mem_ready_lt {ops : Array Oper} {l : Array Bool} {i : Nat} (hl : l.size = ops.size) (h : i ∈ Region.ready .any ops l) : i < l.size := by
  rw [hl]; exact (mem_ready.1 h).2.elim fun o ho => (Array.getElem?_eq_some_iff.1 ho.1).1
theorem planOk_of {ops : Array Oper} {last : Nat} : ∀ (p : List PS) (D : Nat) (l : Array Bool), Rep D l → l.size = ops.size → planOkM ops (ops.toList.map maskOf) last p D = true → planOk ops last p l = true
  | [], D, l, hD, hl, h => by simpa only [planOkM, planOk, hD.ready hl] using h
  | .t i :: p, D, l, hD, hl, h => by
    simp only [planOkM, planOkM1, Bool.and_eq_true, hD.ready hl] at h
    obtain ⟨h1, h2, h3, h4⟩ := h
    cases hi : ops[i]? with
    | none => rw [hi] at h2; cases h2
    | some oi =>
      rw [hi] at h2
      have hlt : i < l.size := by rw [hl]; exact (Array.getElem?_eq_some_iff.1 hi).1
      simp only [planOk, planOk1, Bool.and_eq_true]
      exact ⟨⟨⟨h1, hD.free hl hi h2⟩, h3⟩, planOk_of p _ _ (hD.set hlt) (by simp [hl]) h4⟩
  | .r i :: p, D, l, hD, hl, h => by
    simp only [planOkM, planOkM1, Bool.and_eq_true, hD.ready hl] at h
    obtain ⟨h1, h3, h4⟩ := h
    have hlt : i < l.size := mem_ready_lt hl (by rw [beq_iff_eq] at h3; rw [h3]; simp)
    simp only [planOk, planOk1, Bool.and_eq_true]
    exact ⟨⟨h1, h3⟩, planOk_of p _ _ (hD.set hlt) (by simp [hl]) h4⟩
  | .c i p j q :: r, D, l, hD, hl, h => by
    simp only [planOkM, planOkM1, Bool.and_eq_true, hD.ready hl] at h
    obtain ⟨h1, h3, h4, h5, h6⟩ := h
    have hli : i < l.size := mem_ready_lt hl (by rw [beq_iff_eq] at h3; rw [h3]; simp)
    have hlj : j < l.size := mem_ready_lt hl (by rw [beq_iff_eq] at h3; rw [h3]; simp)
    simp only [planOk, planOk1, Bool.and_eq_true]
    exact ⟨h1, h3, h4, planOk_of p _ _ (hD.set hli) (by simp [hl]) h5, planOk_of q _ _ (hD.set hlj) (by simp [hl]) h6⟩
  | .d i p j q k s :: r, D, l, hD, hl, h => by
    simp only [planOkM, planOkM1, Bool.and_eq_true, hD.ready hl] at h
    obtain ⟨h1, h3, h4, h4', h5, h6, h7⟩ := h
    have hli : i < l.size := mem_ready_lt hl (by rw [beq_iff_eq] at h3; rw [h3]; simp)
    have hlj : j < l.size := mem_ready_lt hl (by rw [beq_iff_eq] at h3; rw [h3]; simp)
    have hlk : k < l.size := mem_ready_lt hl (by rw [beq_iff_eq] at h3; rw [h3]; simp)
    simp only [planOk, planOk1, Bool.and_eq_true]
    exact ⟨h1, h3, h4, h4', planOk_of p _ _ (hD.set hli) (by simp [hl]) h5, planOk_of q _ _ (hD.set hlj) (by simp [hl]) h6, planOk_of s _ _ (hD.set hlk) (by simp [hl]) h7⟩
termination_by p => SizeOf.sizeOf p
def planOk0 (ops : Array Oper) (last : Nat) (p : List PS) : Bool := Region.noSelect ops && Nat.beq (plen p) ops.size && planOkM ops (ops.toList.map maskOf) last p 0
def wpL (P : Program) (ops : Array Oper) (Q : Exit → Act → World → Prop) (S : World → Prop) (last : Nat) : Nat → Array Bool → Act → World → Prop
  | 0, l, a, w => Region.ready .any ops l = [] ∧ Q .normal a w
  | n + 1, l, a, w => (Region.ready .any ops l = [] → Q .normal a w) ∧ ∀ i ∈ Region.ready .any ops l, wpOp P ops Q i (fun a' w' => (i ≠ last → S w') ∧ wpL P ops Q S last n (l.setIfInBounds i true) a' w') a w

theorem wpAny_of_wpL {P : Program} {ops : Array Oper} {Q : Exit → Act → World → Prop} {S : World → Prop} {last : Nat} : ∀ (n : Nat) (l : Array Bool) (a : Act) (w : World), wpL P ops Q S last n l a w → wpAny P .any ops Q n l a w
  | 0, _, _, _, h => h
  | n + 1, _, _, _, h => ⟨h.1, fun i hi => wpOp_mono (fun a' w' h' => wpAny_of_wpL n _ a' w' h'.2) (h.2 i hi)⟩

theorem deepW_done {ops : Array Oper} {i : Nat} {l : Array Bool} (hcl : Clo ops l) : ∀ (n j : Nat), deepW ops i n j = true → (∀ o, ops[j]? = some o → ∀ e ∈ o.after, Region.binds .any e = true → l.getD e.on false = true) → l.getD i false = true
  | 0, _, h, _ => by cases h
  | n + 1, j, h, hall => by
    simp only [deepW] at h
    split at h
    · rename_i o ho
      obtain ⟨q, hq, hb⟩ := Array.any_eq_true.1 h
      simp only [Bool.and_eq_true, Bool.or_eq_true] at hb
      obtain ⟨hb1, hb2⟩ := hb
      have h1 := hall o ho _ (Array.getElem_mem hq) hb1
      rcases hb2 with hb2 | hb2
      · have hbeq := Nat.eq_of_beq_eq_true hb2
        rw [hbeq] at h1
        exact h1
      · exact deepW_done hcl n _ hb2 fun o2 ho2 e he hb => hcl _ o2 ho2 h1 e he hb
    · cases h
theorem waits_ready {ops : Array Oper} {last i : Nat} {l : Array Bool} (hcl : Clo ops l) (hw : waits ops last i = true) (hi : i ∈ Region.ready .any ops l) : i ≠ last ∧ last ∉ Region.ready .any ops l := by
  have hun := (mem_ready.1 hi).1
  have hno : l.getD i false = true → False := fun h1 => by
    rcases Nat.lt_or_ge i l.size with h' | h'
    · simp [h'] at hun h1; rw [hun] at h1; cases h1
    · simp [Array.getElem?_eq_none h'] at h1
  cases ho : ops[last]? with
  | none =>
    have hnot : last ∉ Region.ready .any ops l := fun h => by
      obtain ⟨_, o, ho', _⟩ := mem_ready.1 h
      rw [ho] at ho'; cases ho'
    exact ⟨fun e => by subst e; exact hnot hi, hnot⟩
  | some o =>
    simp only [waits, ho, Bool.and_eq_true] at hw
    refine ⟨by simpa using hw.1, fun h => ?_⟩
    obtain ⟨_, o', ho', hall⟩ := mem_ready.1 h
    rw [ho] at ho'; injection ho' with ho'; subst ho'
    exact hno (deepW_done hcl 6 last hw.2 fun o' ho' => by rw [ho] at ho'; injection ho' with ho'; subst ho'; exact hall)
theorem wpL_first {P : Program} {ops : Array Oper} {Q : Exit → Act → World → Prop} {S : World → Prop} {last i : Nat} {oi : Oper} {v : Value} (hi : ops[i]? = some oi) (hsel : ∀ (j : Nat) (o : Oper) cs b, ops[j]? = some o → o.op ≠ .select cs b)
    (hQ : ∀ c a w, Q (.panic c) (a.put oi.dst v) w → Q (.panic c) a w) (hwt : waits ops last i = true) :
    ∀ (n : Nat) (l : Array Bool) (a : Act) (w : World), Clo ops l →
      (∀ j oj, ops[j]? = some oj → j ≠ i → l.getD j true = false → (∀ e ∈ oj.after, Region.binds .any e = true → e.on ≠ i) → oi.apart ops oj = true) →
      i ∈ Region.ready .any ops l → YieldsIf P ops S oi v a → S w → wpL P ops Q S last n (l.setIfInBounds i true) (a.put oi.dst v) w → wpL P ops Q S last (n + 1) l a w
  | 0, l, a, w, _, _, hr, hy, hS, H => ⟨fun h => (by rw [h] at hr; cases hr), fun j hj => by
      by_cases hji : j = i
      · subst hji; exact hy.wpOp hi hS ⟨fun _ => hS, H⟩
      · have := ready_mono hj hji
        rw [H.1] at this; cases this⟩
  | n + 1, l, a, w, hcl, hfree, hr, hy, hS, H => ⟨fun h => (by rw [h] at hr; cases hr), fun j hj => by
      by_cases hji : j = i
      · subst hji; exact hy.wpOp hi hS ⟨fun _ => hS, H⟩
      · have hjl : j ≠ last := fun e => (waits_ready hcl hwt hr).2 (e ▸ hj)
        have h1 := H.2 j (ready_mono hj hji)
        obtain ⟨hjun, oj, hoj, hall⟩ := mem_ready.1 hj
        have hnot : ∀ e ∈ oj.after, Region.binds .any e = true → e.on ≠ i := fun e he hb heq => by
          have h1 := hall e he hb
          have h0 := (mem_ready.1 hr).1
          rw [heq] at h1
          rcases Nat.lt_or_ge i l.size with h' | h'
          · simp [h'] at h0 h1; rw [h0] at h1; cases h1
          · simp [Array.getElem?_eq_none h'] at h1
        have h2 := wpOp_putIf hoj (hfree j oj hoj hji hjun hnot) (fun cs b => hsel i oi cs b hi) (fun cs b => hsel j oj cs b hoj) hQ hy h1
        have hfree' : ∀ k ok, ops[k]? = some ok → k ≠ i → (l.setIfInBounds j true).getD k true = false → (∀ e ∈ ok.after, Region.binds .any e = true → e.on ≠ i) → oi.apart ops ok = true := fun k ok hk hki hun hno => by
          refine hfree k ok hk hki ?_ hno
          by_cases hjk : j = k
          · subst hjk; exact hjun
          · rw [getD_set_ne true hjk] at hun; exact hun
        refine wpOp_mono (fun a' w' h3 => ⟨fun _ => h3.2.1 hjl, wpL_first hi hsel hQ hwt n (l.setIfInBounds j true) a' w' (hcl.set hj) hfree' (ready_mono hr (Ne.symm hji)) h3.1 (h3.2.1 hjl) ?_⟩) h2
        rw [Array.setIfInBounds_comm _ _ hji]
        exact h3.2.2⟩

def sameAll : List (Nat × Blk) → List (Nat × Blk) → Prop
  | [], _ => True
  | (n, b) :: r, hp => hget hp n = some b ∧ sameAll r hp
def kact (K : St → Prop) (i last : Nat) (hS : List (Nat × Blk)) (st : St) : Prop := (if i = last then True else sameAll hS st.hp) ∧ K st
def kt (P : Program) (hS : List (Nat × Blk)) (op : Op) (d : Option Tmp) (K : St → Prop) (st : St) : Prop := XV P op ⟨st.fr, hS, st.nx⟩ (kput K st d)
def ksk (K : St → Prop) (d : Option Tmp) (st : St) : Prop := K (st.put d (.c (.v undef)))
def gd (all : Array Oper) (g : Option (Nat × Bool)) (run skip : St → Prop) (st : St) : Prop :=
  match g with
  | none => run st
  | some (j, want) => wO (gdst all j) fun t => wG (lk st.fr t) (bif want then run else skip) (bif want then skip else run) skip st

def XPt (P : Program) (C : Cx) (ops : Array Oper) (hS : List (Nat × Blk)) (K : St → Prop) (st : St) (o : Oper) : Prop :=
  dOk C.N o.dst ∧ isVal o.op = true ∧ gd ops o.guard (kt P hS o.op o.dst K) (ksk K o.dst) st
def XPr (P : Program) (C : Cx) (ops : Array Oper) (i last : Nat) (hS : List (Nat × Blk)) (K : St → Prop) (st : St) (o : Oper) : Prop :=
  dOk C.N o.dst ∧ gd ops o.guard (XOp P C o (kact K i last hS)) (ksk K o.dst) st

/-! The plan carried out; 'hS': what is read by what is taken early, and stays asq it is. -/
mutual
def XP (P : Program) (C : Cx) (ops : Array Oper) (last : Nat) (hS : List (Nat × Blk)) : List PS → (St → Prop) → St → Prop
  | [], K, st => K st
  | x :: p, K, st => XP1 P C ops last hS x (XP P C ops last hS p K) K st
def XP1 (P : Program) (C : Cx) (ops : Array Oper) (last : Nat) (hS : List (Nat × Blk)) : PS → (St → Prop) → (St → Prop) → St → Prop
  | .t i, R, _, st => wO ops[i]? (XPt P C ops hS R st)
  | .r i, R, _, st => wO ops[i]? (XPr P C ops i last hS R st)
  | .c i p j q, _, K, st => wO ops[i]? (XPr P C ops i last hS (XP P C ops last hS p K) st) ∧ wO ops[j]? (XPr P C ops j last hS (XP P C ops last hS q K) st)
  | .d i p j q k s, _, K, st => wO ops[i]? (XPr P C ops i last hS (XP P C ops last hS p K) st) ∧ wO ops[j]? (XPr P C ops j last hS (XP P C ops last hS q K) st) ∧ wO ops[k]? (XPr P C ops k last hS (XP P C ops last hS s K) st)
end

section
variable {P : Program} {C : Cx} {st : St}

theorem sameAll_mem : ∀ {hS hp : List (Nat × Blk)}, sameAll hS hp → ∀ n b, (n, b) ∈ hS → (n, b) ∈ hp
  | [], _, _, n, b, h => by cases h
  | (m, c) :: r, hp, hs, n, b, h => by
    rcases List.mem_cons.1 h with h | h
    · injection h with h1 h2; subst h1; subst h2; exact mem_hget hs.1
    · exact sameAll_mem hs.2 n b h
theorem holds_inv {ρ ρ' : Env} {a : Act} {w : World} (h1 : Sat0 C st ρ a w) (h2 : Sat0 C st ρ' a w) (hρ : ∀ n, n < st.nx → ρ' n = ρ n) {n : Nat} {b : Blk} (hm : (n, b) ∈ st.hp) {w' : World} (h : b.holds C ρ n w') : b.holds C ρ' n w' := by
  have hn := hρ n (h1.names n b hm)
  have k1 := h1.hp n b hm
  have k2 := h2.hp n b hm
  cases b with
  | cells ty cs =>
    obtain ⟨_, e1, _⟩ := k1
    obtain ⟨_, e2, _⟩ := k2
    rw [hn, e1] at e2
    simp only [Option.some.injEq, Obj.cells.injEq, and_true] at e2
    obtain ⟨g0, g1, g2⟩ := h
    exact ⟨by rw [hn]; exact g0, by rw [hn, g1, e2], by rw [hn]; exact g2⟩
  | rows ty e m c r =>
    obtain ⟨_, _, ⟨arr1, e1, _, f1⟩, _⟩ := k1
    obtain ⟨_, _, ⟨arr2, e2, _, f2⟩, _⟩ := k2
    rw [hn] at e2
    have e2 := e1.inj e2
    subst e2
    obtain ⟨g0, g1, ⟨arr, g2, gc, g3⟩, g4⟩ := h
    refine ⟨by rw [hn]; exact g0, by rw [hn]; exact g1, ⟨arr, by rw [hn]; exact g2, gc, fun i hi => ⟨(g3 i hi).1, fun k hk => ?_⟩⟩, by rw [hn]; exact g4⟩
    rw [(g3 i hi).2 k hk, ← (f1 i hi).2 k hk, (f2 i hi).2 k hk]
  | imm e m r =>
    obtain ⟨_, f1, _⟩ := k1
    obtain ⟨_, f2, _⟩ := k2
    obtain ⟨g1, g3, g4⟩ := h
    refine ⟨by rw [hn]; exact g1, fun i hi => ⟨(g3 i hi).1, fun k hk => ?_⟩, by rw [hn]; exact g4⟩
    have e1 := (f1 i hi).2 k hk
    have e2 := (f2 i hi).2 k hk
    rw [hn] at e2 ⊢
    rw [(g3 i hi).2 k hk, ← e1, e2]
  | obj o => obtain ⟨g0, g1, g2⟩ := h; exact ⟨by rw [hn]; exact g0, by rw [hn]; exact g1, by rw [hn]; exact g2⟩
  | pred fp R => exact h

theorem gd_out {all : Array Oper} {o : Oper} {ρ : Env} {a : Act} {w : World} {run skip : St → Prop} (hs : Sat C st ρ a w) (h : gd all o.guard run skip st) :
    (Region.wanted o (yielded all a.tmps) = true ∧ run st) ∨ (Region.wanted o (yielded all a.tmps) = false ∧ skip st) := by
  unfold gd at h
  cases hg : o.guard with
  | none => rw [hg] at h; exact .inl ⟨by simp [Region.wanted, hg], h⟩
  | some q =>
    obtain ⟨j, want⟩ := q
    rw [hg] at h
    obtain ⟨t, ht, h1⟩ := wO_out h
    rcases wG_out h1 with ⟨l, hb, hu⟩ | h1
    · have hv := hs.now.fr t (by rw [hb]; rfl)
      rw [hb] at hv
      simp only [SV.den, CV.den] at hv
      exact .inr ⟨by simp [Region.wanted, hg, yield_no ht hv], hu⟩
    obtain ⟨b, hb, hT, hF⟩ := wB_out h1
    have hev : (lk st.fr t).ok = true := by rw [hb]; rfl
    have hv := hs.now.fr t hev
    rw [hb] at hv
    simp only [SV.den, CV.den] at hv
    by_cases htl : t < C.N
    · have hy := yield_of ht hv (by rw [hs.now.size.1]; exact htl)
      cases b <;> cases want
      · exact .inl ⟨by simp [Region.wanted, hg, hy], hF rfl⟩
      · exact .inr ⟨by simp [Region.wanted, hg, hy], hF rfl⟩
      · exact .inr ⟨by simp [Region.wanted, hg, hy], hT rfl⟩
      · exact .inl ⟨by simp [Region.wanted, hg, hy], hT rfl⟩
    · have h9 : ¬ t < a.tmps.size := by rw [hs.now.size.1]; exact htl
      unfold Array.getD at hv; rw [dif_neg h9] at hv; cases hv
theorem XPr_sound {ops : Array Oper} {last : Nat} {hS : List (Nat × Blk)} {ρ0 : Env} {nx0 : Nat} (hn0 : C.n0 ≤ nx0)
    (hinv : ∀ ρ' : Env, (∀ n, n < nx0 → ρ' n = ρ0 n) → ∀ w', HpOk C ρ0 w' hS ↔ HpOk C ρ' w' hS) {j : Nat} {R : St → Prop} {p : List PS} {st : St} {ρ : Env} {a : Act} {w : World} {Q : Exit → Act → World → Prop} {N : Act → World → Prop}
    (h : wO ops[j]? (XPr P C ops j last hS R st)) (hs : Sat C st ρ a w) (hn : nx0 ≤ st.nx) (hρ : ∀ n, n < nx0 → ρ n = ρ0 n) (hS1 : HpOk C ρ0 w hS) (hlast : j = last → p ≠ [] → False)
    (hN : ∀ (st' : St) (ρ' : Env) (a' : Act) (w' : World), R st' → Sat C st' ρ' a' w' → nx0 ≤ st'.nx → (∀ n, n < nx0 → ρ' n = ρ0 n) → (p ≠ [] → HpOk C ρ0 w' hS) → N a' w') :
    wpOp P ops Q j (fun a' w' => (j ≠ last → HpOk C ρ0 w' hS) ∧ N a' w') a w := by
  obtain ⟨o, ho, hd, h1⟩ := wO_out h
  unfold wpOp
  simp only [ho]
  rcases gd_out hs h1 with ⟨hw, h2⟩ | ⟨hw, h2⟩
  · rw [if_pos hw]
    refine .inl (Oper.wp_to (XOp_sound hd h2 ρ a w hs) fun a' w' hk => ?_)
    obtain ⟨st', ρ', ⟨hsame, hk⟩, hs', hnx, hag⟩ := hk
    have hρ' : ∀ n, n < nx0 → ρ' n = ρ0 n := fun n hn' => by rw [hag n (by omega), hρ n hn']
    by_cases hjl : j = last
    · exact ⟨fun e => absurd hjl e, hN st' ρ' a' w' hk hs' (by omega) hρ' (fun hne => (hlast hjl hne).elim)⟩
    · rw [if_neg hjl] at hsame
      have hS1 : HpOk C ρ0 w' hS := (hinv ρ' hρ' w').2 fun n b hm => hs'.now.hp n b (sameAll_mem hsame n b hm)
      exact ⟨fun _ => hS1, hN st' ρ' a' w' hk hs' (by omega) hρ' (fun _ => hS1)⟩
  · rw [if_neg (by rw [hw]; simp)]
    exact ⟨fun _ => hS1, hN _ ρ _ w h2 (hs.put hd fun _ _ _ => rfl) (by cases o.dst <;> simpa [St.put] using hn) hρ (fun _ => hS1)⟩
theorem XP_sound {ops : Array Oper} {last : Nat} {hS : List (Nat × Blk)} {ρ0 : Env} {nx0 : Nat} (hn0 : C.n0 ≤ nx0) (hsel : Region.noSelect ops = true)
    (hinv : ∀ ρ' : Env, (∀ n, n < nx0 → ρ' n = ρ0 n) → ∀ w', HpOk C ρ0 w' hS ↔ HpOk C ρ' w' hS) :
    ∀ (p : List PS) (K : St → Prop) (st : St) (ρ : Env) (a : Act) (w : World) (l : Array Bool), XP P C ops last hS p K st → Clo ops l → planOk ops last p l = true → Sat C st ρ a w → nx0 ≤ st.nx → (∀ n, n < nx0 → ρ n = ρ0 n) → (p ≠ [] → HpOk C ρ0 w hS) →
      wpL P ops (nK C ρ0 K) (fun w => HpOk C ρ0 w hS) last (plen p) l a w
  | [], K, st, ρ, a, w, l, h, hcl, hp, hs, hn, hρ, hS0 => ⟨by simpa [planOk] using hp, ⟨st, ρ, h, hs, fun k hk => hρ k (Nat.lt_of_lt_of_le hk hn0)⟩⟩
  | .t i :: p, K, st, ρ, a, w, l, h, hcl, hp, hs, hn, hρ, hS0 => by
    obtain ⟨o, ho, hd, hv, h1⟩ := wO_out h
    simp only [planOk, planOk1, Bool.and_eq_true] at hp
    obtain ⟨⟨⟨hwt, hf⟩, hr⟩, hp⟩ := hp
    have hr' : i ∈ Region.ready .any ops l := by simpa using hr
    have hS0 : HpOk C ρ0 w hS := hS0 (by simp)
    rcases gd_out hs h1 with ⟨hw, h2⟩ | ⟨hw, h2⟩
    · obtain ⟨x, hx, hok, hval⟩ := XV_sound (st := ⟨st.fr, hS, st.nx⟩) (F := kput (XP P C ops last hS p K) st o.dst) hv h2
      refine wpL_first ho (Region.noSelect_spec hsel) (fun c a w h => h) hwt (v := x.den ρ) _ _ _ _ hcl (Region.free_spec ho hf) hr' (Or.inl ⟨hw, fun w' hw' => ?_⟩) hS0 ?_
      · exact hval C ρ a w' hs.fr' ((hinv ρ hρ w').1 hw')
      · refine XP_sound hn0 hsel hinv p K _ ρ _ w _ hx (hcl.set hr') hp (hs.put hd fun _ ρ' hρ' => ?_) ?_ hρ (fun _ => hS0)
        · have e1 := hval C ρ a w hs.fr' ((hinv ρ hρ w).1 hS0)
          have e2 := hval C ρ' a w (hs ρ' hρ').fr ((hinv ρ' (fun n hn' => by rw [hρ' n (by omega), hρ n hn']) w).1 hS0)
          rw [e1] at e2
          injection e2 with e2; injection e2
        · cases o.dst <;> simpa [St.put] using hn
    · refine wpL_first ho (Region.noSelect_spec hsel) (fun c a w h => h) hwt (v := undef) _ _ _ _ hcl (Region.free_spec ho hf) hr' (Or.inr ⟨hw, rfl⟩) hS0 ?_
      exact XP_sound hn0 hsel hinv p K _ ρ _ w _ h2 (hcl.set hr') hp (hs.put hd fun _ _ _ => rfl) (by cases o.dst <;> simpa [St.put] using hn) hρ (fun _ => hS0)
  | .r i :: p, K, st, ρ, a, w, l, h, hcl, hp, hs, hn, hρ, hS0 => by
    simp only [planOk, planOk1, Bool.and_eq_true, beq_iff_eq] at hp
    obtain ⟨⟨hlp, hr⟩, hp⟩ := hp
    have hS1 : HpOk C ρ0 w hS := hS0 (by simp)
    refine ⟨fun e => (by rw [hr] at e; cases e), fun j hj => ?_⟩
    have hcl' := hcl.set hj
    rw [hr] at hj
    simp only [List.mem_singleton] at hj
    subst hj
    refine XPr_sound hn0 hinv h hs hn hρ hS1 (fun hjl hne => by simp [hjl] at hlp; exact hne hlp) fun st' ρ' a' w' hk hs' hn' hρ' hS' => ?_
    exact XP_sound hn0 hsel hinv p K st' ρ' a' w' _ hk hcl' hp hs' hn' hρ' hS'
  | .c i p j q :: r, K, st, ρ, a, w, l, h, hcl, hp, hs, hn, hρ, hS0 => by
    simp only [planOk, planOk1, Bool.and_eq_true, beq_iff_eq, bne_iff_ne] at hp
    obtain ⟨⟨_, hil, hjl⟩, hr, hlen, hp, hq⟩ := hp
    have hlen := Nat.eq_of_beq_eq_true hlen
    have hS1 : HpOk C ρ0 w hS := hS0 (by simp)
    refine ⟨fun e => (by rw [hr] at e; cases e), fun k hk => ?_⟩
    have hcl' := hcl.set hk
    rw [hr] at hk
    simp only [List.mem_cons, List.not_mem_nil, or_false] at hk
    rcases hk with rfl | rfl
    · refine XPr_sound (p := p) hn0 hinv h.1 hs hn hρ hS1 (fun hl _ => hil hl) fun st' ρ' a' w' hk hs' hn' hρ' hS' => ?_
      exact XP_sound hn0 hsel hinv p K st' ρ' a' w' _ hk hcl' hp hs' hn' hρ' hS'
    · refine XPr_sound (p := q) hn0 hinv h.2 hs hn hρ hS1 (fun hl _ => hjl hl) fun st' ρ' a' w' hk hs' hn' hρ' hS' => ?_
      have := XP_sound hn0 hsel hinv q K st' ρ' a' w' _ hk hcl' hq hs' hn' hρ' hS'
      rw [← hlen] at this; exact this
  | .d i p j q k s :: r, K, st, ρ, a, w, l, h, hcl, hp, hs, hn, hρ, hS0 => by
    simp only [planOk, planOk1, Bool.and_eq_true, beq_iff_eq, bne_iff_ne] at hp
    obtain ⟨⟨_, hil, hjl, hkl⟩, hr, hlen, hlen2, hp, hq, hs2⟩ := hp
    have hlen := Nat.eq_of_beq_eq_true hlen
    have hlen2 := Nat.eq_of_beq_eq_true hlen2
    have hS1 : HpOk C ρ0 w hS := hS0 (by simp)
    refine ⟨fun e => (by rw [hr] at e; cases e), fun u hu => ?_⟩
    have hcl' := hcl.set hu
    rw [hr] at hu
    simp only [List.mem_cons, List.not_mem_nil, or_false] at hu
    rcases hu with rfl | rfl | rfl
    · refine XPr_sound (p := p) hn0 hinv h.1 hs hn hρ hS1 (fun hl _ => hil hl) fun st' ρ' a' w' hk hs' hn' hρ' hS' => ?_
      exact XP_sound hn0 hsel hinv p K st' ρ' a' w' _ hk hcl' hp hs' hn' hρ' hS'
    · refine XPr_sound (p := q) hn0 hinv h.2.1 hs hn hρ hS1 (fun hl _ => hjl hl) fun st' ρ' a' w' hk hs' hn' hρ' hS' => ?_
      have := XP_sound hn0 hsel hinv q K st' ρ' a' w' _ hk hcl' hq hs' hn' hρ' hS'
      rw [← hlen] at this; exact this
    · refine XPr_sound (p := s) hn0 hinv h.2.2 hs hn hρ hS1 (fun hl _ => hkl hl) fun st' ρ' a' w' hk hs' hn' hρ' hS' => ?_
      have := XP_sound hn0 hsel hinv s K st' ρ' a' w' _ hk hcl' hs2 hs' hn' hρ' hS'
      rw [← hlen2] at this; exact this
termination_by p => SizeOf.sizeOf p
theorem sdraw {id : Nat} {ops : Array Oper} {Q : Exit → St → Prop} (p : List PS) (last : Nat) (hS : List (Nat × Blk)) (hm : P.follows .mixedOrders = true) (hp : planOk0 ops last p = true) (hsub : sameAll hS st.hp)
    (h : XP P C ops last hS p (Q .normal) st) : SCode P C (.region id ops true) Q st := fun ρ a w hs => by
  simp only [planOk0, Bool.and_eq_true] at hp
  obtain ⟨⟨hsel, hlen⟩, hp⟩ := hp
  have hlen := Nat.eq_of_beq_eq_true hlen
  have hp := planOk_of p 0 _ (Rep.zero ops.size) (by simp) hp
  have hs' := hs.drew
  have hinv : ∀ ρ' : Env, (∀ n, n < st.nx → ρ' n = ρ n) → ∀ w', HpOk C ρ w' hS ↔ HpOk C ρ' w' hS := fun ρ' hρ' w' =>
    ⟨fun hh n b hm => holds_inv hs.now (hs ρ' hρ') hρ' (sameAll_mem hsub n b hm) (hh n b hm), fun hh n b hm => holds_inv (hs ρ' hρ') hs.now (fun n hn => (hρ' n hn).symm) (sameAll_mem hsub n b hm) (hh n b hm)⟩
  refine Code.wp_mono nK_QQ (wp_region_any hm (wpAny_of_wpL (S := fun w => HpOk C ρ w hS) (last := last) _ _ _ _ ?_))
  rw [← hlen] at hp ⊢
  exact XP_sound hs.now.n0le hsel hinv p (Q .normal) st ρ a _ _ h (Clo.none _) hp hs' (Nat.le_refl _) (fun _ _ => rfl) (fun _ n b hm => hs'.now.hp n b (sameAll_mem hsub n b hm))

end
end Go.Sx
