/-
  A chain of versions: what adding and pruning keep. Conditions: none.
-/
import Derived.Test.YtbdffcgbleiiaaaChain5S
namespace Go.Proofs.Ytbdffcgbleiiaaa.CS
open Go.RowKit Go.Sx
set_option linter.unusedVariables false
set_option linter.unusedSimpArgs false

theorem pos_lt {s : Stp} : ∀ {l : List Ver} {x : Ver}, x ∈ l.take (pos l s) → x.st.ord s < 0
  | [], x, h => by simp [pos] at h
  | y :: l, x, h => by
    by_cases hy : y.st.ord s < 0
    · have e : pos (y :: l) s = pos l s + 1 := by simp [pos, List.takeWhile, hy]
      rw [e, List.take_succ_cons] at h
      rcases List.mem_cons.1 h with h | h
      · rw [h]; exact hy
      · exact pos_lt h
    · have e : pos (y :: l) s = 0 := by simp [pos, List.takeWhile, hy]
      rw [e] at h; simp at h
theorem pos_ge {s : Stp} : ∀ {l : List Ver}, Srt l → ∀ {x : Ver}, x ∈ l.drop (pos l s) → 0 ≤ x.st.ord s
  | [], _, x, h => by simp at h
  | y :: l, hs, x, h => by
    obtain ⟨h1, h2⟩ := List.pairwise_cons.1 hs
    by_cases hy : y.st.ord s < 0
    · have e : pos (y :: l) s = pos l s + 1 := by simp [pos, List.takeWhile, hy]
      rw [e, List.drop_succ_cons] at h
      exact pos_ge h2 h
    · have e : pos (y :: l) s = 0 := by simp [pos, List.takeWhile, hy]
      rw [e, List.drop_zero] at h
      rcases List.mem_cons.1 h with h | h
      · rw [h]; omega
      · have k := h1 x h
        rcases Int.lt_or_le (x.st.ord s) 0 with h3 | h3
        · exact absurd (ord_trans k h3) hy
        · exact h3
theorem mem_ins {l : List Ver} {s : Stp} {x : ByteArray} {v : Ver} : v ∈ ins l s x ↔ v ∈ l ∨ (insB l s = true ∧ v = ⟨s, x⟩) := by
  unfold ins
  split
  · rename_i h
    rw [List.mem_append, List.mem_cons]
    constructor
    · rintro (h1 | h1 | h1)
      · exact .inl (List.mem_of_mem_take h1)
      · exact .inr ⟨h, h1⟩
      · exact .inl (List.mem_of_mem_drop h1)
    · rintro (h1 | h1)
      · rw [← List.take_append_drop (pos l s) l, List.mem_append] at h1
        rcases h1 with h1 | h1
        · exact .inl h1
        · exact .inr (.inr h1)
      · exact .inr (.inl h1.2)
  · rename_i h
    simp [h]
theorem has_iff {l : List Ver} {s : Stp} : has l s = true ↔ ∃ v, v ∈ l ∧ v.st = s := by
  unfold has; simp [List.any_eq_true]
theorem srt_ins {l : List Ver} (hs : Srt l) (s : Stp) (x : ByteArray) : Srt (ins l s x) := by
  unfold ins
  split
  · rename_i h
    have hn : has l s = false := by
      cases hh : has l s with
      | false => rfl
      | true => unfold insB at h; rw [hh] at h; cases h
    have hne : ∀ v, v ∈ l → v.st ≠ s := fun v hv he => by
      have := has_iff.2 ⟨v, hv, he⟩
      rw [hn] at this; cases this
    have hs' : Srt (l.take (pos l s) ++ l.drop (pos l s)) := by rw [List.take_append_drop]; exact hs
    obtain ⟨h1, h2, h3⟩ := List.pairwise_append.1 hs'
    have hgt : ∀ v, v ∈ l.drop (pos l s) → s.ord v.st < 0 := fun v hv => by
      have k1 := pos_ge hs hv
      have k2 := ord_neg v.st s
      have k3 : v.st.ord s ≠ 0 := fun e => hne v (List.mem_of_mem_drop hv) (ord_eq e)
      omega
    refine List.pairwise_append.2 ⟨h1, List.pairwise_cons.2 ⟨hgt, h2⟩, fun a ha b hb => ?_⟩
    rcases List.mem_cons.1 hb with rfl | hb
    · exact pos_lt ha
    · exact h3 a ha b hb
  · exact hs
theorem Srt.uniq {l : List Ver} (hs : Srt l) {a b : Ver} (ha : a ∈ l) (hb : b ∈ l) (h : a.st = b.st) : a = b := by
  obtain ⟨i, hi, rfl⟩ := List.getElem_of_mem ha
  obtain ⟨j, hj, rfl⟩ := List.getElem_of_mem hb
  have gi := List.getElem?_eq_getElem hi
  have gj := List.getElem?_eq_getElem hj
  rcases Nat.lt_trichotomy i j with hij | hij | hij
  · have := hs.get hij gi gj
    rw [h, ord_self] at this; omega
  · subst hij; rfl
  · have := hs.get hij gj gi
    rw [h, ord_self] at this; omega
theorem Srt.nil : Srt [] := List.Pairwise.nil
theorem Srt.filter {l : List Ver} (hs : Srt l) (p : Ver → Bool) : Srt (l.filter p) := List.Pairwise.filter p hs
theorem rdL_eq (l : List Ver) (p : Ver → Bool) : rdL l p = (l.filter p).getLast? := by
  have key : ∀ n, n ≤ l.length → lastF (fun j => l.getD j ver0) p n = ((l.take n).filter p).getLast? := fun n => by
    induction n with
    | zero => intro _; simp [lastF]
    | succ n ih =>
      intro hn
      have hg : l[n]? = some l[n] := List.getElem?_eq_getElem (by omega)
      have hd : l.getD n ver0 = l[n] := by simp [List.getD_eq_getElem?_getD, hg]
      rw [lastF, ih (by omega), List.take_add_one, hg, Option.toList_some, List.filter_append, hd]
      cases hp : p l[n]
      · rw [if_neg (by simp)]; simp [hp]
      · rw [if_pos rfl]; simp [hp]
  unfold rdL
  rw [key _ (Nat.le_refl _), List.take_length]
theorem getLast_filter {l : List Ver} {q : Ver → Bool} {y : Ver} (h : l.getLast? = some y) (hq : q y = true) : (l.filter q).getLast? = some y := by
  obtain ⟨l', rfl⟩ := List.getLast?_eq_some_iff.1 h
  rw [List.filter_append]; simp [hq]
theorem Srt.le_last {l : List Ver} (hs : Srt l) {y : Ver} (h : l.getLast? = some y) {x : Ver} (hx : x ∈ l) : x.st.ord y.st ≤ 0 := by
  obtain ⟨l', rfl⟩ := List.getLast?_eq_some_iff.1 h
  obtain ⟨_, _, h3⟩ := List.pairwise_append.1 hs
  rcases List.mem_append.1 hx with hx | hx
  · have := h3 x hx y (by simp); omega
  · have : x = y := by simpa using hx
    rw [this, ord_self]; exact Int.le_refl _
theorem srt_ext : ∀ {l m : List Ver}, Srt l → Srt m → (∀ v, v ∈ l ↔ v ∈ m) → l = m
  | [], [], _, _, _ => rfl
  | [], y :: m, _, _, h => by have := (h y).2 (by simp); simp at this
  | x :: l, [], _, _, h => by have := (h x).1 (by simp); simp at this
  | x :: l, y :: m, hl, hm, h => by
    obtain ⟨a1, a2⟩ := List.pairwise_cons.1 hl
    obtain ⟨b1, b2⟩ := List.pairwise_cons.1 hm
    have hxy : x = y := by
      have h1 := (h x).1 (by simp)
      have h2 := (h y).2 (by simp)
      rcases List.mem_cons.1 h1 with h1 | h1
      · exact h1
      rcases List.mem_cons.1 h2 with h2 | h2
      · exact h2.symm
      have k1 := b1 x h1
      have k2 := a1 y h2
      have := ord_neg x.st y.st
      omega
    subst hxy
    rw [srt_ext a2 b2 fun v => ?_]
    constructor
    · intro hv
      rcases List.mem_cons.1 ((h v).1 (List.mem_cons_of_mem _ hv)) with he | he
      · subst he
        have := a1 v hv; rw [ord_self] at this; omega
      · exact he
    · intro hv
      rcases List.mem_cons.1 ((h v).2 (List.mem_cons_of_mem _ hv)) with he | he
      · subst he
        have := b1 v hv; rw [ord_self] at this; omega
      · exact he
theorem leq_trans {x y z : V4} (h1 : x.leq y = true) (h2 : y.leq z = true) : x.leq z = true := by
  simp only [V4.leq, Bool.and_eq_true, decide_eq_true_eq] at *
  omega
/-- What is pruned is read no more, at the horizon or beyond it. -/
theorem rd_prn {l : List Ver} (hs : Srt l) {h f : V4} (hhf : h.leq f = true) : rdL (prn l h) (fun x => x.st.seen f) = rdL l fun x => x.st.seen f := by
  have e : (prn l h).filter (fun x => x.st.seen f) = (l.filter fun x => x.st.seen f).filter fun x => !del l h x := by
    unfold prn; rw [List.filter_filter, List.filter_filter]; congr 1; funext x; exact Bool.and_comm _ _
  rw [rdL_eq, rdL_eq, e]
  cases hy : (l.filter fun x => x.st.seen f).getLast? with
  | none =>
    rw [List.getLast?_eq_none_iff] at hy
    rw [hy]; rfl
  | some y =>
    refine getLast_filter hy ?_
    rw [Bool.not_eq_true']
    cases hd : del l h y with
    | false => rfl
    | true =>
      simp only [del, Bool.and_eq_true, decide_eq_true_eq] at hd
      have hm : y ∈ l.filter fun x => x.st.seen f := List.mem_of_getLast? hy
      have hyl : y ∈ l := (List.mem_filter.1 hm).1
      have hyh : y ∈ l.filter fun x => x.st.seen h := List.mem_filter.2 ⟨hyl, hd.1⟩
      cases hb : (l.filter fun x => x.st.seen h).getLast? with
      | none =>
        rw [List.getLast?_eq_none_iff] at hb
        rw [hb] at hyh; simp at hyh
      | some b =>
        have hbst : bst l h = b := by unfold bst; rw [rdL_eq, hb]; rfl
        rw [hbst] at hd
        have hbm := List.mem_filter.1 (List.mem_of_getLast? hb)
        have k1 := (hs.filter _).le_last hb hyh
        have k2 : b ∈ l.filter fun x => x.st.seen f := List.mem_filter.2 ⟨hbm.1, leq_trans hbm.2 hhf⟩
        have k3 := (hs.filter _).le_last hy k2
        have k4 := ord_neg y.st b.st
        exact absurd (ord_eq (show y.st.ord b.st = 0 by omega)) hd.2
theorem leq_self (x : V4) : x.leq x = true := by simp [V4.leq]
theorem leq_join (x y : V4) : x.leq (x.join y) = true := by
  have k : ∀ a b : Int, decide (a ≤ max a b) = true := fun a b => decide_eq_true (Int.le_max_left a b)
  show (decide (x.a ≤ max x.a y.a) && (decide (x.b ≤ max x.b y.b) && (decide (x.c ≤ max x.c y.c) && decide (x.d ≤ max x.d y.d)))) = true
  rw [k, k, k, k]; rfl
theorem bst_prn {l : List Ver} (hs : Srt l) (h : V4) : bst (prn l h) h = bst l h := by
  unfold bst; rw [rd_prn hs (leq_self h)]
theorem prn_prn {l : List Ver} (hs : Srt l) (h : V4) : prn (prn l h) h = prn l h := by
  have : del (prn l h) h = del l h := by unfold del; rw [bst_prn hs]
  unfold prn at this ⊢
  rw [this, List.filter_filter]; congr 1; funext x; cases del l h x <;> rfl
theorem srt_prn {l : List Ver} (hs : Srt l) (h : V4) : Srt (prn l h) := hs.filter _
theorem prn_le (l : List Ver) (h : V4) : (prn l h).length ≤ l.length := List.length_filter_le _ _
theorem seen_prn {l : List Ver} (hs : Srt l) (h : V4) : ((prn l h).filter fun x => x.st.seen h).length = if rdB l fun x => x.st.seen h then 1 else 0 := by
  have hb := rd_prn hs (leq_self h)
  rw [rdL_eq, rdL_eq] at hb
  unfold rdB; rw [rdL_eq]
  cases hy : (l.filter fun x => x.st.seen h).getLast? with
  | none =>
    rw [hy, List.getLast?_eq_none_iff] at hb
    rw [hb]; rfl
  | some y =>
    rw [hy] at hb
    have hbst : bst l h = y := by unfold bst; rw [rdL_eq, hy]; rfl
    have hone : ∀ v, v ∈ (prn l h).filter (fun x => x.st.seen h) → v.st = y.st := fun v hv => by
      obtain ⟨h1, h2⟩ := List.mem_filter.1 hv
      unfold prn at h1
      have h3 := (List.mem_filter.1 h1).2
      rw [Bool.not_eq_true'] at h3
      unfold del at h3
      rw [h2, hbst, Bool.true_and] at h3
      simpa using h3
    have hs2 := (srt_prn hs h).filter fun x => x.st.seen h
    revert hb hone hs2
    generalize (prn l h).filter (fun x => x.st.seen h) = q
    intro hb hone hs2
    match q, hb, hone, hs2 with
    | [_], _, _, _ => rfl
    | a :: b :: r, hb, hone, hs2 =>
      have k := (List.pairwise_cons.1 hs2).1 b (by simp)
      rw [hone a (by simp), hone b (by simp), ord_self] at k; omega
end Go.Proofs.Ytbdffcgbleiiaaa.CS
