/-
  What waits is not read; applied, it is read from its stamp on, and not below: walked. Conditions: none.
-/
import Derived.Test.YtagjblkfgjcmnaaM13
namespace Go.Proofs.Ytagjblkfgjcmnaa
open Go.RowKit Go.Sx CW
set_option linter.unusedVariables false
set_option linter.unusedSimpArgs false
abbrev vof (st : Stp) (x : Wr) : CW.Ver := ⟨st, x⟩
theorem wf_map {st : Stp} (hst : st.right = true) {ws : List Wr} (hn : (ws.map wkey).Nodup) : WfL (ws.map (vof st)) := by
  refine ⟨?_, fun v hv => ?_⟩
  · rw [List.pairwise_map]
    have := List.pairwise_map.1 hn
    exact this.imp fun h he => h (by simpa [Ver.ky, vof, wkey] using he.1)
  · obtain ⟨x, _, rfl⟩ := List.mem_map.1 hv
    exact hst
theorem fold_whole {st : Stp} (hst : st.right = true) : ∀ (ws pre : List Wr), ((pre ++ ws).map wkey).Nodup → ws.foldl (addV st) (pre.map (vof st)) = (pre ++ ws).map (vof st)
  | [], pre, _ => by simp
  | x :: r, pre, hn => by
    have hn' : (pre.map wkey).Nodup := by rw [List.map_append] at hn; exact (List.nodup_append.1 hn).1
    have h1 : addV st (pre.map (vof st)) x = (pre ++ [x]).map (vof st) := by
      unfold addV
      have : insB (chn (pre.map (vof st)) x.kk) st = true := by
        rw [insB_of (wf_map hst hn'), hst]
        simp only [Bool.true_and, Bool.not_eq_true', List.any_eq_false]
        intro v hv
        obtain ⟨y, hy, rfl⟩ := List.mem_map.1 hv
        rw [List.map_append, List.map_cons, List.nodup_append] at hn
        have := hn.2.2 (wkey y) (List.mem_map.2 ⟨y, hy, rfl⟩) (wkey x) (by simp)
        intro he
        exact this (of_decide_eq_true he).1
      rw [this, if_pos rfl]; simp
    have := fold_whole hst r (pre ++ [x]) (by simpa using hn)
    rw [List.foldl_cons, h1, this]; simp
theorem chn_one {st : Stp} (hst : st.right = true) {x : Wr} {r : List Wr} (hn : ((x :: r).map wkey).Nodup) : chn ((x :: r).map (vof st)) x.kk = [vof st x] := by
  have hf : (((x :: r).map (vof st)).filter fun v => decide (Ver.ky v = x.kk)) = [vof st x] := by
    simp only [List.map_cons, List.filter_cons]
    have h1 : decide (Ver.ky (vof st x) = x.kk) = true := by simp [Ver.ky, Wr.kk, vof]
    rw [if_pos h1]
    congr 1
    rw [List.filter_eq_nil_iff]
    intro v hv he
    obtain ⟨y, hy, rfl⟩ := List.mem_map.1 hv
    simp only [List.map_cons, List.nodup_cons] at hn
    exact hn.1 (by rw [show wkey x = wkey y from (of_decide_eq_true he).symm]; exact List.mem_map.2 ⟨y, hy, rfl⟩)
  unfold chn
  rw [hf]
  have : insB [] st = true := by unfold insB; rw [hst]; rfl
  simp [ins, this, pos]
theorem rd_none (s : ShS) (h : s.l = []) (k : Ky) (a : V4) : s.rdO k a = false := by
  unfold ShS.rdO CW.rdB
  rw [h, rdL_eq]; rfl
theorem wth_below {st : Stp} (hst : st.right = true) : st.seen (st.v.wth st.dc (st.n - 1)) = false := by
  have h : 0 < st.n := by
    unfold Stp.right at hst
    simp only [Bool.and_eq_true, decide_eq_true_eq] at hst
    exact hst.2
  unfold Stp.n V4.at at h
  unfold Stp.seen V4.wth V4.leq Stp.n V4.at
  by_cases h1 : st.dc = 1
  · simp only [h1, if_true] at h ⊢; simp; omega
  by_cases h2 : st.dc = 2
  · simp only [h2] at h ⊢; simp; omega
  by_cases h3 : st.dc = 3
  · simp only [h3] at h ⊢; simp; omega
  by_cases h4 : st.dc = 4
  · simp only [h4] at h ⊢; simp; omega
  · simp [h1, h2, h3, h4] at h
theorem n_bound {st : Stp} (hst : st.right = true) : 1 ≤ st.n ∧ st.n ≤ 1152921504606846976 := by
  unfold Stp.right V4.right V4.leq at hst
  simp only [Bool.and_eq_true, decide_eq_true_eq] at hst
  obtain ⟨⟨h1, h2, h3, h4⟩, h5⟩ := hst
  refine ⟨by omega, ?_⟩
  unfold Stp.n V4.at
  split
  · exact h1
  · split
    · exact h2
    · split
      · exact h3
      · split
        · exact h4
        · omega
theorem leq_refl' (x : V4) : x.leq x = true := by simp [V4.leq]
abbrev w10S (k i : Nat) (st : Stp) (ws : List Wr) : ShS := ⟨k, List.replicate (min i k) (st, ws), [], ⟨0, 0, 0, 0⟩⟩
theorem w10_push {k i : Nat} {st : Stp} {ws : List Wr} (hst : st.right = true) (hr : ∀ x, x ∈ ws → x.right = true) : (w10S k i st ws).pushB st ws = decide ((i : Int) < k) ∧ (w10S k i st ws).push st ws = w10S k (i + 1) st ws := by
  have h1 : (ws.any fun x => !x.right) = false := by
    rw [List.any_eq_false]
    intro x hx; rw [hr x hx]; simp
  have h2 : (w10S k i st ws).pushB st ws = decide ((i : Int) < k) := by
    unfold ShS.pushB
    rw [hst, h1]
    simp only [List.length_replicate, Bool.not_false, Bool.true_and, decide_eq_decide]
    omega
  refine ⟨h2, ?_⟩
  unfold ShS.push
  rw [h2]
  by_cases h : i < k
  · rw [if_pos (by simp; omega)]
    have e1 : min i k = i := by omega
    have e2 : min (i + 1) k = i + 1 := by omega
    simp only [w10S, e1, e2, List.replicate_succ']
  · rw [if_neg (by simp; omega)]
    have e1 : min i k = k := by omega
    have e2 : min (i + 1) k = k := by omega
    simp only [w10S, e1, e2]
theorem rd_one {s : ShS} {k : Ky} {v : CW.Ver} (h : chn s.l k = [v]) (a : V4) : s.rdO k a = v.st.seen a ∧ (v.st.seen a = true → s.rd k a = v) := by
  unfold ShS.rdO ShS.rd CW.rdB CW.rdV
  rw [h, rdL_eq]
  cases hs : v.st.seen a <;> simp [hs]
abbrev w10T (k q : Nat) (st : Stp) (ws : List Wr) : ShS := ⟨k, List.replicate q (st, ws), ws.map (vof st), (⟨0, 0, 0, 0⟩ : V4).wth st.dc (max st.n ((⟨0, 0, 0, 0⟩ : V4).at st.dc))⟩
theorem w10_step {k i q : Nat} {st : Stp} {ws : List Wr} (hst : st.right = true) (hn : (ws.map wkey).Nodup) (hq : min i k = q + 1) : (w10S k i st ws).step = w10T k q st ws := by
  have h := fold_whole hst ws [] (by simpa using hn)
  simp only [List.map_nil, List.nil_append] at h
  unfold ShS.step
  simp only [w10S, hq, List.replicate_succ, w10T, h]
theorem w10_at {st : Stp} (hst : st.right = true) : ((⟨0, 0, 0, 0⟩ : V4).wth st.dc (max st.n ((⟨0, 0, 0, 0⟩ : V4).at st.dc))).at st.dc = st.n := by
  have h := n_bound hst
  have h0 : (⟨0, 0, 0, 0⟩ : V4).at st.dc = 0 := by
    unfold V4.at; simp
  rw [h0, Int.max_eq_left (by omega)]
  have hn := h.1
  unfold Stp.n V4.at at hn
  unfold V4.wth V4.at
  by_cases h1 : st.dc = 1
  · simp [h1]
  by_cases h2 : st.dc = 2
  · simp [h2]
  by_cases h3 : st.dc = 3
  · simp [h3]
  by_cases h4 : st.dc = 4
  · simp [h4]
  · simp [h1, h2, h3, h4] at hn
end Go.Proofs.Ytagjblkfgjcmnaa
