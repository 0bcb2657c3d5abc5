/-
  The document's own writes: which are right; a list of writes turned into it. Conditions: none.
-/
import Derived.Test.YtfokingbglkmjaaRef2
namespace Go.Proofs.Ytfokingbglkmjaa
open Go.RowKit Go.Sx
set_option linter.unusedVariables false
set_option linter.unusedSimpArgs false

theorem ba_nil (s : ByteArray) : s = ⟨#[]⟩ ↔ s.size = 0 := ⟨fun h => by rw [h]; rfl, fun h => ByteArray.ext (Array.eq_empty_of_size_eq_zero h)⟩
set_option maxHeartbeats 1000000 in
set_option maxRecDepth 100000 in
theorem rwright_c (x : Wr) (w : World) : Calls Try.prog 87 #[x.v] w fun e w' => e = .returned (.bool x.right) ∧ Below w.heap.size w w' := by
  obtain ⟨b, k, v, g⟩ := x
  refine calls_pure 41 _ Try.func87 rfl Try.ntmps87 Try.results87 [.agg [.v (.string b), .v (.string k), .v (.string v), .v (.bool g)]] (by simp) (fun _ => rfl) ?_
  obtain ⟨c0, c1, c2, c3, c4, c5, d0, d1, d2, d3, d4, d5⟩ : ∃ c0 c1 c2 c3 c4 c5, decide ((1 : Int) ≤ b.size) = c0 ∧ decide ((b.size : Int) ≤ 16) = c1 ∧ decide ((1 : Int) ≤ k.size) = c2 ∧ decide ((k.size : Int) ≤ 16) = c3 ∧ decide ((v.size : Int) ≤ 32) = c4 ∧ decide (v = ⟨#[]⟩) = c5 := ⟨_, _, _, _, _, _, rfl, rfl, rfl, rfl, rfl, rfl⟩
  have h : Wr.right ⟨b, k, v, g⟩ = (c0 && (c1 && (c2 && (c3 && (c4 && (!g || c5)))))) := by
    have hb : ∀ s : ByteArray, (!decide (s = (⟨#[]⟩ : ByteArray))) = decide ((1 : Int) ≤ s.size) := fun s => by
      rw [← decide_not]; exact decide_eq_decide.2 (by rw [ba_nil]; omega)
    simp only [Wr.right, namedB, hb, d0, d1, d2, d3, d4, d5]
    cases g <;> simp [Bool.and_assoc]
  rw [h]
  cases c0
  · simp only [go_sem, ↓reduceIte, Nat.reduceEqDiff, Nat.reduceLT, Nat.reduceLeDiff, Nat.reduceAdd, Nat.reduceMul, Nat.reduceSub, Nat.reduceDiv, Nat.reduceMod, Int.reduceToNat, Int.reduceLT, Int.reduceLE, Int.reduceAdd, Int.reduceSub, Int.reduceMul, Int.reduceEq, Int.reduceNeg, reduceCtorEq, or_false, false_or, decide_true, decide_false, Int.cast_ofNat_Int, Nat.zero_add, Nat.add_zero, Int.toNat_natCast, Option.isNone_none, Option.isNone_some, Bool.not_true, Bool.not_false, Bool.xor_true, Bool.xor_false, Bool.true_xor, Bool.false_xor, decide_true, decide_false, Bool.and_true, Bool.true_and, Bool.and_false, Bool.false_and, eq_self, ne_eq, not_false_eq_true, not_true_eq_false, true_and, and_true, and_self, d0, d1, d2, d3, d4, d5]
    exact fun ρ a w hs _ => ⟨rfl, hs.grown⟩
  · cases c1
    · simp only [go_sem, ↓reduceIte, Nat.reduceEqDiff, Nat.reduceLT, Nat.reduceLeDiff, Nat.reduceAdd, Nat.reduceMul, Nat.reduceSub, Nat.reduceDiv, Nat.reduceMod, Int.reduceToNat, Int.reduceLT, Int.reduceLE, Int.reduceAdd, Int.reduceSub, Int.reduceMul, Int.reduceEq, Int.reduceNeg, reduceCtorEq, or_false, false_or, decide_true, decide_false, Int.cast_ofNat_Int, Nat.zero_add, Nat.add_zero, Int.toNat_natCast, Option.isNone_none, Option.isNone_some, Bool.not_true, Bool.not_false, Bool.xor_true, Bool.xor_false, Bool.true_xor, Bool.false_xor, decide_true, decide_false, Bool.and_true, Bool.true_and, Bool.and_false, Bool.false_and, eq_self, ne_eq, not_false_eq_true, not_true_eq_false, true_and, and_true, and_self, d0, d1, d2, d3, d4, d5]
      exact fun ρ a w hs _ => ⟨rfl, hs.grown⟩
    · cases c2
      · simp only [go_sem, ↓reduceIte, Nat.reduceEqDiff, Nat.reduceLT, Nat.reduceLeDiff, Nat.reduceAdd, Nat.reduceMul, Nat.reduceSub, Nat.reduceDiv, Nat.reduceMod, Int.reduceToNat, Int.reduceLT, Int.reduceLE, Int.reduceAdd, Int.reduceSub, Int.reduceMul, Int.reduceEq, Int.reduceNeg, reduceCtorEq, or_false, false_or, decide_true, decide_false, Int.cast_ofNat_Int, Nat.zero_add, Nat.add_zero, Int.toNat_natCast, Option.isNone_none, Option.isNone_some, Bool.not_true, Bool.not_false, Bool.xor_true, Bool.xor_false, Bool.true_xor, Bool.false_xor, decide_true, decide_false, Bool.and_true, Bool.true_and, Bool.and_false, Bool.false_and, eq_self, ne_eq, not_false_eq_true, not_true_eq_false, true_and, and_true, and_self, d0, d1, d2, d3, d4, d5]
        exact fun ρ a w hs _ => ⟨rfl, hs.grown⟩
      · cases c3
        · simp only [go_sem, ↓reduceIte, Nat.reduceEqDiff, Nat.reduceLT, Nat.reduceLeDiff, Nat.reduceAdd, Nat.reduceMul, Nat.reduceSub, Nat.reduceDiv, Nat.reduceMod, Int.reduceToNat, Int.reduceLT, Int.reduceLE, Int.reduceAdd, Int.reduceSub, Int.reduceMul, Int.reduceEq, Int.reduceNeg, reduceCtorEq, or_false, false_or, decide_true, decide_false, Int.cast_ofNat_Int, Nat.zero_add, Nat.add_zero, Int.toNat_natCast, Option.isNone_none, Option.isNone_some, Bool.not_true, Bool.not_false, Bool.xor_true, Bool.xor_false, Bool.true_xor, Bool.false_xor, decide_true, decide_false, Bool.and_true, Bool.true_and, Bool.and_false, Bool.false_and, eq_self, ne_eq, not_false_eq_true, not_true_eq_false, true_and, and_true, and_self, d0, d1, d2, d3, d4, d5]
          exact fun ρ a w hs _ => ⟨rfl, hs.grown⟩
        · cases c4
          · simp only [go_sem, ↓reduceIte, Nat.reduceEqDiff, Nat.reduceLT, Nat.reduceLeDiff, Nat.reduceAdd, Nat.reduceMul, Nat.reduceSub, Nat.reduceDiv, Nat.reduceMod, Int.reduceToNat, Int.reduceLT, Int.reduceLE, Int.reduceAdd, Int.reduceSub, Int.reduceMul, Int.reduceEq, Int.reduceNeg, reduceCtorEq, or_false, false_or, decide_true, decide_false, Int.cast_ofNat_Int, Nat.zero_add, Nat.add_zero, Int.toNat_natCast, Option.isNone_none, Option.isNone_some, Bool.not_true, Bool.not_false, Bool.xor_true, Bool.xor_false, Bool.true_xor, Bool.false_xor, decide_true, decide_false, Bool.and_true, Bool.true_and, Bool.and_false, Bool.false_and, eq_self, ne_eq, not_false_eq_true, not_true_eq_false, true_and, and_true, and_self, d0, d1, d2, d3, d4, d5]
            exact fun ρ a w hs _ => ⟨rfl, hs.grown⟩
          · cases g
            · simp only [go_sem, ↓reduceIte, Nat.reduceEqDiff, Nat.reduceLT, Nat.reduceLeDiff, Nat.reduceAdd, Nat.reduceMul, Nat.reduceSub, Nat.reduceDiv, Nat.reduceMod, Int.reduceToNat, Int.reduceLT, Int.reduceLE, Int.reduceAdd, Int.reduceSub, Int.reduceMul, Int.reduceEq, Int.reduceNeg, reduceCtorEq, or_false, false_or, decide_true, decide_false, Int.cast_ofNat_Int, Nat.zero_add, Nat.add_zero, Int.toNat_natCast, Option.isNone_none, Option.isNone_some, Bool.not_true, Bool.not_false, Bool.xor_true, Bool.xor_false, Bool.true_xor, Bool.false_xor, decide_true, decide_false, Bool.and_true, Bool.true_and, Bool.and_false, Bool.false_and, eq_self, ne_eq, not_false_eq_true, not_true_eq_false, true_and, and_true, and_self, d0, d1, d2, d3, d4, d5]
              exact fun ρ a w hs _ => ⟨rfl, hs.grown⟩
            · cases c5
              all_goals
                simp only [go_sem, ↓reduceIte, Nat.reduceEqDiff, Nat.reduceLT, Nat.reduceLeDiff, Nat.reduceAdd, Nat.reduceMul, Nat.reduceSub, Nat.reduceDiv, Nat.reduceMod, Int.reduceToNat, Int.reduceLT, Int.reduceLE, Int.reduceAdd, Int.reduceSub, Int.reduceMul, Int.reduceEq, Int.reduceNeg, reduceCtorEq, or_false, false_or, decide_true, decide_false, Int.cast_ofNat_Int, Nat.zero_add, Nat.add_zero, Int.toNat_natCast, Option.isNone_none, Option.isNone_some, Bool.not_true, Bool.not_false, Bool.xor_true, Bool.xor_false, Bool.true_xor, Bool.false_xor, decide_true, decide_false, Bool.and_true, Bool.true_and, Bool.and_false, Bool.false_and, eq_self, ne_eq, not_false_eq_true, not_true_eq_false, true_and, and_true, and_self, d0, d1, d2, d3, d4, d5]
                exact fun ρ a w hs _ => ⟨rfl, hs.grown⟩

/-- A list of the document's writes, in memory. -/
def RWlAt (s : Option (Nat × Nat)) (ws : List Wr) (w : World) : Prop := match s with
  | none => ws = []
  | some (b, c) => (ws.length ≤ c ∧ 0 < ws.length) ∧ RowsAt w b 56 4 ws.length c fun j => wrow ws j
def rfI (x0 : CV) (m : Nat) (r : Nat → List Value) (i : Nat) (ws : List Wr) (c : Option Nat) : St :=
  ⟨[(4, .c (.v (.int .i64 i))), (3, .c (outF (ws.take i) c)), (0, .c x0)], (match c with | none => [] | some c => [(1, .rows 56 4 i c fun j => (wrow ws j).map .v)]) ++ [(0, .imm 4 m fun i => (r i).map .v)], outN c⟩
theorem hget_hset (m : Nat) (b : Blk) : ∀ (hp : List (Nat × Blk)) (b' : Blk), hget hp m = some b' → hget (hset hp m b) m = some b
  | [], _, h => by simp [hget] at h
  | (q, v) :: y, b', h => by
    rw [hget_cons] at h
    rw [hset_cons]
    by_cases hq : q = m
    · rw [if_pos hq, hget_cons, if_pos hq]
    · rw [if_neg hq, hget_cons, if_neg hq]; rw [if_neg hq] at h; exact hget_hset m b y b' h
theorem hget_hset_ne (m k : Nat) (b : Blk) (hk : k ≠ m) : ∀ (hp : List (Nat × Blk)), hget (hset hp m b) k = hget hp k
  | [] => rfl
  | (q, v) :: y => by
    rw [hset_cons]
    by_cases hq : q = m
    · rw [if_pos hq, hget_cons, hget_cons, if_neg (by omega), if_neg (by omega)]
    · rw [if_neg hq, hget_cons, hget_cons, hget_hset_ne m k b hk y]
theorem ent_rf (n : Nat) {fr : List (Nat × SV)} {hp : List (Nat × Blk)} {nx : Nat} {C : Cx} {m c0 i c : Nat} {r0 : Nat → List Value} {ws : List Wr} {r : Nat → List CV} (hC : C.n0 = 1) (hn : n ≠ 0) (hi : i ≤ ws.length) (f4 : lk fr 4 = .c (.v (.int .i64 i))) (f3 : lk fr 3 = .c (.s n 0 i c)) (f0 : lk fr 0 = .c (.s 0 0 m c0))
    (hg : hget hp n = some (.rows 56 4 i c r)) (hr : ∀ j, j < i → (wrow ws j).map .v = r j) (hm : hget hp 0 = some (.imm 4 m fun i => (r0 i).map .v)) : Ent C ⟨fr, hp, nx⟩ (rfI (.s 0 0 m c0) m r0 i ws (some c)) := by
  have ht : (ws.take i).length = i := by rw [List.length_take]; omega
  refine Ent.trans (ent_rows n hg hr) ?_
  simp only [rfI, outF, outN, ht, List.cons_append, List.nil_append]
  refine ent_of (fun k => if k = 1 then n else k) ⟨⟨trivial, ?_⟩, ⟨?_, ?_⟩, ⟨?_, ?_⟩, trivial⟩ ⟨⟨?_, ?_, ?_⟩, ⟨?_, ?_, ?_⟩, trivial⟩ ?_ ?_ fun k hk => ?_
  · rw [f4]; rfl
  · show 1 < 2; omega
  · rw [f3]; rfl
  · show 0 < 2; omega
  · rw [f0]; rfl
  · show 1 < 2; omega
  · intro j _; exact blL_v _ _
  · show hget _ n = _
    rw [hget_hset n _ hp _ hg]
    simp [Blk.rn, CV.rnL_eq, Function.comp_def, CV.rn]
  · show 0 < 2; omega
  · intro j _; exact blL_v _ _
  · show hget _ 0 = _
    rw [hget_hset_ne n 0 _ (by omega), hm]
    simp [Blk.rn, CV.rnL_eq, Function.comp_def, CV.rn]
  · simp; omega
  · rw [hC]; omega
  · rw [hC] at hk
    show (if k = 1 then n else k) = k
    rw [if_neg (by omega)]
set_option maxRecDepth 100000 in
theorem rfw_c (w : World) {b0 o0 : Nat} {r0 : Nat → List Value} {x0 : CV} {v0 : Value} (ws : List Wr) (i0 : ImmAt w b0 o0 4 ws.length r0) (l0 : LArg 0 ws.length x0)
    (e0 : ∀ ρ : Env, ρ 0 = ⟨b0, o0, 4⟩ → x0.den ρ = v0) (f0 : ∀ i, i < ws.length → r0 i = wrow ws i) (hl : ws.length ≤ 100) :
    Calls Try.prog 27 #[v0] w fun e w' => ∃ s, e = .returned (slv s ws.length) ∧ RWlAt s ws w' ∧ Below w.heap.size w w' ∧ ∀ b c, s = some (b, c) → w.heap.size ≤ b := by
  refine calls_imm [⟨b0, o0, 4, ws.length, r0⟩] (by simp; exact i0) 36 _ Try.func27 rfl Try.ntmps27 Try.results27 [.c x0] (by simp) (fun ρ h => by simp [SV.denL, SV.den, CV.den, e0 ρ (h 0 (by simp))]) ?_
  have n0 := l0.len
  simp only [immL, List.length_cons, List.length_nil, Nat.zero_add, Nat.reduceAdd]
  simp only [go_sem, ↓reduceIte, Nat.reduceEqDiff, Nat.reduceLT, Nat.reduceLeDiff, Nat.reduceAdd, Nat.reduceMul, Nat.reduceSub, Nat.reduceDiv, Nat.reduceMod, Int.reduceToNat, Int.reduceLT, Int.reduceLE, Int.reduceAdd, Int.reduceSub, Int.reduceMul, Int.reduceEq, Int.reduceNeg, reduceCtorEq, or_false, false_or, decide_true, decide_false, Int.cast_ofNat_Int, Nat.zero_add, Nat.add_zero, Int.toNat_natCast, Option.isNone_none, Option.isNone_some, Bool.not_true, Bool.not_false, Bool.xor_true, Bool.xor_false, Bool.true_xor, Bool.false_xor, decide_true, decide_false, Bool.and_true, Bool.true_and, Bool.and_false, Bool.false_and, eq_self, ne_eq, not_false_eq_true, not_true_eq_false, true_and, and_true, and_self]
  refine sloop (fun p : Nat × Option Nat => rfI x0 ws.length r0 p.1 ws p.2) (fun p => p.1 ≤ ws.length ∧ match p.2 with | none => p.1 = 0 | some c => p.1 ≤ c ∧ 0 < p.1) (fun p => ws.length - p.1) (0, none) ⟨by simp, rfl⟩ (ent_drop ⟨rfl, rfl, rfl, trivial⟩ ⟨rfl, trivial⟩ (by simp [outN])) (fun p hp => ?_)
  obtain ⟨i, c⟩ := p
  obtain ⟨hi, hok⟩ := hp
  have hi : i ≤ ws.length := hi
  show X _ _ _ _ (rfI x0 ws.length r0 i ws c)
  by_cases h : i < ws.length
  · have d0 : decide ((i : Int) < ws.length) = true := by simp; omega
    have d3 : (0 : Int) ≤ i ∧ (i : Int) < ws.length := by omega
    have w1 : IntKind.i64.wrap ((i : Int) + 1) = ((i + 1 : Nat) : Int) := wrap_i64 _ (by omega) (by omega)
    obtain ⟨cp, rfl⟩ := l0.pos (by omega)
    obtain ⟨W, hW⟩ : ∃ W, ws[i]? = some W := ⟨_, List.getElem?_eq_getElem h⟩
    have hrow := wrow_eq hW
    rw [← f0 i h] at hrow
    cases c with
    | none =>
      have h0 : i = 0 := hok
      subst h0
      simp only [rfI, outF, outN, List.nil_append, List.take_zero]
      have d00 : decide ((0 : Int) < ws.length) = true := by simp; omega
      simp only [go_sem, ↓reduceIte, Nat.reduceEqDiff, Nat.reduceLT, Nat.reduceLeDiff, Nat.reduceAdd, Nat.reduceMul, Nat.reduceSub, Nat.reduceDiv, Nat.reduceMod, Int.reduceToNat, Int.reduceLT, Int.reduceLE, Int.reduceAdd, Int.reduceSub, Int.reduceMul, Int.reduceEq, Int.reduceNeg, reduceCtorEq, or_false, false_or, decide_true, decide_false, Int.cast_ofNat_Int, Nat.zero_add, Nat.add_zero, Int.toNat_natCast, Option.isNone_none, Option.isNone_some, Bool.not_true, Bool.not_false, Bool.xor_true, Bool.xor_false, Bool.true_xor, Bool.false_xor, decide_true, decide_false, Bool.and_true, Bool.true_and, Bool.and_false, Bool.false_and, eq_self, ne_eq, not_false_eq_true, not_true_eq_false, true_and, and_true, and_self, d00, n0]
      refine sdraw [.t 0, .t 1, .t 2, .t 3, .t 4, .t 5, .t 6, .t 7, .t 8, .t 9, .t 10, .t 11, .t 12, .t 13, .t 14, .t 15, .t 16, .t 17, .t 18, .t 19, .t 20, .t 21, .r 22, .r 23, .t 24] 25 [(0, .imm 4 ws.length fun i => (r0 i).map .v)] rfl (by kernel_rfl) ⟨rfl, trivial⟩ ?_
      have d03 : (0 : Int) < ws.length := by omega
      simp only [go_sem, ↓reduceIte, Nat.reduceEqDiff, Nat.reduceLT, Nat.reduceLeDiff, Nat.reduceAdd, Nat.reduceMul, Nat.reduceSub, Nat.reduceDiv, Nat.reduceMod, Int.reduceToNat, Int.reduceLT, Int.reduceLE, Int.reduceAdd, Int.reduceSub, Int.reduceMul, Int.reduceEq, Int.reduceNeg, reduceCtorEq, or_false, false_or, decide_true, decide_false, Int.cast_ofNat_Int, Nat.zero_add, Nat.add_zero, Int.toNat_natCast, Option.isNone_none, Option.isNone_some, Bool.not_true, Bool.not_false, Bool.xor_true, Bool.xor_false, Bool.true_xor, Bool.false_xor, decide_true, decide_false, Bool.and_true, Bool.true_and, Bool.and_false, Bool.false_and, eq_self, ne_eq, not_false_eq_true, not_true_eq_false, true_and, and_true, and_self, d3, d03, hrow, h]
      refine sappend_nil rfl rfl tkind33 tsz56 tby56 tz56 rfl ⟨⟨rfl, by decide, by decide⟩, by decide, by decide, by decide⟩ ?_
      refine ⟨by show (34 : Nat) < 36; omega, fun c' hc' => ?_⟩
      simp only [go_sem, ↓reduceIte, Nat.reduceEqDiff, Nat.reduceLT, Nat.reduceLeDiff, Nat.reduceAdd, Nat.reduceMul, Nat.reduceSub, Nat.reduceDiv, Nat.reduceMod, Int.reduceToNat, Int.reduceLT, Int.reduceLE, Int.reduceAdd, Int.reduceSub, Int.reduceMul, Int.reduceEq, Int.reduceNeg, reduceCtorEq, or_false, false_or, decide_true, decide_false, Int.cast_ofNat_Int, Nat.zero_add, Nat.add_zero, Int.toNat_natCast, Option.isNone_none, Option.isNone_some, Bool.not_true, Bool.not_false, Bool.xor_true, Bool.xor_false, Bool.true_xor, Bool.false_xor, decide_true, decide_false, Bool.and_true, Bool.true_and, Bool.and_false, Bool.false_and, eq_self, ne_eq, not_false_eq_true, not_true_eq_false, true_and, and_true, and_self, w1]
      refine ⟨(0 + 1, some c'), ⟨by show 0 + 1 ≤ ws.length; omega, by show 0 + 1 ≤ c' ∧ 0 < 0 + 1; omega⟩, by show ws.length - (0 + 1) < ws.length - 0; omega, ?_⟩
      show Ent _ _ (rfI _ _ _ (0 + 1) ws (some c'))
      refine ent_rf 2 rfl (by omega) (by omega) rfl rfl rfl rfl (fun j hj => ?_) rfl
      have : j = 0 := by omega
      subst this
      rw [wrow_eq hW]; rfl
    | some c =>
      obtain ⟨hc1, hc2⟩ : i ≤ c ∧ 0 < i := hok
      have ht : (ws.take i).length = i := by rw [List.length_take]; omega
      simp only [rfI, outF, outN, ht, List.cons_append, List.nil_append]
      simp only [go_sem, ↓reduceIte, Nat.reduceEqDiff, Nat.reduceLT, Nat.reduceLeDiff, Nat.reduceAdd, Nat.reduceMul, Nat.reduceSub, Nat.reduceDiv, Nat.reduceMod, Int.reduceToNat, Int.reduceLT, Int.reduceLE, Int.reduceAdd, Int.reduceSub, Int.reduceMul, Int.reduceEq, Int.reduceNeg, reduceCtorEq, or_false, false_or, decide_true, decide_false, Int.cast_ofNat_Int, Nat.zero_add, Nat.add_zero, Int.toNat_natCast, Option.isNone_none, Option.isNone_some, Bool.not_true, Bool.not_false, Bool.xor_true, Bool.xor_false, Bool.true_xor, Bool.false_xor, decide_true, decide_false, Bool.and_true, Bool.true_and, Bool.and_false, Bool.false_and, eq_self, ne_eq, not_false_eq_true, not_true_eq_false, true_and, and_true, and_self, d0, n0]
      refine sdraw [.t 0, .t 1, .t 2, .t 3, .t 4, .t 5, .t 6, .t 7, .t 8, .t 9, .t 10, .t 11, .t 12, .t 13, .t 14, .t 15, .t 16, .t 17, .t 18, .t 19, .t 20, .t 21, .r 22, .r 23, .t 24] 25 [(0, .imm 4 ws.length fun i => (r0 i).map .v)] rfl (by kernel_rfl) ⟨rfl, trivial⟩ ?_
      simp only [go_sem, ↓reduceIte, Nat.reduceEqDiff, Nat.reduceLT, Nat.reduceLeDiff, Nat.reduceAdd, Nat.reduceMul, Nat.reduceSub, Nat.reduceDiv, Nat.reduceMod, Int.reduceToNat, Int.reduceLT, Int.reduceLE, Int.reduceAdd, Int.reduceSub, Int.reduceMul, Int.reduceEq, Int.reduceNeg, reduceCtorEq, or_false, false_or, decide_true, decide_false, Int.cast_ofNat_Int, Nat.zero_add, Nat.add_zero, Int.toNat_natCast, Option.isNone_none, Option.isNone_some, Bool.not_true, Bool.not_false, Bool.xor_true, Bool.xor_false, Bool.true_xor, Bool.false_xor, decide_true, decide_false, Bool.and_true, Bool.true_and, Bool.and_false, Bool.false_and, eq_self, ne_eq, not_false_eq_true, not_true_eq_false, true_and, and_true, and_self, d3, hrow, h]
      refine sappend rfl rfl tkind33 tsz56 tby56 tz56 rfl rfl ⟨⟨rfl, by decide, by decide, Nat.le_refl _⟩, by decide, by omega, by omega⟩ (fun q hq => by
        have : q = 0 := by omega
        subst this; rfl) ⟨by show (34 : Nat) < 36; omega, fun c' hc' => ?_⟩
      simp only [go_sem, ↓reduceIte, Nat.reduceEqDiff, Nat.reduceLT, Nat.reduceLeDiff, Nat.reduceAdd, Nat.reduceMul, Nat.reduceSub, Nat.reduceDiv, Nat.reduceMod, Int.reduceToNat, Int.reduceLT, Int.reduceLE, Int.reduceAdd, Int.reduceSub, Int.reduceMul, Int.reduceEq, Int.reduceNeg, reduceCtorEq, or_false, false_or, decide_true, decide_false, Int.cast_ofNat_Int, Nat.zero_add, Nat.add_zero, Int.toNat_natCast, Option.isNone_none, Option.isNone_some, Bool.not_true, Bool.not_false, Bool.xor_true, Bool.xor_false, Bool.true_xor, Bool.false_xor, decide_true, decide_false, Bool.and_true, Bool.true_and, Bool.and_false, Bool.false_and, eq_self, ne_eq, not_false_eq_true, not_true_eq_false, true_and, and_true, and_self, w1]
      refine ⟨(i + 1, some c'), ⟨by show i + 1 ≤ ws.length; omega, by show i + 1 ≤ c' ∧ 0 < i + 1; omega⟩, by show ws.length - (i + 1) < ws.length - i; omega, ?_⟩
      show Ent _ _ (rfI _ _ _ (i + 1) ws (some c'))
      refine ent_rf 3 rfl (by omega) (by omega) rfl rfl rfl rfl (fun j hj => ?_) rfl
      by_cases hji : j < i
      · simp [rapp, hji]
      · have : j = i := by omega
        subst this
        rw [wrow_eq hW]; simp [rapp]
  · have hil : i = ws.length := by omega
    subst hil
    have d0 : decide ((ws.length : Int) < ws.length) = false := by simp
    cases c with
    | none =>
      have h0 : ws.length = 0 := hok
      have hws : ws = [] := List.eq_nil_of_length_eq_zero h0
      simp only [rfI, outF, outN, List.nil_append]
      simp only [go_sem, ↓reduceIte, Nat.reduceEqDiff, Nat.reduceLT, Nat.reduceLeDiff, Nat.reduceAdd, Nat.reduceMul, Nat.reduceSub, Nat.reduceDiv, Nat.reduceMod, Int.reduceToNat, Int.reduceLT, Int.reduceLE, Int.reduceAdd, Int.reduceSub, Int.reduceMul, Int.reduceEq, Int.reduceNeg, reduceCtorEq, or_false, false_or, decide_true, decide_false, Int.cast_ofNat_Int, Nat.zero_add, Nat.add_zero, Int.toNat_natCast, Option.isNone_none, Option.isNone_some, Bool.not_true, Bool.not_false, Bool.xor_true, Bool.xor_false, Bool.true_xor, Bool.false_xor, decide_true, decide_false, Bool.and_true, Bool.true_and, Bool.and_false, Bool.false_and, eq_self, ne_eq, not_false_eq_true, not_true_eq_false, true_and, and_true, and_self, d0, n0]
      exact fun ρ a w' hs _ => ⟨none, by simp [SV.den, CV.den, slv, h0], hws, hs.grown, fun b c h => by cases h⟩
    | some c =>
      obtain ⟨hc1, hc2⟩ : ws.length ≤ c ∧ 0 < ws.length := hok
      simp only [rfI, outF, outN, List.take_length, List.cons_append, List.nil_append]
      simp only [go_sem, ↓reduceIte, Nat.reduceEqDiff, Nat.reduceLT, Nat.reduceLeDiff, Nat.reduceAdd, Nat.reduceMul, Nat.reduceSub, Nat.reduceDiv, Nat.reduceMod, Int.reduceToNat, Int.reduceLT, Int.reduceLE, Int.reduceAdd, Int.reduceSub, Int.reduceMul, Int.reduceEq, Int.reduceNeg, reduceCtorEq, or_false, false_or, decide_true, decide_false, Int.cast_ofNat_Int, Nat.zero_add, Nat.add_zero, Int.toNat_natCast, Option.isNone_none, Option.isNone_some, Bool.not_true, Bool.not_false, Bool.xor_true, Bool.xor_false, Bool.true_xor, Bool.false_xor, decide_true, decide_false, Bool.and_true, Bool.true_and, Bool.and_false, Bool.false_and, eq_self, ne_eq, not_false_eq_true, not_true_eq_false, true_and, and_true, and_self, d0, n0]
      refine fun ρ a w' hs _ => ⟨some ((ρ 1).blk, c), ?_, ⟨⟨hc1, hc2⟩, rowsAt_of (hs.now.hp _ _ (mem_hget (n := 1) rfl)) rfl fun j _ => map_v _ _⟩, hs.grown, fun b c h => ?_⟩
      · simp [SV.den, CV.den, slv, (hs.now.hp _ _ (mem_hget (n := 1) rfl)).1]
      · injection h with h; injection h with h _
        have := (hs.now.hp _ _ (mem_hget (n := 1) rfl)).2.2.2
        rw [← h]
        exact this.elim id fun h => h.elim
end Go.Proofs.Ytfokingbglkmjaa
