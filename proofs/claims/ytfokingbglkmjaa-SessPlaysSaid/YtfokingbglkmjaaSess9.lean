/-
  What a transaction has written, told; sums and places of vectors; calls on a table that is owned. Conditions: none.
-/
import Derived.Test.YtfokingbglkmjaaSess8
namespace Go.Proofs.Ytfokingbglkmjaa
open Go.RowKit Go.Sx
set_option linter.unusedVariables false
set_option linter.unusedSimpArgs false

def V4.sum (x : V4) : Int := IntKind.u64.wrap (IntKind.u64.wrap (IntKind.u64.wrap (IntKind.u64.wrap (0 + x.a) + x.b) + x.c) + x.d)
theorem sum_c (x : V4) (w : World) : Calls Try.prog 79 #[x.v] w fun e w' => e = .returned (vu x.sum) ∧ Below w.heap.size w w' := by
  obtain ⟨a0, a1, a2, a3⟩ := x
  refine calls_pure 14 _ Try.func79 rfl Try.ntmps79 Try.results79 [sv4 a0 a1 a2 a3] (by simp) (fun _ => rfl) ?_
  simp only [go_sem, ↓reduceIte, Nat.reduceEqDiff, Nat.reduceLT, Nat.reduceLeDiff, Nat.reduceAdd, Nat.reduceMul, Nat.reduceSub, Nat.reduceDiv, Nat.reduceMod, Int.reduceToNat, Int.reduceLT, Int.reduceLE, Int.reduceAdd, Int.reduceSub, Int.reduceMul, Int.reduceEq, Int.reduceNeg, reduceCtorEq, or_false, false_or, decide_true, decide_false, Int.cast_ofNat_Int, Nat.zero_add, Nat.add_zero, Int.toNat_natCast, Option.isNone_none, Option.isNone_some, Bool.not_true, Bool.not_false, Bool.xor_true, Bool.xor_false, Bool.true_xor, Bool.false_xor, decide_true, decide_false, Bool.and_true, Bool.true_and, Bool.and_false, Bool.false_and, eq_self, ne_eq, not_false_eq_true, not_true_eq_false, true_and, and_true, and_self]
  refine sloop_rounds 5 ?_
  simp only [go_sem, ↓reduceIte, Nat.reduceEqDiff, Nat.reduceLT, Nat.reduceLeDiff, Nat.reduceAdd, Nat.reduceMul, Nat.reduceSub, Nat.reduceDiv, Nat.reduceMod, Int.reduceToNat, Int.reduceLT, Int.reduceLE, Int.reduceAdd, Int.reduceSub, Int.reduceMul, Int.reduceEq, Int.reduceNeg, reduceCtorEq, or_false, false_or, decide_true, decide_false, Int.cast_ofNat_Int, Nat.zero_add, Nat.add_zero, Int.toNat_natCast, Option.isNone_none, Option.isNone_some, Bool.not_true, Bool.not_false, Bool.xor_true, Bool.xor_false, Bool.true_xor, Bool.false_xor, decide_true, decide_false, Bool.and_true, Bool.true_and, Bool.and_false, Bool.false_and, eq_self, ne_eq, not_false_eq_true, not_true_eq_false, true_and, and_true, and_self]
  exact fun ρ a w hs _ => ⟨rfl, hs.grown⟩
theorem at_c (x : V4) (n : Int) (w : World) : Calls Try.prog 80 #[x.v, .int .i64 n] w fun e w' => e = .returned (vu (x.at n)) ∧ Below w.heap.size w w' := by
  obtain ⟨a0, a1, a2, a3⟩ := x
  refine calls_pure 12 _ Try.func80 rfl Try.ntmps80 Try.results80 [sv4 a0 a1 a2 a3, .c (.v (.int .i64 n))] (by simp) (fun _ => rfl) ?_
  by_cases h : n = 1 ∨ n = 2 ∨ n = 3 ∨ n = 4
  · rcases h with rfl | rfl | rfl | rfl
    all_goals
      simp only [go_sem, ↓reduceIte, Nat.reduceEqDiff, Nat.reduceLT, Nat.reduceLeDiff, Nat.reduceAdd, Nat.reduceMul, Nat.reduceSub, Nat.reduceDiv, Nat.reduceMod, Int.reduceToNat, Int.reduceLT, Int.reduceLE, Int.reduceAdd, Int.reduceSub, Int.reduceMul, Int.reduceEq, Int.reduceNeg, reduceCtorEq, or_false, false_or, decide_true, decide_false, Int.cast_ofNat_Int, Nat.zero_add, Nat.add_zero, Int.toNat_natCast, Option.isNone_none, Option.isNone_some, Bool.not_true, Bool.not_false, Bool.xor_true, Bool.xor_false, Bool.true_xor, Bool.false_xor, decide_true, decide_false, Bool.and_true, Bool.true_and, Bool.and_false, Bool.false_and, eq_self, ne_eq, not_false_eq_true, not_true_eq_false, true_and, and_true, and_self]
      refine scall_in 9 _ Try.func123 rfl Try.ntmps123 Try.results123 Try.call123 ?_
      simp only [go_sem, ↓reduceIte, Nat.reduceEqDiff, Nat.reduceLT, Nat.reduceLeDiff, Nat.reduceAdd, Nat.reduceMul, Nat.reduceSub, Nat.reduceDiv, Nat.reduceMod, Int.reduceToNat, Int.reduceLT, Int.reduceLE, Int.reduceAdd, Int.reduceSub, Int.reduceMul, Int.reduceEq, Int.reduceNeg, reduceCtorEq, or_false, false_or, decide_true, decide_false, Int.cast_ofNat_Int, Nat.zero_add, Nat.add_zero, Int.toNat_natCast, Option.isNone_none, Option.isNone_some, Bool.not_true, Bool.not_false, Bool.xor_true, Bool.xor_false, Bool.true_xor, Bool.false_xor, decide_true, decide_false, Bool.and_true, Bool.true_and, Bool.and_false, Bool.false_and, eq_self, ne_eq, not_false_eq_true, not_true_eq_false, true_and, and_true, and_self]
      exact fun ρ a w hs _ => ⟨rfl, hs.grown⟩
  · have e : V4.at ⟨a0, a1, a2, a3⟩ n = 0 := by simp only [V4.at]; split <;> (try split) <;> (try split) <;> (try split) <;> omega
    simp only [go_sem, ↓reduceIte, Nat.reduceEqDiff, Nat.reduceLT, Nat.reduceLeDiff, Nat.reduceAdd, Nat.reduceMul, Nat.reduceSub, Nat.reduceDiv, Nat.reduceMod, Int.reduceToNat, Int.reduceLT, Int.reduceLE, Int.reduceAdd, Int.reduceSub, Int.reduceMul, Int.reduceEq, Int.reduceNeg, reduceCtorEq, or_false, false_or, decide_true, decide_false, Int.cast_ofNat_Int, Nat.zero_add, Nat.add_zero, Int.toNat_natCast, Option.isNone_none, Option.isNone_some, Bool.not_true, Bool.not_false, Bool.xor_true, Bool.xor_false, Bool.true_xor, Bool.false_xor, decide_true, decide_false, Bool.and_true, Bool.true_and, Bool.and_false, Bool.false_and, eq_self, ne_eq, not_false_eq_true, not_true_eq_false, true_and, and_true, and_self]
    refine scall_in 9 _ Try.func123 rfl Try.ntmps123 Try.results123 Try.call123 ?_
    cases h1 : decide (1 ≤ n)
    · simp only [go_sem, ↓reduceIte, Nat.reduceEqDiff, Nat.reduceLT, Nat.reduceLeDiff, Nat.reduceAdd, Nat.reduceMul, Nat.reduceSub, Nat.reduceDiv, Nat.reduceMod, Int.reduceToNat, Int.reduceLT, Int.reduceLE, Int.reduceAdd, Int.reduceSub, Int.reduceMul, Int.reduceEq, Int.reduceNeg, reduceCtorEq, or_false, false_or, decide_true, decide_false, Int.cast_ofNat_Int, Nat.zero_add, Nat.add_zero, Int.toNat_natCast, Option.isNone_none, Option.isNone_some, Bool.not_true, Bool.not_false, Bool.xor_true, Bool.xor_false, Bool.true_xor, Bool.false_xor, decide_true, decide_false, Bool.and_true, Bool.true_and, Bool.and_false, Bool.false_and, eq_self, ne_eq, not_false_eq_true, not_true_eq_false, true_and, and_true, and_self, h1]
      exact fun ρ a w hs _ => ⟨by rw [e]; rfl, hs.grown⟩
    · have h2 : decide (n ≤ 4) = false := by simp at h1 ⊢; omega
      simp only [go_sem, ↓reduceIte, Nat.reduceEqDiff, Nat.reduceLT, Nat.reduceLeDiff, Nat.reduceAdd, Nat.reduceMul, Nat.reduceSub, Nat.reduceDiv, Nat.reduceMod, Int.reduceToNat, Int.reduceLT, Int.reduceLE, Int.reduceAdd, Int.reduceSub, Int.reduceMul, Int.reduceEq, Int.reduceNeg, reduceCtorEq, or_false, false_or, decide_true, decide_false, Int.cast_ofNat_Int, Nat.zero_add, Nat.add_zero, Int.toNat_natCast, Option.isNone_none, Option.isNone_some, Bool.not_true, Bool.not_false, Bool.xor_true, Bool.xor_false, Bool.true_xor, Bool.false_xor, decide_true, decide_false, Bool.and_true, Bool.true_and, Bool.and_false, Bool.false_and, eq_self, ne_eq, not_false_eq_true, not_true_eq_false, true_and, and_true, and_self, h1, h2]
      exact fun ρ a w hs _ => ⟨by rw [e]; rfl, hs.grown⟩

/-- A statement's vector: of few numbers, or as it is. -/
def few (v : V4) (own : Bool) : V4 := if own then ⟨v.a.tmod 4, v.b.tmod 4, v.c.tmod 4, v.d.tmod 4⟩ else v
set_option maxRecDepth 100000 in
theorem vector_c (x : V4) (own : Bool) (w : World) : Calls Try.prog 17 #[.agg #[vu x.a, vu x.b, vu x.c, vu x.d, .bool own]] w fun e w' => e = .returned (few x own).v ∧ Below w.heap.size w w' := by
  obtain ⟨a0, a1, a2, a3⟩ := x
  refine calls_pure 20 _ Try.func17 rfl Try.ntmps17 Try.results17 [.agg [cu a0, cu a1, cu a2, cu a3, .v (.bool own)]] (by simp) (fun _ => rfl) ?_
  cases own
  · simp only [go_sem, ↓reduceIte, Nat.reduceEqDiff, Nat.reduceLT, Nat.reduceLeDiff, Nat.reduceAdd, Nat.reduceMul, Nat.reduceSub, Nat.reduceDiv, Nat.reduceMod, Int.reduceToNat, Int.reduceLT, Int.reduceLE, Int.reduceAdd, Int.reduceSub, Int.reduceMul, Int.reduceEq, Int.reduceNeg, reduceCtorEq, or_false, false_or, decide_true, decide_false, Int.cast_ofNat_Int, Nat.zero_add, Nat.add_zero, Int.toNat_natCast, Option.isNone_none, Option.isNone_some, Bool.not_true, Bool.not_false, Bool.xor_true, Bool.xor_false, Bool.true_xor, Bool.false_xor, decide_true, decide_false, Bool.and_true, Bool.true_and, Bool.and_false, Bool.false_and, eq_self, ne_eq, not_false_eq_true, not_true_eq_false, true_and, and_true, and_self]
    exact fun ρ a w hs _ => ⟨rfl, hs.grown⟩
  · simp only [go_sem, ↓reduceIte, Nat.reduceEqDiff, Nat.reduceLT, Nat.reduceLeDiff, Nat.reduceAdd, Nat.reduceMul, Nat.reduceSub, Nat.reduceDiv, Nat.reduceMod, Int.reduceToNat, Int.reduceLT, Int.reduceLE, Int.reduceAdd, Int.reduceSub, Int.reduceMul, Int.reduceEq, Int.reduceNeg, reduceCtorEq, or_false, false_or, decide_true, decide_false, Int.cast_ofNat_Int, Nat.zero_add, Nat.add_zero, Int.toNat_natCast, Option.isNone_none, Option.isNone_some, Bool.not_true, Bool.not_false, Bool.xor_true, Bool.xor_false, Bool.true_xor, Bool.false_xor, decide_true, decide_false, Bool.and_true, Bool.true_and, Bool.and_false, Bool.false_and, eq_self, ne_eq, not_false_eq_true, not_true_eq_false, true_and, and_true, and_self]
    refine sloop_rounds 5 ?_
    simp only [go_sem, ↓reduceIte, Nat.reduceEqDiff, Nat.reduceLT, Nat.reduceLeDiff, Nat.reduceAdd, Nat.reduceMul, Nat.reduceSub, Nat.reduceDiv, Nat.reduceMod, Int.reduceToNat, Int.reduceLT, Int.reduceLE, Int.reduceAdd, Int.reduceSub, Int.reduceMul, Int.reduceEq, Int.reduceNeg, reduceCtorEq, or_false, false_or, decide_true, decide_false, Int.cast_ofNat_Int, Nat.zero_add, Nat.add_zero, Int.toNat_natCast, Option.isNone_none, Option.isNone_some, Bool.not_true, Bool.not_false, Bool.xor_true, Bool.xor_false, Bool.true_xor, Bool.false_xor, decide_true, decide_false, Bool.and_true, Bool.true_and, Bool.and_false, Bool.false_and, eq_self, ne_eq, not_false_eq_true, not_true_eq_false, true_and, and_true, and_self]
    exact fun ρ a w hs _ => ⟨rfl, hs.grown⟩

/-- A table, read alone. -/
theorem imm_row {w : World} {g : Nat} {T : Nat → One} {S : Nat → Option (Nat × Nat)} (hS : Tab g T S w) {ρ : Env} {n m : Nat} {C : Cx} (hC : C.w0 = w ∧ ∀ k, ¬ C.M k) (hρ : ρ n = ⟨g, 0, 10⟩) {r : Nat → List CV} (hr : ∀ i, i < 9 → (r i).map (CV.den ρ) = (T i).row (S i)) : Blk.holds C ρ n w (.imm 10 9 r) := by
  obtain ⟨arr, h1, h2, h3⟩ := hS.row
  refine ⟨by rw [hρ], fun i hi => ?_, fun _ => by rw [hρ]; exact ⟨by rw [hC.1]; exact (Array.getElem?_eq_some_iff.1 h1).1, hC.2 _⟩⟩
  obtain ⟨h4, h5⟩ := h3 i hi
  have hl : (r i).length = 10 := by rw [← List.length_map (CV.den ρ), hr i hi]; rfl
  refine ⟨hl, fun q hq => ?_⟩
  rw [← List.getElem?_map, hr i hi, hρ]
  simp only [World.cell?, h1, Nat.zero_add]
  rw [← h5 q hq]; simp
theorem imm_wr {w : World} {b c : Nat} {ws : List Wr} (h : WrAt (some (b, c)) ws w) {ρ : Env} {n : Nat} {C : Cx} (hC : C.w0 = w ∧ ∀ k, ¬ C.M k) (hρ : ρ n = ⟨b, 0, 4⟩) : Blk.holds C ρ n w (.imm 4 ws.length fun j => (wrow ws j).map .v) := by
  obtain ⟨_, arr, h1, h2, h3⟩ := h
  refine ⟨by rw [hρ], fun i hi => ?_, fun _ => by rw [hρ]; exact ⟨by rw [hC.1]; exact (Array.getElem?_eq_some_iff.1 h1).1, hC.2 _⟩⟩
  obtain ⟨h4, h5⟩ := h3 i hi
  refine ⟨by simpa [wrow] using h4, fun q hq => ?_⟩
  rw [← List.getElem?_map, map_v, hρ]
  simp only [World.cell?, h1, Nat.zero_add]
  have := h5 q hq
  simp only [wrow]
  rw [← this]; simp

theorem rd_calls {f : FuncId} {fn : Func} {c : Code} {args : Array Value} {w : World} {R : Ending → World → Prop} {g : Nat} {T : Nat → One} {S : Nat → Option (Nat × Nat)} (hS : Tab g T S w) (n : Nat) (rs : List ResultVar) (hf : Try.prog.funcs[f]? = some fn) (hb : fn.body = some c) (hn : fn.ntmps = n) (hr : fn.results = rs.toArray)
    (xs : List SV) (hl : xs.length ≤ n) (ha : ∀ ρ' : Env, ρ' 0 = ⟨g, 0, 10⟩ → args.toList = SV.denL ρ' xs)
    (h : X Try.prog ⟨w, fun _ => False, n, 1, fun _ => ⟨g, 0, 10⟩⟩ c (retQ Try.prog ⟨w, fun _ => False, n, 1, fun _ => ⟨g, 0, 10⟩⟩ rs R) ⟨frOf 0 xs, [(0, .imm 10 9 fun i => ((T i).row (S i)).map .v)], 1⟩) : Calls Try.prog f args w R := by
  refine calls_of (fun _ => False) n rs hf hb hn hr xs _ 1 (fun _ => ⟨g, 0, 10⟩) hl (fun ρ' hρ => ha ρ' (hρ 0 (by omega))) (fun ρ' hρ => ⟨fun m b hm => ?_, ?_⟩) (fun m b hm => ?_) (by simp) h
  · simp only [List.mem_cons, Prod.mk.injEq, List.not_mem_nil, or_false] at hm
    obtain ⟨rfl, rfl⟩ := hm
    exact imm_row hS (m := 0) ⟨rfl, fun _ h => h⟩ (hρ 0 (by omega)) fun i _ => map_v _ _
  · simp [footL, Blk.foot]
  · simp only [List.mem_cons, Prod.mk.injEq, List.not_mem_nil, or_false] at hm
    omega
theorem rd_calls1 {f : FuncId} {fn : Func} {c : Code} {args : Array Value} {w : World} {R : Ending → World → Prop} {g : Nat} {T : Nat → One} {S : Nat → Option (Nat × Nat)} {k b cc : Nat} {sn : V4} {ws : List Wr} (hS : Tab g T S w) (hk : k < 9) (hSk : S k = some (b, cc)) (hop : (T k).op = some (sn, ws)) (n : Nat) (rs : List ResultVar) (hf : Try.prog.funcs[f]? = some fn) (hb : fn.body = some c) (hn : fn.ntmps = n) (hr : fn.results = rs.toArray)
    (xs : List SV) (hl : xs.length ≤ n) (ha : ∀ ρ' : Env, ρ' 0 = ⟨g, 0, 10⟩ → args.toList = SV.denL ρ' xs)
    (h : X Try.prog ⟨w, fun _ => False, n, 2, fun m => if m = 1 then ⟨b, 0, 4⟩ else ⟨g, 0, 10⟩⟩ c (retQ Try.prog ⟨w, fun _ => False, n, 2, fun m => if m = 1 then ⟨b, 0, 4⟩ else ⟨g, 0, 10⟩⟩ rs R) ⟨frOf 0 xs, [(0, .imm 10 9 (rk T S k 1 ws.length cc)), (1, .imm 4 ws.length fun j => (wrow ws j).map .v)], 2⟩) : Calls Try.prog f args w R := by
  obtain ⟨hi, hsn, hws⟩ := One.op_of hop
  have hwr := hS.wr k hk
  rw [hSk, hws] at hwr
  refine calls_of (fun _ => False) n rs hf hb hn hr xs _ 2 (fun m => if m = 1 then ⟨b, 0, 4⟩ else ⟨g, 0, 10⟩) hl (fun ρ' hρ => ha ρ' (hρ 0 (by omega))) (fun ρ' hρ => ⟨fun m b' hm => ?_, ?_⟩) (fun m b' hm => ?_) (by simp) h
  · have r0 := hρ 0 (by omega)
    have r1 := hρ 1 (by omega)
    simp only [Nat.zero_ne_one, if_true, if_false] at r0 r1
    simp only [List.mem_cons, Prod.mk.injEq, List.not_mem_nil, or_false] at hm
    rcases hm with ⟨rfl, rfl⟩ | ⟨rfl, rfl⟩
    · refine imm_row hS (m := 0) ⟨rfl, fun _ h => h⟩ r0 fun i _ => ?_
      unfold rk
      split
      · rename_i e; subst e
        simp [One.row, One.sl, hop, hSk, slv, CV.den, r1, hi]
      · exact map_v _ _
    · exact imm_wr hwr ⟨rfl, fun _ h => h⟩ r1
  · simp [footL, Blk.foot]
  · simp only [List.mem_cons, Prod.mk.injEq, List.not_mem_nil, or_false] at hm
    omega

theorem writes_c (g : Nat) (T : Nat → One) (fp : List Nat) (id : Int) (w : World) (ht : TabIs g T fp w) :
    Calls Try.prog 32 #[ptr g, .int .i64 id] w fun e w' => ∃ s, e = .returned (slv s (isWs T id).length) ∧ WrAt s (isWs T id) w' ∧ Below w.heap.size w w' ∧ ∀ b c, s = some (b, c) → w.heap.size ≤ b := by
  obtain ⟨S, hS, hfp⟩ := ht
  by_cases h1 : id < 1
  · have d1 : decide (id < 1) = true := by simp [h1]
    have d2 : inS id = false := by simp [inS]; omega
    refine rd_calls hS 16 _ Try.func32 rfl Try.ntmps32 Try.results32 [.c (.p 0 0 0), .c (.v (.int .i64 id))] (by simp) (fun ρ h => by simp [SV.denL, SV.den, CV.den, CV.denL, h]) ?_
    simp only [go_sem, ↓reduceIte, Nat.reduceEqDiff, Nat.reduceLT, Nat.reduceLeDiff, Nat.reduceAdd, Nat.reduceMul, Nat.reduceSub, Nat.reduceDiv, Nat.reduceMod, Int.reduceToNat, Int.reduceLT, Int.reduceLE, Int.reduceAdd, Int.reduceSub, Int.reduceMul, Int.reduceEq, Int.reduceNeg, reduceCtorEq, or_false, false_or, decide_true, decide_false, Int.cast_ofNat_Int, Nat.zero_add, Nat.add_zero, Int.toNat_natCast, Option.isNone_none, Option.isNone_some, Bool.not_true, Bool.not_false, Bool.xor_true, Bool.xor_false, Bool.true_xor, Bool.false_xor, decide_true, decide_false, Bool.and_true, Bool.true_and, Bool.and_false, Bool.false_and, eq_self, ne_eq, not_false_eq_true, not_true_eq_false, true_and, and_true, and_self]
    refine scall_in 23 _ Try.func84 rfl Try.ntmps84 Try.results84 Try.call84 ?_
    simp only [go_sem, ↓reduceIte, Nat.reduceEqDiff, Nat.reduceLT, Nat.reduceLeDiff, Nat.reduceAdd, Nat.reduceMul, Nat.reduceSub, Nat.reduceDiv, Nat.reduceMod, Int.reduceToNat, Int.reduceLT, Int.reduceLE, Int.reduceAdd, Int.reduceSub, Int.reduceMul, Int.reduceEq, Int.reduceNeg, reduceCtorEq, or_false, false_or, decide_true, decide_false, Int.cast_ofNat_Int, Nat.zero_add, Nat.add_zero, Int.toNat_natCast, Option.isNone_none, Option.isNone_some, Bool.not_true, Bool.not_false, Bool.xor_true, Bool.xor_false, Bool.true_xor, Bool.false_xor, decide_true, decide_false, Bool.and_true, Bool.true_and, Bool.and_false, Bool.false_and, eq_self, ne_eq, not_false_eq_true, not_true_eq_false, true_and, and_true, and_self]
    refine scall_in 16 _ Try.func81 rfl Try.ntmps81 Try.results81 Try.call81 ?_
    simp only [go_sem, ↓reduceIte, Nat.reduceEqDiff, Nat.reduceLT, Nat.reduceLeDiff, Nat.reduceAdd, Nat.reduceMul, Nat.reduceSub, Nat.reduceDiv, Nat.reduceMod, Int.reduceToNat, Int.reduceLT, Int.reduceLE, Int.reduceAdd, Int.reduceSub, Int.reduceMul, Int.reduceEq, Int.reduceNeg, reduceCtorEq, or_false, false_or, decide_true, decide_false, Int.cast_ofNat_Int, Nat.zero_add, Nat.add_zero, Int.toNat_natCast, Option.isNone_none, Option.isNone_some, Bool.not_true, Bool.not_false, Bool.xor_true, Bool.xor_false, Bool.true_xor, Bool.false_xor, decide_true, decide_false, Bool.and_true, Bool.true_and, Bool.and_false, Bool.false_and, eq_self, ne_eq, not_false_eq_true, not_true_eq_false, true_and, and_true, and_self, d1]
    exact fun ρ a w' hs hag => ⟨none, by simp [SV.den, CV.den, isWs, d2, slv], by simp [isWs, d2, WrAt], hs.grown, fun b c h => by cases h⟩
  by_cases h2 : 8 < id
  · have d1 : decide (id < 1) = false := by simp [h1]
    have d3 : decide (8 < id) = true := by simp [h2]
    have d2 : inS id = false := by simp [inS]; omega
    refine rd_calls hS 16 _ Try.func32 rfl Try.ntmps32 Try.results32 [.c (.p 0 0 0), .c (.v (.int .i64 id))] (by simp) (fun ρ h => by simp [SV.denL, SV.den, CV.den, CV.denL, h]) ?_
    simp only [go_sem, ↓reduceIte, Nat.reduceEqDiff, Nat.reduceLT, Nat.reduceLeDiff, Nat.reduceAdd, Nat.reduceMul, Nat.reduceSub, Nat.reduceDiv, Nat.reduceMod, Int.reduceToNat, Int.reduceLT, Int.reduceLE, Int.reduceAdd, Int.reduceSub, Int.reduceMul, Int.reduceEq, Int.reduceNeg, reduceCtorEq, or_false, false_or, decide_true, decide_false, Int.cast_ofNat_Int, Nat.zero_add, Nat.add_zero, Int.toNat_natCast, Option.isNone_none, Option.isNone_some, Bool.not_true, Bool.not_false, Bool.xor_true, Bool.xor_false, Bool.true_xor, Bool.false_xor, decide_true, decide_false, Bool.and_true, Bool.true_and, Bool.and_false, Bool.false_and, eq_self, ne_eq, not_false_eq_true, not_true_eq_false, true_and, and_true, and_self]
    refine scall_in 23 _ Try.func84 rfl Try.ntmps84 Try.results84 Try.call84 ?_
    simp only [go_sem, ↓reduceIte, Nat.reduceEqDiff, Nat.reduceLT, Nat.reduceLeDiff, Nat.reduceAdd, Nat.reduceMul, Nat.reduceSub, Nat.reduceDiv, Nat.reduceMod, Int.reduceToNat, Int.reduceLT, Int.reduceLE, Int.reduceAdd, Int.reduceSub, Int.reduceMul, Int.reduceEq, Int.reduceNeg, reduceCtorEq, or_false, false_or, decide_true, decide_false, Int.cast_ofNat_Int, Nat.zero_add, Nat.add_zero, Int.toNat_natCast, Option.isNone_none, Option.isNone_some, Bool.not_true, Bool.not_false, Bool.xor_true, Bool.xor_false, Bool.true_xor, Bool.false_xor, decide_true, decide_false, Bool.and_true, Bool.true_and, Bool.and_false, Bool.false_and, eq_self, ne_eq, not_false_eq_true, not_true_eq_false, true_and, and_true, and_self]
    refine scall_in 16 _ Try.func81 rfl Try.ntmps81 Try.results81 Try.call81 ?_
    simp only [go_sem, ↓reduceIte, Nat.reduceEqDiff, Nat.reduceLT, Nat.reduceLeDiff, Nat.reduceAdd, Nat.reduceMul, Nat.reduceSub, Nat.reduceDiv, Nat.reduceMod, Int.reduceToNat, Int.reduceLT, Int.reduceLE, Int.reduceAdd, Int.reduceSub, Int.reduceMul, Int.reduceEq, Int.reduceNeg, reduceCtorEq, or_false, false_or, decide_true, decide_false, Int.cast_ofNat_Int, Nat.zero_add, Nat.add_zero, Int.toNat_natCast, Option.isNone_none, Option.isNone_some, Bool.not_true, Bool.not_false, Bool.xor_true, Bool.xor_false, Bool.true_xor, Bool.false_xor, decide_true, decide_false, Bool.and_true, Bool.true_and, Bool.and_false, Bool.false_and, eq_self, ne_eq, not_false_eq_true, not_true_eq_false, true_and, and_true, and_self, d1, d3]
    exact fun ρ a w' hs hag => ⟨none, by simp [SV.den, CV.den, isWs, d2, slv], by simp [isWs, d2, WrAt], hs.grown, fun b c h => by cases h⟩
  obtain ⟨d2, k, rfl, hk1, hk⟩ := inS_of h1 h2
  have d1 : decide ((k : Int) < 1) = false := by simp [h1]
  have d3 : decide (8 < (k : Int)) = false := by simp [h2]
  have d4 : (0 : Int) ≤ k ∧ (k : Int) < 9 := by omega
  rcases hop : (T k).op with _ | ⟨sn, ws⟩
  · have hi : (T k).is = false := by simp [One.is, hop]
    have hrow := row_eq T S k
    refine rd_calls hS 16 _ Try.func32 rfl Try.ntmps32 Try.results32 [.c (.p 0 0 0), .c (.v (.int .i64 k))] (by simp) (fun ρ h => by simp [SV.denL, SV.den, CV.den, CV.denL, h]) ?_
    simp only [go_sem, ↓reduceIte, Nat.reduceEqDiff, Nat.reduceLT, Nat.reduceLeDiff, Nat.reduceAdd, Nat.reduceMul, Nat.reduceSub, Nat.reduceDiv, Nat.reduceMod, Int.reduceToNat, Int.reduceLT, Int.reduceLE, Int.reduceAdd, Int.reduceSub, Int.reduceMul, Int.reduceEq, Int.reduceNeg, reduceCtorEq, or_false, false_or, decide_true, decide_false, Int.cast_ofNat_Int, Nat.zero_add, Nat.add_zero, Int.toNat_natCast, Option.isNone_none, Option.isNone_some, Bool.not_true, Bool.not_false, Bool.xor_true, Bool.xor_false, Bool.true_xor, Bool.false_xor, decide_true, decide_false, Bool.and_true, Bool.true_and, Bool.and_false, Bool.false_and, eq_self, ne_eq, not_false_eq_true, not_true_eq_false, true_and, and_true, and_self]
    refine scall_in 23 _ Try.func84 rfl Try.ntmps84 Try.results84 Try.call84 ?_
    simp only [go_sem, ↓reduceIte, Nat.reduceEqDiff, Nat.reduceLT, Nat.reduceLeDiff, Nat.reduceAdd, Nat.reduceMul, Nat.reduceSub, Nat.reduceDiv, Nat.reduceMod, Int.reduceToNat, Int.reduceLT, Int.reduceLE, Int.reduceAdd, Int.reduceSub, Int.reduceMul, Int.reduceEq, Int.reduceNeg, reduceCtorEq, or_false, false_or, decide_true, decide_false, Int.cast_ofNat_Int, Nat.zero_add, Nat.add_zero, Int.toNat_natCast, Option.isNone_none, Option.isNone_some, Bool.not_true, Bool.not_false, Bool.xor_true, Bool.xor_false, Bool.true_xor, Bool.false_xor, decide_true, decide_false, Bool.and_true, Bool.true_and, Bool.and_false, Bool.false_and, eq_self, ne_eq, not_false_eq_true, not_true_eq_false, true_and, and_true, and_self]
    refine scall_in 16 _ Try.func81 rfl Try.ntmps81 Try.results81 Try.call81 ?_
    simp only [go_sem, ↓reduceIte, Nat.reduceEqDiff, Nat.reduceLT, Nat.reduceLeDiff, Nat.reduceAdd, Nat.reduceMul, Nat.reduceSub, Nat.reduceDiv, Nat.reduceMod, Int.reduceToNat, Int.reduceLT, Int.reduceLE, Int.reduceAdd, Int.reduceSub, Int.reduceMul, Int.reduceEq, Int.reduceNeg, reduceCtorEq, or_false, false_or, decide_true, decide_false, Int.cast_ofNat_Int, Nat.zero_add, Nat.add_zero, Int.toNat_natCast, Option.isNone_none, Option.isNone_some, Bool.not_true, Bool.not_false, Bool.xor_true, Bool.xor_false, Bool.true_xor, Bool.false_xor, decide_true, decide_false, Bool.and_true, Bool.true_and, Bool.and_false, Bool.false_and, eq_self, ne_eq, not_false_eq_true, not_true_eq_false, true_and, and_true, and_self, d1, d3, d4, hrow, hk, hi]
    exact fun ρ a w' hs hag => ⟨none, by simp [SV.den, CV.den, isWs, d2, One.ws, hop, slv], by simp [isWs, d2, One.ws, hop, WrAt], hs.grown, fun b c h => by cases h⟩
  obtain ⟨hi, hsn, hws⟩ := One.op_of hop
  have hwr := hS.wr k hk
  rw [hws] at hwr
  have hiw : isWs T (k : Int) = ws := by simp [isWs, d2, hws]
  rw [hiw]
  rcases hSk : S k with _ | ⟨bl, cc⟩
  · rw [hSk] at hwr
    have hw0 : ws = [] := hwr
    subst hw0
    have hsl : (T k).sl (S k) = .slice none 0 0 := by simp [One.sl, hop, hSk, slv]
    have hrow : ((T k).row (S k)).map CV.v = [cu (T k).seen.a, cu (T k).seen.b, cu (T k).seen.c, cu (T k).seen.d, .v (.bool true), cu sn.a, cu sn.b, cu sn.c, cu sn.d, .v (.slice none 0 0)] := by rw [row_eq, hsl, hsn, hi]
    refine rd_calls hS 16 _ Try.func32 rfl Try.ntmps32 Try.results32 [.c (.p 0 0 0), .c (.v (.int .i64 k))] (by simp) (fun ρ h => by simp [SV.denL, SV.den, CV.den, CV.denL, h]) ?_
    simp only [go_sem, ↓reduceIte, Nat.reduceEqDiff, Nat.reduceLT, Nat.reduceLeDiff, Nat.reduceAdd, Nat.reduceMul, Nat.reduceSub, Nat.reduceDiv, Nat.reduceMod, Int.reduceToNat, Int.reduceLT, Int.reduceLE, Int.reduceAdd, Int.reduceSub, Int.reduceMul, Int.reduceEq, Int.reduceNeg, reduceCtorEq, or_false, false_or, decide_true, decide_false, Int.cast_ofNat_Int, Nat.zero_add, Nat.add_zero, Int.toNat_natCast, Option.isNone_none, Option.isNone_some, Bool.not_true, Bool.not_false, Bool.xor_true, Bool.xor_false, Bool.true_xor, Bool.false_xor, decide_true, decide_false, Bool.and_true, Bool.true_and, Bool.and_false, Bool.false_and, eq_self, ne_eq, not_false_eq_true, not_true_eq_false, true_and, and_true, and_self]
    refine scall_in 23 _ Try.func84 rfl Try.ntmps84 Try.results84 Try.call84 ?_
    simp only [go_sem, ↓reduceIte, Nat.reduceEqDiff, Nat.reduceLT, Nat.reduceLeDiff, Nat.reduceAdd, Nat.reduceMul, Nat.reduceSub, Nat.reduceDiv, Nat.reduceMod, Int.reduceToNat, Int.reduceLT, Int.reduceLE, Int.reduceAdd, Int.reduceSub, Int.reduceMul, Int.reduceEq, Int.reduceNeg, reduceCtorEq, or_false, false_or, decide_true, decide_false, Int.cast_ofNat_Int, Nat.zero_add, Nat.add_zero, Int.toNat_natCast, Option.isNone_none, Option.isNone_some, Bool.not_true, Bool.not_false, Bool.xor_true, Bool.xor_false, Bool.true_xor, Bool.false_xor, decide_true, decide_false, Bool.and_true, Bool.true_and, Bool.and_false, Bool.false_and, eq_self, ne_eq, not_false_eq_true, not_true_eq_false, true_and, and_true, and_self]
    refine scall_in 16 _ Try.func81 rfl Try.ntmps81 Try.results81 Try.call81 ?_
    simp only [go_sem, ↓reduceIte, Nat.reduceEqDiff, Nat.reduceLT, Nat.reduceLeDiff, Nat.reduceAdd, Nat.reduceMul, Nat.reduceSub, Nat.reduceDiv, Nat.reduceMod, Int.reduceToNat, Int.reduceLT, Int.reduceLE, Int.reduceAdd, Int.reduceSub, Int.reduceMul, Int.reduceEq, Int.reduceNeg, reduceCtorEq, or_false, false_or, decide_true, decide_false, Int.cast_ofNat_Int, Nat.zero_add, Nat.add_zero, Int.toNat_natCast, Option.isNone_none, Option.isNone_some, Bool.not_true, Bool.not_false, Bool.xor_true, Bool.xor_false, Bool.true_xor, Bool.false_xor, decide_true, decide_false, Bool.and_true, Bool.true_and, Bool.and_false, Bool.false_and, eq_self, ne_eq, not_false_eq_true, not_true_eq_false, true_and, and_true, and_self, d1, d3, d4, hrow, hk]
    refine scall_in 8 _ Try.func88 rfl Try.ntmps88 Try.results88 Try.call88 ?_
    simp only [go_sem, ↓reduceIte, Nat.reduceEqDiff, Nat.reduceLT, Nat.reduceLeDiff, Nat.reduceAdd, Nat.reduceMul, Nat.reduceSub, Nat.reduceDiv, Nat.reduceMod, Int.reduceToNat, Int.reduceLT, Int.reduceLE, Int.reduceAdd, Int.reduceSub, Int.reduceMul, Int.reduceEq, Int.reduceNeg, reduceCtorEq, or_false, false_or, decide_true, decide_false, Int.cast_ofNat_Int, Nat.zero_add, Nat.add_zero, Int.toNat_natCast, Option.isNone_none, Option.isNone_some, Bool.not_true, Bool.not_false, Bool.xor_true, Bool.xor_false, Bool.true_xor, Bool.false_xor, decide_true, decide_false, Bool.and_true, Bool.true_and, Bool.and_false, Bool.false_and, eq_self, ne_eq, not_false_eq_true, not_true_eq_false, true_and, and_true, and_self]
    exact fun ρ a w' hs hag => ⟨none, by simp [SV.den, CV.den, slv], rfl, hs.grown, fun b c h => by cases h⟩
  · rw [hSk] at hwr
    have hrow := rk_same T S k 1 ws.length cc
    have hl := hwr.1
    refine rd_calls1 hS hk hSk hop 16 _ Try.func32 rfl Try.ntmps32 Try.results32 [.c (.p 0 0 0), .c (.v (.int .i64 k))] (by simp) (fun ρ h => by simp [SV.denL, SV.den, CV.den, CV.denL, h]) ?_
    simp only [go_sem, ↓reduceIte, Nat.reduceEqDiff, Nat.reduceLT, Nat.reduceLeDiff, Nat.reduceAdd, Nat.reduceMul, Nat.reduceSub, Nat.reduceDiv, Nat.reduceMod, Int.reduceToNat, Int.reduceLT, Int.reduceLE, Int.reduceAdd, Int.reduceSub, Int.reduceMul, Int.reduceEq, Int.reduceNeg, reduceCtorEq, or_false, false_or, decide_true, decide_false, Int.cast_ofNat_Int, Nat.zero_add, Nat.add_zero, Int.toNat_natCast, Option.isNone_none, Option.isNone_some, Bool.not_true, Bool.not_false, Bool.xor_true, Bool.xor_false, Bool.true_xor, Bool.false_xor, decide_true, decide_false, Bool.and_true, Bool.true_and, Bool.and_false, Bool.false_and, eq_self, ne_eq, not_false_eq_true, not_true_eq_false, true_and, and_true, and_self]
    refine scall_in 23 _ Try.func84 rfl Try.ntmps84 Try.results84 Try.call84 ?_
    simp only [go_sem, ↓reduceIte, Nat.reduceEqDiff, Nat.reduceLT, Nat.reduceLeDiff, Nat.reduceAdd, Nat.reduceMul, Nat.reduceSub, Nat.reduceDiv, Nat.reduceMod, Int.reduceToNat, Int.reduceLT, Int.reduceLE, Int.reduceAdd, Int.reduceSub, Int.reduceMul, Int.reduceEq, Int.reduceNeg, reduceCtorEq, or_false, false_or, decide_true, decide_false, Int.cast_ofNat_Int, Nat.zero_add, Nat.add_zero, Int.toNat_natCast, Option.isNone_none, Option.isNone_some, Bool.not_true, Bool.not_false, Bool.xor_true, Bool.xor_false, Bool.true_xor, Bool.false_xor, decide_true, decide_false, Bool.and_true, Bool.true_and, Bool.and_false, Bool.false_and, eq_self, ne_eq, not_false_eq_true, not_true_eq_false, true_and, and_true, and_self]
    refine scall_in 16 _ Try.func81 rfl Try.ntmps81 Try.results81 Try.call81 ?_
    simp only [go_sem, ↓reduceIte, Nat.reduceEqDiff, Nat.reduceLT, Nat.reduceLeDiff, Nat.reduceAdd, Nat.reduceMul, Nat.reduceSub, Nat.reduceDiv, Nat.reduceMod, Int.reduceToNat, Int.reduceLT, Int.reduceLE, Int.reduceAdd, Int.reduceSub, Int.reduceMul, Int.reduceEq, Int.reduceNeg, reduceCtorEq, or_false, false_or, decide_true, decide_false, Int.cast_ofNat_Int, Nat.zero_add, Nat.add_zero, Int.toNat_natCast, Option.isNone_none, Option.isNone_some, Bool.not_true, Bool.not_false, Bool.xor_true, Bool.xor_false, Bool.true_xor, Bool.false_xor, decide_true, decide_false, Bool.and_true, Bool.true_and, Bool.and_false, Bool.false_and, eq_self, ne_eq, not_false_eq_true, not_true_eq_false, true_and, and_true, and_self, d1, d3, d4, hrow, hk]
    refine scall_in 8 _ Try.func88 rfl Try.ntmps88 Try.results88 Try.call88 ?_
    simp only [go_sem, ↓reduceIte, Nat.reduceEqDiff, Nat.reduceLT, Nat.reduceLeDiff, Nat.reduceAdd, Nat.reduceMul, Nat.reduceSub, Nat.reduceDiv, Nat.reduceMod, Int.reduceToNat, Int.reduceLT, Int.reduceLE, Int.reduceAdd, Int.reduceSub, Int.reduceMul, Int.reduceEq, Int.reduceNeg, reduceCtorEq, or_false, false_or, decide_true, decide_false, Int.cast_ofNat_Int, Nat.zero_add, Nat.add_zero, Int.toNat_natCast, Option.isNone_none, Option.isNone_some, Bool.not_true, Bool.not_false, Bool.xor_true, Bool.xor_false, Bool.true_xor, Bool.false_xor, decide_true, decide_false, Bool.and_true, Bool.true_and, Bool.and_false, Bool.false_and, eq_self, ne_eq, not_false_eq_true, not_true_eq_false, true_and, and_true, and_self]
    have hone : ∀ i, i < ws.length → ((wrow ws (0 + i)).map CV.v).all one1 = true := fun i hi => by
      rw [Nat.zero_add, wrow_eq (List.getElem?_eq_getElem hi)]; rfl
    refine sappend rfl rfl tkind58 tsz41 tby41 tz41 rfl rfl ⟨⟨rfl, by decide, hl.2.2, Nat.le_refl _⟩, by omega, by omega, by omega⟩ hone ?_
    refine ⟨(by show 7 < 8; decide), fun c' hc' => ?_⟩
    simp only [go_sem, ↓reduceIte, Nat.reduceEqDiff, Nat.reduceLT, Nat.reduceLeDiff, Nat.reduceAdd, Nat.reduceMul, Nat.reduceSub, Nat.reduceDiv, Nat.reduceMod, Int.reduceToNat, Int.reduceLT, Int.reduceLE, Int.reduceAdd, Int.reduceSub, Int.reduceMul, Int.reduceEq, Int.reduceNeg, reduceCtorEq, or_false, false_or, decide_true, decide_false, Int.cast_ofNat_Int, Nat.zero_add, Nat.add_zero, Int.toNat_natCast, Option.isNone_none, Option.isNone_some, Bool.not_true, Bool.not_false, Bool.xor_true, Bool.xor_false, Bool.true_xor, Bool.false_xor, decide_true, decide_false, Bool.and_true, Bool.true_and, Bool.and_false, Bool.false_and, eq_self, ne_eq, not_false_eq_true, not_true_eq_false, true_and, and_true, and_self]
    refine fun ρ a w' hs hag => ⟨some ((ρ 3).blk, c'), ?_, ?_, hs.grown, fun b c h => ?_⟩
    · simp [SV.den, CV.den, slv, (hs.now.hp _ _ (mem_hget (n := 3) rfl)).1]
    · exact ⟨⟨hl.1, by omega, hl.2.2⟩, rowsAt_of (hs.now.hp _ _ (mem_hget (n := 3) rfl)) rfl fun j _ => by simp only [rapp, Nat.not_lt_zero, if_false]; exact map_v _ _⟩
    · injection h with h; injection h with h _
      have := (hs.now.hp _ _ (mem_hget (n := 3) rfl)).2.2.2
      rw [← h]
      exact this.elim id fun h => h.elim

section
variable {C : Cx} {fr : List (Nat × SV)} {hp : List (Nat × Blk)} {nx : Nat}
def dokB (N : Nat) : Option Tmp → Bool
  | some d => Nat.blt d N
  | none => true
theorem dOk_of {N : Nat} {d : Option Tmp} (h : dokB N d = true) : dOk N d := by
  cases d with
  | none => trivial
  | some d => exact Nat.le_of_ble_eq_true h
/-- A call of a function on a table that is owned. -/
theorem tab_call {f : FuncId} {args : List SV} {d : Option Tmp} {K : St → Prop} (n : Nat) {g : Nat} {T T' : Nat → One} {fp : List Nat} {v : Value} (vs : List Value) (x : SV)
    (hc : ∀ (v : Array Value) w, (callFunc f v).run Try.prog w = .ok (.enter f v) w) (hcall : ∀ w, TabIs g T fp w → Calls Try.prog f vs.toArray w (Turns g fp v T' w))
    (hg : hget hp n = some (.pred fp (TabIs g T fp))) (hok : SV.okL args = true) (hv : ∀ ρ, SV.denL ρ args = vs) (hx : ∀ ρ, v = x.den ρ) (hd : dokB C.N d = true) (hK : ∀ fp', kput K ⟨fr, hset hp n (.pred fp' (TabIs g T' fp')), nx⟩ d x) :
    SCall Try.prog C f args d K ⟨fr, hp, nx⟩ :=
  scall_pred (α := Unit) n fp _ (fun _ fp' => TabIs g T' fp') vs (fun _ => x) (fun _ => v) (fun _ => True) hc
    (fun w h => (hcall w h).mono fun e w' ⟨fp', h1, h2, h3⟩ => ⟨(), fp', trivial, h1, h2, h3⟩) (fun _ _ => TabIs.stable) hg hok hv (fun _ ρ => hx ρ) ⟨dOk_of hd, fun _ fp' _ => hK fp'⟩
/-- A new table. -/
theorem tab_new {f : FuncId} {args : List SV} {d : Option Tmp} {K : St → Prop} {T : Nat → One} (vs : List Value)
    (hc : ∀ (v : Array Value) w, (callFunc f v).run Try.prog w = .ok (.enter f v) w) (hcall : ∀ w, Calls Try.prog f vs.toArray w fun e w' => ∃ g fp', e = .returned (ptr g) ∧ TabIs g T fp' w' ∧ Chg [] fp' w w')
    (hok : SV.okL args = true) (hv : ∀ ρ, SV.denL ρ args = vs) (hd : dokB C.N d = true) (hK : ∀ g fp', kput K ⟨fr, (nx, .pred fp' (TabIs g T fp')) :: hp, nx + 1⟩ d (.c (.v (ptr g)))) :
    SCall Try.prog C f args d K ⟨fr, hp, nx⟩ :=
  scall_new (α := Nat) (fun g fp' => TabIs g T fp') vs (fun g => .c (.v (ptr g))) (fun g => ptr g) (fun _ => True) hc
    (fun w => (hcall w).mono fun e w' ⟨g, fp', h1, h2, h3⟩ => ⟨g, fp', trivial, h1, h2, h3⟩) (fun _ _ => TabIs.stable) hok hv (fun _ _ => rfl) ⟨dOk_of hd, fun g fp' _ => hK g fp'⟩
/-- What a transaction has written, told: a list of its own. -/
theorem tab_writes {f : FuncId} {args : List SV} {d : Option Tmp} {K : St → Prop} (n : Nat) {g : Nat} {T : Nat → One} {fp : List Nat} {ws : List Wr} (vs : List Value)
    (hc : ∀ (v : Array Value) w, (callFunc f v).run Try.prog w = .ok (.enter f v) w) (hcall : ∀ w, TabIs g T fp w → Calls Try.prog f vs.toArray w fun e w' => ∃ s, e = .returned (slv s ws.length) ∧ WrAt s ws w' ∧ Below w.heap.size w w' ∧ ∀ b c, s = some (b, c) → w.heap.size ≤ b)
    (hg : hget hp n = some (.pred fp (TabIs g T fp))) (hok : SV.okL args = true) (hv : ∀ ρ, SV.denL ρ args = vs) (hd : dokB C.N d = true)
    (hK0 : ws = [] → kput K ⟨fr, hp, nx⟩ d (.c (.v (.slice none 0 0))))
    (hK1 : ∀ c, ws.length ≤ 8 ∧ ws.length ≤ c ∧ 0 < ws.length → kput K ⟨fr, (nx, .rows 41 4 ws.length c fun j => (wrow ws j).map .v) :: hp, nx + 1⟩ d (.c (.s nx 0 ws.length c))) :
    SCall Try.prog C f args d K ⟨fr, hp, nx⟩ := by
  refine ⟨hok, fun ρ w a hs _ => ⟨fun v w => hc _ w, ?_⟩⟩
  rw [hv ρ]
  refine (hcall w (hs.now.hp _ _ (mem_hget hg)).1).mono fun e w' ⟨s, he, hw, hb, hf⟩ => ⟨_, he, ?_⟩
  have hs' := hs.below hb
  rcases s with _ | ⟨b, c⟩
  · have hws : ws = [] := hw
    refine ⟨_, ρ, hK0 hws, hs'.put (dOk_of hd) fun _ ρ' _ => ?_, by cases d <;> simp [St.put], fun _ _ => rfl⟩
    subst hws; simp [slv, SV.den, CV.den]
  · have hlt := hf b c rfl
    have h1 := hs'.add (.rows 41 4 ws.length c fun j => (wrow ws j).map .v) ⟨b, 0, 4⟩ [b] (fun ρ' hρ hn => hw.2.holds hn (.inl (Nat.le_trans hs.now.keeps.size hlt)) fun i _ => map_v _ _)
      (fun ρ' hn => by simp [Blk.foot, hn]) (fun k hk hm => by
        have := (hs.now.foot_lt hm).1
        simp at hk; omega) (by simp)
    refine ⟨_, _, hK1 c hw.1, h1.put (dOk_of hd) fun _ ρ' hρ' => ?_, by cases d <;> simp [St.put], fun k hk => by simp [envSet, Nat.ne_of_lt hk]⟩
    have := hρ' nx (by simp)
    simp [envSet] at this
    simp [slv, SV.den, CV.den, this]
end
end Go.Proofs.Ytfokingbglkmjaa
