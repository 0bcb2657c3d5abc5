/-
  The document's digest: its table is the chapter's. Conditions: none.
-/
import Derived.Test.YtbdffcgbleiiaaaRSha
namespace Go.Proofs.Ytbdffcgbleiiaaa
open Go.RowKit Go.Sx Go.Sha Go.Pk
set_option linter.unusedVariables false
set_option linter.unusedSimpArgs false

def frF : Nat → Nat → Nat → Nat
  | 0, _, x => x
  | k + 1, p, x => if cab (a64 x (sl64 1 k)) p then frF k p x else frF k p (a64 x (sl64 1 k))
def frn (p : Nat) : Nat := frF 36 p 0 % 4294967296
theorem wShl1 (n : Nat) : IntKind.u64.wrap (1 * 2 ^ n) = ((sl64 1 n : Nat) : Int) := wShl64 1 n
theorem wU32 (x : Nat) : IntKind.u32.wrap (x : Int) = ((x % 4294967296 : Nat) : Int) := by simp [IntKind.wrap, IntKind.bits, IntKind.signed]
section
variable {C : Cx} {fr : List (Nat × SV)} {hp : List (Nat × Blk)} {nx : Nat} {d : Option Tmp} {K : St → Prop}
theorem rcab_s {x p : Nat} (h : dOk C.N d ∧ kput K ⟨fr, hp, nx⟩ d (.c (.v (.bool (cab x p))))) : SCall Try.prog C 149 [.c (c64 x), .c (c64 p)] d K ⟨fr, hp, nx⟩ :=
  scall_pure [.int .u64 (x : Int), .int .u64 (p : Int)] _ (.bool (cab x p)) Try.call149 (rcab_c x p) rfl (fun _ => rfl) (fun _ => rfl) h
theorem rprime_s {n : Nat} (hn : n < 1000) (h : dOk C.N d ∧ kput K ⟨fr, hp, nx⟩ d (.c (.v (.bool (prF 40 n 2))))) : SCall Try.prog C 137 [.c (c64 n)] d K ⟨fr, hp, nx⟩ :=
  scall_pure [.int .u64 (n : Int)] _ (.bool (prF 40 n 2)) Try.call137 (rprime_c n hn) rfl (fun _ => rfl) (fun _ => rfl) h
end
theorem rfrac_c (p : Nat) (w : World) : Calls Try.prog 138 #[.int .u64 (p : Int)] w fun e w' => e = .returned (v32 (frn p)) ∧ Below w.heap.size w w' := by
  refine calls_pure 22 _ Try.func138 rfl Try.ntmps138 Try.results138 [.c (c64 p)] (by simp) (fun _ => rfl) ?_
  simp (disch := omega) only [go_sem, ↓reduceIte, Nat.reduceEqDiff, Nat.reduceLT, Nat.reduceLeDiff, Nat.reduceAdd, Nat.reduceMul, Nat.reduceSub, Nat.reduceDiv, Nat.reduceMod, Int.reduceToNat, Int.reduceLT, Int.reduceLE, Int.reduceAdd, Int.reduceSub, Int.reduceMul, Int.reduceEq, Int.reduceNeg, reduceCtorEq, or_false, false_or, decide_true, decide_false, Int.cast_ofNat_Int, Nat.zero_add, Nat.add_zero, Int.toNat_natCast, Option.isNone_none, Option.isNone_some, Bool.not_true, Bool.not_false, Bool.xor_true, Bool.xor_false, Bool.true_xor, Bool.false_xor, decide_true, decide_false, Bool.and_true, Bool.true_and, Bool.and_false, Bool.false_and, eq_self, ne_eq, not_false_eq_true, not_true_eq_false, true_and, and_true, and_self, wrapI64, wrapu64, wrapu32, wrapu8, ltT, ltF, leT, leF, eqF, eqT, nltT, nleT, neqFn]
  refine sloop (fun q : Nat × Nat => ⟨[(0, .c (c64 p)), (3, .c (c64 q.2)), (4, .c (.v (.int .i64 ((q.1 : Int) - 1))))], [], 0⟩) (fun q => q.1 ≤ 36 ∧ frF q.1 p q.2 = frF 36 p 0) (fun q => q.1) (36, 0) ⟨Nat.le_refl _, rfl⟩ (ent_drop ⟨rfl, rfl, rfl, trivial⟩ trivial (by simp)) (fun q hq => ?_)
  obtain ⟨j, x⟩ := q
  obtain ⟨hj, hx⟩ : j ≤ 36 ∧ frF j p x = frF 36 p 0 := hq
  cases j with
  | zero =>
    have hr : frn p = x % 4294967296 := by unfold frn; rw [← hx]; rfl
    rw [hr]
    simp (disch := omega) only [go_sem, ↓reduceIte, Nat.reduceEqDiff, Nat.reduceLT, Nat.reduceLeDiff, Nat.reduceAdd, Nat.reduceMul, Nat.reduceSub, Nat.reduceDiv, Nat.reduceMod, Int.reduceToNat, Int.reduceLT, Int.reduceLE, Int.reduceAdd, Int.reduceSub, Int.reduceMul, Int.reduceEq, Int.reduceNeg, reduceCtorEq, or_false, false_or, decide_true, decide_false, Int.cast_ofNat_Int, Nat.zero_add, Nat.add_zero, Int.toNat_natCast, Option.isNone_none, Option.isNone_some, Bool.not_true, Bool.not_false, Bool.xor_true, Bool.xor_false, Bool.true_xor, Bool.false_xor, decide_true, decide_false, Bool.and_true, Bool.true_and, Bool.and_false, Bool.false_and, eq_self, ne_eq, not_false_eq_true, not_true_eq_false, true_and, and_true, and_self, wrapI64, wrapu64, wrapu32, wrapu8, ltT, ltF, leT, leF, eqF, eqT, nltT, nleT, neqFn, wU32]
    exact fun ρ a w hs _ => ⟨rfl, hs.grown⟩
  | succ k =>
    have e1 : ((k + 1 : Nat) : Int) - 1 = (k : Int) := by omega
    have hm : min k 64 = k := by omega
    rw [frF] at hx
    simp (disch := omega) only [go_sem, ↓reduceIte, Nat.reduceEqDiff, Nat.reduceLT, Nat.reduceLeDiff, Nat.reduceAdd, Nat.reduceMul, Nat.reduceSub, Nat.reduceDiv, Nat.reduceMod, Int.reduceToNat, Int.reduceLT, Int.reduceLE, Int.reduceAdd, Int.reduceSub, Int.reduceMul, Int.reduceEq, Int.reduceNeg, reduceCtorEq, or_false, false_or, decide_true, decide_false, Int.cast_ofNat_Int, Nat.zero_add, Nat.add_zero, Int.toNat_natCast, Option.isNone_none, Option.isNone_some, Bool.not_true, Bool.not_false, Bool.xor_true, Bool.xor_false, Bool.true_xor, Bool.false_xor, decide_true, decide_false, Bool.and_true, Bool.true_and, Bool.and_false, Bool.false_and, eq_self, ne_eq, not_false_eq_true, not_true_eq_false, true_and, and_true, and_self, wrapI64, wrapu64, wrapu32, wrapu8, ltT, ltF, leT, leF, eqF, eqT, nltT, nleT, neqFn, e1, wShl1, hm, wAdd64]
    refine rcab_s ?_
    cases hc : cab (a64 x (sl64 1 k)) p
    · rw [hc, if_neg (by simp)] at hx
      simp (disch := omega) only [go_sem, ↓reduceIte, Nat.reduceEqDiff, Nat.reduceLT, Nat.reduceLeDiff, Nat.reduceAdd, Nat.reduceMul, Nat.reduceSub, Nat.reduceDiv, Nat.reduceMod, Int.reduceToNat, Int.reduceLT, Int.reduceLE, Int.reduceAdd, Int.reduceSub, Int.reduceMul, Int.reduceEq, Int.reduceNeg, reduceCtorEq, or_false, false_or, decide_true, decide_false, Int.cast_ofNat_Int, Nat.zero_add, Nat.add_zero, Int.toNat_natCast, Option.isNone_none, Option.isNone_some, Bool.not_true, Bool.not_false, Bool.xor_true, Bool.xor_false, Bool.true_xor, Bool.false_xor, decide_true, decide_false, Bool.and_true, Bool.true_and, Bool.and_false, Bool.false_and, eq_self, ne_eq, not_false_eq_true, not_true_eq_false, true_and, and_true, and_self, wrapI64, wrapu64, wrapu32, wrapu8, ltT, ltF, leT, leF, eqF, eqT, nltT, nleT, neqFn, e1, wShl1, hm, wAdd64]
      exact ⟨(k, a64 x (sl64 1 k)), ⟨by show k ≤ 36; omega, hx⟩, Nat.lt_succ_self _, ent_drop ⟨rfl, rfl, rfl, trivial⟩ trivial (by simp)⟩
    · rw [hc, if_pos rfl] at hx
      simp (disch := omega) only [go_sem, ↓reduceIte, Nat.reduceEqDiff, Nat.reduceLT, Nat.reduceLeDiff, Nat.reduceAdd, Nat.reduceMul, Nat.reduceSub, Nat.reduceDiv, Nat.reduceMod, Int.reduceToNat, Int.reduceLT, Int.reduceLE, Int.reduceAdd, Int.reduceSub, Int.reduceMul, Int.reduceEq, Int.reduceNeg, reduceCtorEq, or_false, false_or, decide_true, decide_false, Int.cast_ofNat_Int, Nat.zero_add, Nat.add_zero, Int.toNat_natCast, Option.isNone_none, Option.isNone_some, Bool.not_true, Bool.not_false, Bool.xor_true, Bool.xor_false, Bool.true_xor, Bool.false_xor, decide_true, decide_false, Bool.and_true, Bool.true_and, Bool.and_false, Bool.false_and, eq_self, ne_eq, not_false_eq_true, not_true_eq_false, true_and, and_true, and_self, wrapI64, wrapu64, wrapu32, wrapu8, ltT, ltF, leT, leF, eqF, eqT, nltT, nleT, neqFn, e1]
      exact ⟨(k, x), ⟨by show k ≤ 36; omega, hx⟩, Nat.lt_succ_self _, ent_drop ⟨rfl, rfl, rfl, trivial⟩ trivial (by simp)⟩
theorem rfrac_s {C : Cx} {fr : List (Nat × SV)} {hp : List (Nat × Blk)} {nx : Nat} {d : Option Tmp} {K : St → Prop} {n : Nat} (h : dOk C.N d ∧ kput K ⟨fr, hp, nx⟩ d (.c (c32 (frn n)))) : SCall Try.prog C 138 [.c (c64 n)] d K ⟨fr, hp, nx⟩ :=
  scall_pure [.int .u64 (n : Int)] _ (v32 (frn n)) Try.call138 (rfrac_c n) rfl (fun _ => rfl) (fun _ => rfl) h
/-- The primes, behind 1. -/
def prs : List Nat := [1, 2, 3, 5, 7, 11, 13, 17, 19, 23, 29, 31, 37, 41, 43, 47, 53, 59, 61, 67, 71, 73, 79, 83, 89, 97, 101, 103, 107, 109, 113, 127, 131, 137, 139, 149, 151, 157, 163, 167, 173, 179, 181, 191, 193, 197, 199, 211, 223, 227, 229, 233, 239, 241, 251, 257, 263, 269, 271, 277, 281, 283, 293, 307, 311]
def pP (i : Nat) : Nat := prs.getD i 0
set_option maxRecDepth 100000 in
theorem pP_ok : ∀ i, i < 64 → (pP i < pP (i + 1) ∧ pP (i + 1) ≤ 311) ∧ prF 40 (pP (i + 1)) 2 = true ∧ ∀ q, q < 312 → pP i < q → q < pP (i + 1) → prF 40 q 2 = false := by decide +kernel
set_option maxRecDepth 100000 in
theorem frn_keys : ∀ i, i < 64 → frn (pP (i + 1)) = kf i := by decide +kernel
def tbF (i j : Nat) : Nat := if j < i then frn (pP (j + 1)) else 0
theorem rupd_tb (i : Nat) : rupd (fun j => [c32 (tbF i j)]) i [c32 (frn (pP (i + 1)))] = fun j => [c32 (tbF (i + 1) j)] := by
  funext j
  unfold rupd tbF
  by_cases h : j = i
  · subst h; rw [if_pos rfl, if_pos (by omega)]
  · rw [if_neg h]
    show [c32 (if j < i then _ else 0)] = _
    by_cases h1 : j < i
    · rw [if_pos h1, if_pos (by omega)]
    · rw [if_neg h1, if_neg (by omega)]
theorem tb_rows : rowsL (fun j => [c32 (tbF 64 j)]) 64 = keys.map c32 := by
  have h : ∀ n, n ≤ 64 → (List.range n).flatMap (fun j => [c32 (tbF 64 j)]) = (keys.take n).map c32 := fun n => by
    induction n with
    | zero => intro _; rfl
    | succ n ih =>
      intro hn
      have hk : n < keys.length := hn
      rw [List.range_succ, List.flatMap_append, ih (by omega), List.take_add_one, List.getElem?_eq_getElem hk, List.map_append]
      congr 1
      show [c32 (tbF 64 n)] ++ [] = [c32 _]
      unfold tbF
      rw [if_pos (by omega), frn_keys n (by omega)]
      unfold kf
      rw [List.getD_eq_getElem?_getD, List.getElem?_eq_getElem hk]; rfl
  exact h 64 (Nat.le_refl _)
set_option maxHeartbeats 4000000 in
set_option maxRecDepth 100000 in
theorem rtable_c (w : World) : Calls Try.prog 115 #[] w fun e w' => e = .returned (.agg (keys.map v32).toArray) ∧ Below w.heap.size w w' := by
  refine calls_pure 20 _ Try.func115 rfl Try.ntmps115 Try.results115 [] (by simp) (fun _ => rfl) ?_
  simp (disch := omega) only [go_sem, ↓reduceIte, Nat.reduceEqDiff, Nat.reduceLT, Nat.reduceLeDiff, Nat.reduceAdd, Nat.reduceMul, Nat.reduceSub, Nat.reduceDiv, Nat.reduceMod, Int.reduceToNat, Int.reduceLT, Int.reduceLE, Int.reduceAdd, Int.reduceSub, Int.reduceMul, Int.reduceEq, Int.reduceNeg, reduceCtorEq, or_false, false_or, decide_true, decide_false, Int.cast_ofNat_Int, Nat.zero_add, Nat.add_zero, Int.toNat_natCast, Option.isNone_none, Option.isNone_some, Bool.not_true, Bool.not_false, Bool.xor_true, Bool.xor_false, Bool.true_xor, Bool.false_xor, decide_true, decide_false, Bool.and_true, Bool.true_and, Bool.and_false, Bool.false_and, eq_self, ne_eq, not_false_eq_true, not_true_eq_false, true_and, and_true, and_self, wrapI64, wrapu64, wrapu32, wrapu8, ltT, ltF, leT, leF, eqF, eqT, nltT, nleT, neqFn]
  refine sloop (fun i : Nat => ⟨[(3, .c (.v (.int .i64 (i : Int)))), (2, .c (c64 (pP i))), (1, .c (.p 1 0 0)), (0, .c (.p 0 0 0))], [(1, .rows 187 1 64 64 fun j => [c32 (tbF i j)]), (0, .cells 187 (List.replicate 64 (c32 0)))], 2⟩) (fun i => i ≤ 64) (fun i => 64 - i) 0 (Nat.zero_le _)
    (Ent.trans (ent_cells_rows (m := 64) (r := fun j => [c32 (tbF 0 j)]) 1 rfl rfl (fun j hj => ⟨rfl, ?_⟩)) (ent_drop ⟨rfl, rfl, rfl, rfl, trivial⟩ ⟨rfl, rfl, trivial⟩ (by simp))) (fun i hi => ?_)
  · have e : ∀ cs : List CV, cs = List.replicate 64 (c32 0) → [c32 (tbF 0 j)][0]? = cs[j]? := fun cs h => by
      rw [h, List.getElem?_replicate, if_pos hj]; rfl
    exact e _ rfl
  have hi : i ≤ 64 := hi
  by_cases hil : i < 64
  · obtain ⟨⟨p1, p2⟩, p3, p4⟩ := pP_ok i hil
    have ha : (pP i : Int) + 1 = ((pP i + 1 : Nat) : Int) := by omega
    simp (disch := omega) only [go_sem, ↓reduceIte, Nat.reduceEqDiff, Nat.reduceLT, Nat.reduceLeDiff, Nat.reduceAdd, Nat.reduceMul, Nat.reduceSub, Nat.reduceDiv, Nat.reduceMod, Int.reduceToNat, Int.reduceLT, Int.reduceLE, Int.reduceAdd, Int.reduceSub, Int.reduceMul, Int.reduceEq, Int.reduceNeg, reduceCtorEq, or_false, false_or, decide_true, decide_false, Int.cast_ofNat_Int, Nat.zero_add, Nat.add_zero, Int.toNat_natCast, Option.isNone_none, Option.isNone_some, Bool.not_true, Bool.not_false, Bool.xor_true, Bool.xor_false, Bool.true_xor, Bool.false_xor, decide_true, decide_false, Bool.and_true, Bool.true_and, Bool.and_false, Bool.false_and, eq_self, ne_eq, not_false_eq_true, not_true_eq_false, true_and, and_true, and_self, wrapI64, wrapu64, wrapu32, wrapu8, ltT, ltF, leT, leF, eqF, eqT, nltT, nleT, neqFn, ha]
    refine sloop (fun q : Nat => ⟨[(3, .c (.v (.int .i64 (i : Int)))), (2, .c (c64 q)), (1, .c (.p 1 0 0)), (0, .c (.p 0 0 0))], [(1, .rows 187 1 64 64 fun j => [c32 (tbF i j)]), (0, .cells 187 (List.replicate 64 (c32 0)))], 2⟩) (fun q => pP i < q ∧ q ≤ pP (i + 1)) (fun q => 312 - q) (pP i + 1) ⟨Nat.lt_succ_self _, p1⟩ (ent_drop ⟨rfl, rfl, rfl, rfl, trivial⟩ ⟨rfl, rfl, trivial⟩ (by simp)) (fun q hq => ?_)
    obtain ⟨q1, q2⟩ : pP i < q ∧ q ≤ pP (i + 1) := hq
    have hb : (q : Int) + 1 = ((q + 1 : Nat) : Int) := by omega
    simp (disch := omega) only [go_sem, ↓reduceIte, Nat.reduceEqDiff, Nat.reduceLT, Nat.reduceLeDiff, Nat.reduceAdd, Nat.reduceMul, Nat.reduceSub, Nat.reduceDiv, Nat.reduceMod, Int.reduceToNat, Int.reduceLT, Int.reduceLE, Int.reduceAdd, Int.reduceSub, Int.reduceMul, Int.reduceEq, Int.reduceNeg, reduceCtorEq, or_false, false_or, decide_true, decide_false, Int.cast_ofNat_Int, Nat.zero_add, Nat.add_zero, Int.toNat_natCast, Option.isNone_none, Option.isNone_some, Bool.not_true, Bool.not_false, Bool.xor_true, Bool.xor_false, Bool.true_xor, Bool.false_xor, decide_true, decide_false, Bool.and_true, Bool.true_and, Bool.and_false, Bool.false_and, eq_self, ne_eq, not_false_eq_true, not_true_eq_false, true_and, and_true, and_self, wrapI64, wrapu64, wrapu32, wrapu8, ltT, ltF, leT, leF, eqF, eqT, nltT, nleT, neqFn]
    refine rprime_s (by omega) ?_
    by_cases hqe : q = pP (i + 1)
    · rw [hqe, p3]
      simp (disch := omega) only [go_sem, ↓reduceIte, Nat.reduceEqDiff, Nat.reduceLT, Nat.reduceLeDiff, Nat.reduceAdd, Nat.reduceMul, Nat.reduceSub, Nat.reduceDiv, Nat.reduceMod, Int.reduceToNat, Int.reduceLT, Int.reduceLE, Int.reduceAdd, Int.reduceSub, Int.reduceMul, Int.reduceEq, Int.reduceNeg, reduceCtorEq, or_false, false_or, decide_true, decide_false, Int.cast_ofNat_Int, Nat.zero_add, Nat.add_zero, Int.toNat_natCast, Option.isNone_none, Option.isNone_some, Bool.not_true, Bool.not_false, Bool.xor_true, Bool.xor_false, Bool.true_xor, Bool.false_xor, decide_true, decide_false, Bool.and_true, Bool.true_and, Bool.and_false, Bool.false_and, eq_self, ne_eq, not_false_eq_true, not_true_eq_false, true_and, and_true, and_self, wrapI64, wrapu64, wrapu32, wrapu8, ltT, ltF, leT, leF, eqF, eqT, nltT, nleT, neqFn]
      refine rfrac_s ?_
      simp (disch := omega) only [go_sem, ↓reduceIte, Nat.reduceEqDiff, Nat.reduceLT, Nat.reduceLeDiff, Nat.reduceAdd, Nat.reduceMul, Nat.reduceSub, Nat.reduceDiv, Nat.reduceMod, Int.reduceToNat, Int.reduceLT, Int.reduceLE, Int.reduceAdd, Int.reduceSub, Int.reduceMul, Int.reduceEq, Int.reduceNeg, reduceCtorEq, or_false, false_or, decide_true, decide_false, Int.cast_ofNat_Int, Nat.zero_add, Nat.add_zero, Int.toNat_natCast, Option.isNone_none, Option.isNone_some, Bool.not_true, Bool.not_false, Bool.xor_true, Bool.xor_false, Bool.true_xor, Bool.false_xor, decide_true, decide_false, Bool.and_true, Bool.true_and, Bool.and_false, Bool.false_and, eq_self, ne_eq, not_false_eq_true, not_true_eq_false, true_and, and_true, and_self, wrapI64, wrapu64, wrapu32, wrapu8, ltT, ltF, leT, leF, eqF, eqT, nltT, nleT, neqFn]
      exact ⟨i + 1, hil, by omega, ent_drop ⟨rfl, rfl, rfl, rfl, trivial⟩ ⟨congrArg (fun r => some (Blk.rows 187 1 64 64 r)) (rupd_tb i), rfl, trivial⟩ (by simp)⟩
    · rw [p4 q (by omega) q1 (by omega)]
      simp (disch := omega) only [go_sem, ↓reduceIte, Nat.reduceEqDiff, Nat.reduceLT, Nat.reduceLeDiff, Nat.reduceAdd, Nat.reduceMul, Nat.reduceSub, Nat.reduceDiv, Nat.reduceMod, Int.reduceToNat, Int.reduceLT, Int.reduceLE, Int.reduceAdd, Int.reduceSub, Int.reduceMul, Int.reduceEq, Int.reduceNeg, reduceCtorEq, or_false, false_or, decide_true, decide_false, Int.cast_ofNat_Int, Nat.zero_add, Nat.add_zero, Int.toNat_natCast, Option.isNone_none, Option.isNone_some, Bool.not_true, Bool.not_false, Bool.xor_true, Bool.xor_false, Bool.true_xor, Bool.false_xor, decide_true, decide_false, Bool.and_true, Bool.true_and, Bool.and_false, Bool.false_and, eq_self, ne_eq, not_false_eq_true, not_true_eq_false, true_and, and_true, and_self, wrapI64, wrapu64, wrapu32, wrapu8, ltT, ltF, leT, leF, eqF, eqT, nltT, nleT, neqFn, hb]
      exact ⟨q + 1, ⟨by omega, by omega⟩, by omega, ent_drop ⟨rfl, rfl, rfl, rfl, trivial⟩ ⟨rfl, rfl, trivial⟩ (by simp)⟩
  · have : i = 64 := by omega
    subst this
    simp (disch := omega) only [go_sem, ↓reduceIte, Nat.reduceEqDiff, Nat.reduceLT, Nat.reduceLeDiff, Nat.reduceAdd, Nat.reduceMul, Nat.reduceSub, Nat.reduceDiv, Nat.reduceMod, Int.reduceToNat, Int.reduceLT, Int.reduceLE, Int.reduceAdd, Int.reduceSub, Int.reduceMul, Int.reduceEq, Int.reduceNeg, reduceCtorEq, or_false, false_or, decide_true, decide_false, Int.cast_ofNat_Int, Nat.zero_add, Nat.add_zero, Int.toNat_natCast, Option.isNone_none, Option.isNone_some, Bool.not_true, Bool.not_false, Bool.xor_true, Bool.xor_false, Bool.true_xor, Bool.false_xor, decide_true, decide_false, Bool.and_true, Bool.true_and, Bool.and_false, Bool.false_and, eq_self, ne_eq, not_false_eq_true, not_true_eq_false, true_and, and_true, and_self, wrapI64, wrapu64, wrapu32, wrapu8, ltT, ltF, leT, leF, eqF, eqT, nltT, nleT, neqFn, tb_rows, implies_true, klen, kall]
    refine wO_of (y := keys.map c32) (by kernel_rfl) ?_
    refine wO_of (y := keys.map c32) (by kernel_rfl) ?_
    refine fun ρ a w hs _ => ⟨?_, hs.grown⟩
    show Ending.returned (.agg (CV.denL ρ (keys.map c32)).toArray) = _
    rw [CV.denL_eq, List.map_map]; rfl
end Go.Proofs.Ytbdffcgbleiiaaa
