/-
  The digest: a block. Conditions: none.
-/
import Derived.Test.YtbdffcgbleiiaaaSha
import Derived.Test.YtbdffcgbleiiaaaSx17
namespace Go.Proofs.Ytbdffcgbleiiaaa
open Go.RowKit Go.Sx Go.Sha
set_option linter.unusedVariables false
set_option linter.unusedSimpArgs false

def pwf (l : List Nat) : Nat → Nat → Nat
  | 0, _ => 0
  | k + 1, i => if i = k / 4 then bw (pwf l k i) (l.getD k 0) else pwf l k i
def ws (l : List Nat) (k i : Nat) : Nat := if i < 16 + k then wk l k i else 0
theorem rupd_pwf {l : List Nat} {k x : Nat} (hx : l[k]? = some x) : rupd (fun i => [c32 (pwf l k i)]) (k / 4) [c32 (og (sl (pwf l k (k / 4)) 8) x)] = fun i => [c32 (pwf l (k + 1) i)] := by
  funext i
  have : l.getD k 0 = x := by simp [List.getD_eq_getElem?_getD, hx]
  unfold rupd
  by_cases h : i = k / 4
  · subst h; rw [if_pos rfl, pwf, if_pos rfl, this]; rfl
  · rw [if_neg h, pwf, if_neg h]
theorem pwf_hi {l : List Nat} {i : Nat} (hi : 16 ≤ i) : ∀ k, k ≤ 64 → pwf l k i = 0
  | 0, _ => rfl
  | k + 1, h => by rw [pwf, if_neg (by omega), pwf_hi hi k (by omega)]
set_option maxRecDepth 100000 in
theorem pwf_ws (l : List Nat) (i : Nat) : pwf l 64 i = ws l 0 i := by
  by_cases h : i < 16
  · unfold ws
    rw [if_pos (by omega)]
    match i, h with
    | 0, _ => rfl
    | 1, _ => rfl
    | 2, _ => rfl
    | 3, _ => rfl
    | 4, _ => rfl
    | 5, _ => rfl
    | 6, _ => rfl
    | 7, _ => rfl
    | 8, _ => rfl
    | 9, _ => rfl
    | 10, _ => rfl
    | 11, _ => rfl
    | 12, _ => rfl
    | 13, _ => rfl
    | 14, _ => rfl
    | 15, _ => rfl
    | n + 16, h => exact absurd h (by omega)
  · unfold ws
    rw [if_neg (by omega), pwf_hi (by omega) 64 (by omega)]
theorem rupd_ws {l : List Nat} {k : Nat} (hk : k < 48) : rupd (fun i => [c32 (ws l k i)]) (16 + k) [c32 (nw (ws l k k) (ws l k (k + 1)) (ws l k (k + 9)) (ws l k (k + 14)))] = fun i => [c32 (ws l (k + 1) i)] := by
  funext i
  unfold rupd
  by_cases h : i = 16 + k
  · subst h
    rw [if_pos rfl]
    unfold ws
    rw [if_pos (by omega), if_pos (by omega), if_pos (by omega), if_pos (by omega), if_pos (by omega)]
    unfold wk
    rw [sch, show 15 + (k + 1) - (16 + k) = 0 by omega, show 15 + k - k = 15 by omega, show 15 + k - (k + 1) = 14 by omega, show 15 + k - (k + 9) = 6 by omega, show 15 + k - (k + 14) = 1 by omega, List.getD_cons_zero]
  · rw [if_neg h]
    unfold ws
    show [c32 (if i < 16 + k then wk l k i else 0)] = [c32 (if i < 16 + (k + 1) then wk l (k + 1) i else 0)]
    by_cases h1 : i < 16 + k
    · rw [if_pos h1, if_pos (by omega)]
      unfold wk
      rw [sch, show 15 + (k + 1) - i = (15 + k - i) + 1 by omega, List.getD_cons_succ]
    · rw [if_neg h1, if_neg (by omega)]
theorem m8 : min 8 32 = 8 := rfl
theorem m3 : min 3 32 = 3 := rfl
theorem m10 : min 10 32 = 10 := rfl
theorem bNot2 (a : Nat) : ibit .xor .u32 (if IntKind.u32.signed = true then -1 else IntKind.u32.max) (a : Int) = ((xo 4294967295 a : Nat) : Int) := bXor 4294967295 a
theorem tdiv4 (k : Nat) : ((k : Int)).tdiv 4 = ((k / 4 : Nat) : Int) := rfl
theorem S8.cs_all (s : S8) : (S8.cs s).all one1 = true := rfl
set_option maxHeartbeats 4000000 in
set_option maxRecDepth 100000 in
theorem block_c (s : S8) (b : ByteArray) (hb : b.size = 64) (w : World) : Calls Try.prog 112 #[.agg (S8.vs s).toArray, .string b] w fun e w' => e = .returned (.tuple #[.agg (S8.vs (cmp s (bl b))).toArray, .bool true]) ∧ Below w.heap.size w w' := by
  refine calls_pure 192 _ Try.func112 rfl Try.ntmps112 Try.results112 [.agg (S8.cs s), .c (.v (.string b))] (by simp) (fun _ => rfl) ?_
  unfold S8.cs
  have hbl : (bl b).length = 64 := by rw [bl_len, hb]
  simp only [go_sem, ↓reduceIte, Nat.reduceEqDiff, Nat.reduceLT, Nat.reduceLeDiff, Nat.reduceAdd, Nat.reduceMul, Nat.reduceSub, Nat.reduceDiv, Nat.reduceMod, Int.reduceToNat, Int.reduceLT, Int.reduceLE, Int.reduceAdd, Int.reduceSub, Int.reduceMul, Int.reduceEq, Int.reduceNeg, reduceCtorEq, or_false, false_or, decide_true, decide_false, Int.cast_ofNat_Int, Nat.zero_add, Nat.add_zero, Int.toNat_natCast, Option.isNone_none, Option.isNone_some, Bool.not_true, Bool.not_false, Bool.xor_true, Bool.xor_false, Bool.true_xor, Bool.false_xor, decide_true, decide_false, Bool.and_true, Bool.true_and, Bool.and_false, Bool.false_and, eq_self, ne_eq, not_false_eq_true, not_true_eq_false, true_and, and_true, and_self, hb]
  refine sbytes2 rfl tkind9 tkind110 tint5 ⟨by show (31 : Nat) < 192; omega, fun c' hc' => ?_⟩
  simp only [go_sem, ↓reduceIte, Nat.reduceEqDiff, Nat.reduceLT, Nat.reduceLeDiff, Nat.reduceAdd, Nat.reduceMul, Nat.reduceSub, Nat.reduceDiv, Nat.reduceMod, Int.reduceToNat, Int.reduceLT, Int.reduceLE, Int.reduceAdd, Int.reduceSub, Int.reduceMul, Int.reduceEq, Int.reduceNeg, reduceCtorEq, or_false, false_or, decide_true, decide_false, Int.cast_ofNat_Int, Nat.zero_add, Nat.add_zero, Int.toNat_natCast, Option.isNone_none, Option.isNone_some, Bool.not_true, Bool.not_false, Bool.xor_true, Bool.xor_false, Bool.true_xor, Bool.false_xor, decide_true, decide_false, Bool.and_true, Bool.true_and, Bool.and_false, Bool.false_and, eq_self, ne_eq, not_false_eq_true, not_true_eq_false, true_and, and_true, and_self, hb]
  refine sloop (fun k : Nat => ⟨[(33, .c (.v (.int .i64 k))), (32, .c (.v (.int .i64 64))), (31, .c (.s 3 0 64 c')), (6, .c (.p 2 0 0)), (4, .c (.p 1 0 0)), (2, .c (.p 0 0 0))], [(3, .rows 5 1 64 c' (brL (bl b))), (2, .rows 187 1 64 64 fun i => [c32 (pwf (bl b) k i)]), (1, .cells 181 [c32 0, c32 0, c32 0, c32 0, c32 0, c32 0, c32 0, c32 0]), (0, .cells 181 [c32 s.a, c32 s.b, c32 s.c, c32 s.d, c32 s.e, c32 s.f, c32 s.g, c32 s.h])], 4⟩) (fun k => k ≤ 64) (fun k => 64 - k) 0 (Nat.zero_le _)
    (Ent.trans (ent_cells_rows (m := 64) (r := fun i => [c32 (pwf (bl b) 0 i)]) 2 rfl rfl (fun i hi => ⟨rfl, ?_⟩)) (ent_drop ⟨rfl, rfl, rfl, rfl, rfl, rfl, trivial⟩ ⟨rfl, rfl, rfl, rfl, trivial⟩ (by simp))) (fun k hk => ?_)
  · have e : ∀ cs : List CV, cs = List.replicate 64 (c32 0) → [c32 (pwf (bl b) 0 i)][0]? = cs[i]? := fun cs h => by
      rw [h, List.getElem?_replicate, if_pos hi]; rfl
    exact e _ rfl
  · have hk : k ≤ 64 := hk
    by_cases hkl : k < 64
    · obtain ⟨x, hx⟩ : ∃ x, (bl b)[k]? = some x := ⟨_, List.getElem?_eq_getElem (by omega)⟩
      have hrow := brL_get hx
      have hx256 := bl_lt b x (List.mem_of_getElem? hx)
      have hup := rupd_pwf hx
      have hq : k / 4 < 64 := by omega
      simp (disch := omega) only [go_sem, ↓reduceIte, Nat.reduceEqDiff, Nat.reduceLT, Nat.reduceLeDiff, Nat.reduceAdd, Nat.reduceMul, Nat.reduceSub, Nat.reduceDiv, Nat.reduceMod, Int.reduceToNat, Int.reduceLT, Int.reduceLE, Int.reduceAdd, Int.reduceSub, Int.reduceMul, Int.reduceEq, Int.reduceNeg, reduceCtorEq, or_false, false_or, decide_true, decide_false, Int.cast_ofNat_Int, Nat.zero_add, Nat.add_zero, Int.toNat_natCast, Option.isNone_none, Option.isNone_some, Bool.not_true, Bool.not_false, Bool.xor_true, Bool.xor_false, Bool.true_xor, Bool.false_xor, decide_true, decide_false, Bool.and_true, Bool.true_and, Bool.and_false, Bool.false_and, eq_self, ne_eq, not_false_eq_true, not_true_eq_false, true_and, and_true, and_self, wrapI64, wrapu64, wrapu32, wrapu8, ltT, ltF, leT, leF, eqF, eqT, nltT, nleT, neqFn, tdiv4, hrow, wShl, bOr, m8]
      rw [hup]
      exact ⟨k + 1, hkl, by omega, ent_drop ⟨rfl, rfl, rfl, rfl, rfl, rfl, trivial⟩ ⟨rfl, rfl, rfl, rfl, trivial⟩ (by simp)⟩
    · have : k = 64 := by omega
      subst this
      have hpw : (fun i => [c32 (pwf (bl b) 64 i)]) = fun i => [c32 (ws (bl b) 0 i)] := funext fun i => by rw [pwf_ws]
      rw [hpw]
      simp (disch := omega) only [go_sem, ↓reduceIte, Nat.reduceEqDiff, Nat.reduceLT, Nat.reduceLeDiff, Nat.reduceAdd, Nat.reduceMul, Nat.reduceSub, Nat.reduceDiv, Nat.reduceMod, Int.reduceToNat, Int.reduceLT, Int.reduceLE, Int.reduceAdd, Int.reduceSub, Int.reduceMul, Int.reduceEq, Int.reduceNeg, reduceCtorEq, or_false, false_or, decide_true, decide_false, Int.cast_ofNat_Int, Nat.zero_add, Nat.add_zero, Int.toNat_natCast, Option.isNone_none, Option.isNone_some, Bool.not_true, Bool.not_false, Bool.xor_true, Bool.xor_false, Bool.true_xor, Bool.false_xor, decide_true, decide_false, Bool.and_true, Bool.true_and, Bool.and_false, Bool.false_and, eq_self, ne_eq, not_false_eq_true, not_true_eq_false, true_and, and_true, and_self, wrapI64, wrapu64, wrapu32, wrapu8, ltT, ltF, leT, leF, eqF, eqT, nltT, nleT, neqFn]
      refine sloop (fun k : Nat => ⟨[(9, .c (.v (.int .i64 ((16 + k : Nat) : Int)))), (6, .c (.p 2 0 0)), (4, .c (.p 1 0 0)), (2, .c (.p 0 0 0))], [(2, .rows 187 1 64 64 fun i => [c32 (ws (bl b) k i)]), (1, .cells 181 [c32 0, c32 0, c32 0, c32 0, c32 0, c32 0, c32 0, c32 0]), (0, .cells 181 [c32 s.a, c32 s.b, c32 s.c, c32 s.d, c32 s.e, c32 s.f, c32 s.g, c32 s.h])], 4⟩) (fun k => k ≤ 48) (fun k => 48 - k) 0 (Nat.zero_le _) (ent_drop ⟨rfl, rfl, rfl, rfl, trivial⟩ ⟨rfl, rfl, rfl, trivial⟩ (by simp)) (fun k hk => ?_)
      have hk : k ≤ 48 := hk
      by_cases hkl : k < 48
      · have a15 : ((16 + k : Nat) : Int) - 15 = ((k + 1 : Nat) : Int) := by omega
        have a2 : ((16 + k : Nat) : Int) - 2 = ((k + 14 : Nat) : Int) := by omega
        have a16 : ((16 + k : Nat) : Int) - 16 = (k : Int) := by omega
        have a7 : ((16 + k : Nat) : Int) - 7 = ((k + 9 : Nat) : Int) := by omega
        have a1 : ((16 + k : Nat) : Int) + 1 = ((16 + (k + 1) : Nat) : Int) := by omega
        have hup := rupd_ws (l := bl b) hkl
        simp (disch := omega) only [go_sem, ↓reduceIte, Nat.reduceEqDiff, Nat.reduceLT, Nat.reduceLeDiff, Nat.reduceAdd, Nat.reduceMul, Nat.reduceSub, Nat.reduceDiv, Nat.reduceMod, Int.reduceToNat, Int.reduceLT, Int.reduceLE, Int.reduceAdd, Int.reduceSub, Int.reduceMul, Int.reduceEq, Int.reduceNeg, reduceCtorEq, or_false, false_or, decide_true, decide_false, Int.cast_ofNat_Int, Nat.zero_add, Nat.add_zero, Int.toNat_natCast, Option.isNone_none, Option.isNone_some, Bool.not_true, Bool.not_false, Bool.xor_true, Bool.xor_false, Bool.true_xor, Bool.false_xor, decide_true, decide_false, Bool.and_true, Bool.true_and, Bool.and_false, Bool.false_and, eq_self, ne_eq, not_false_eq_true, not_true_eq_false, true_and, and_true, and_self, wrapI64, wrapu64, wrapu32, wrapu8, ltT, ltF, leT, leF, eqF, eqT, nltT, nleT, neqFn]
        refine sdraw [.t 0, .t 1, .t 2, .t 3, .t 4, .t 5, .t 6, .t 7, .t 8, .t 9] 10 [(2, _)] rfl (by kernel_rfl) ⟨rfl, trivial⟩ ?_
        simp (disch := omega) only [go_sem, ↓reduceIte, Nat.reduceEqDiff, Nat.reduceLT, Nat.reduceLeDiff, Nat.reduceAdd, Nat.reduceMul, Nat.reduceSub, Nat.reduceDiv, Nat.reduceMod, Int.reduceToNat, Int.reduceLT, Int.reduceLE, Int.reduceAdd, Int.reduceSub, Int.reduceMul, Int.reduceEq, Int.reduceNeg, reduceCtorEq, or_false, false_or, decide_true, decide_false, Int.cast_ofNat_Int, Nat.zero_add, Nat.add_zero, Int.toNat_natCast, Option.isNone_none, Option.isNone_some, Bool.not_true, Bool.not_false, Bool.xor_true, Bool.xor_false, Bool.true_xor, Bool.false_xor, decide_true, decide_false, Bool.and_true, Bool.true_and, Bool.and_false, Bool.false_and, eq_self, ne_eq, not_false_eq_true, not_true_eq_false, true_and, and_true, and_self, wrapI64, wrapu64, wrapu32, wrapu8, ltT, ltF, leT, leF, eqF, eqT, nltT, nleT, neqFn, a15, a2]
        refine sdraw [.t 0, .t 1, .t 2, .t 3, .t 4, .t 5, .t 7, .t 10, .t 11, .t 14, .t 15, .t 16, .t 17, .t 19, .t 21, .t 24, .t 25, .r 6, .r 8, .t 9, .t 12, .t 13, .t 18, .r 20, .r 22, .t 23, .t 26, .t 27, .t 28, .r 29] 29 [(2, _)] rfl (by kernel_rfl) ⟨rfl, trivial⟩ ?_
        simp (disch := omega) only [go_sem, ↓reduceIte, Nat.reduceEqDiff, Nat.reduceLT, Nat.reduceLeDiff, Nat.reduceAdd, Nat.reduceMul, Nat.reduceSub, Nat.reduceDiv, Nat.reduceMod, Int.reduceToNat, Int.reduceLT, Int.reduceLE, Int.reduceAdd, Int.reduceSub, Int.reduceMul, Int.reduceEq, Int.reduceNeg, reduceCtorEq, or_false, false_or, decide_true, decide_false, Int.cast_ofNat_Int, Nat.zero_add, Nat.add_zero, Int.toNat_natCast, Option.isNone_none, Option.isNone_some, Bool.not_true, Bool.not_false, Bool.xor_true, Bool.xor_false, Bool.true_xor, Bool.false_xor, decide_true, decide_false, Bool.and_true, Bool.true_and, Bool.and_false, Bool.false_and, eq_self, ne_eq, not_false_eq_true, not_true_eq_false, true_and, and_true, and_self, wrapI64, wrapu64, wrapu32, wrapu8, ltT, ltF, leT, leF, eqF, eqT, nltT, nleT, neqFn, a16, a7]
        refine right_s 7 rfl (by omega) ?_
        simp (disch := omega) only [go_sem, ↓reduceIte, Nat.reduceEqDiff, Nat.reduceLT, Nat.reduceLeDiff, Nat.reduceAdd, Nat.reduceMul, Nat.reduceSub, Nat.reduceDiv, Nat.reduceMod, Int.reduceToNat, Int.reduceLT, Int.reduceLE, Int.reduceAdd, Int.reduceSub, Int.reduceMul, Int.reduceEq, Int.reduceNeg, reduceCtorEq, or_false, false_or, decide_true, decide_false, Int.cast_ofNat_Int, Nat.zero_add, Nat.add_zero, Int.toNat_natCast, Option.isNone_none, Option.isNone_some, Bool.not_true, Bool.not_false, Bool.xor_true, Bool.xor_false, Bool.true_xor, Bool.false_xor, decide_true, decide_false, Bool.and_true, Bool.true_and, Bool.and_false, Bool.false_and, eq_self, ne_eq, not_false_eq_true, not_true_eq_false, true_and, and_true, and_self, wrapI64, wrapu64, wrapu32, wrapu8, ltT, ltF, leT, leF, eqF, eqT, nltT, nleT, neqFn]
        refine right_s 18 rfl (by omega) ?_
        simp (disch := omega) only [go_sem, ↓reduceIte, Nat.reduceEqDiff, Nat.reduceLT, Nat.reduceLeDiff, Nat.reduceAdd, Nat.reduceMul, Nat.reduceSub, Nat.reduceDiv, Nat.reduceMod, Int.reduceToNat, Int.reduceLT, Int.reduceLE, Int.reduceAdd, Int.reduceSub, Int.reduceMul, Int.reduceEq, Int.reduceNeg, reduceCtorEq, or_false, false_or, decide_true, decide_false, Int.cast_ofNat_Int, Nat.zero_add, Nat.add_zero, Int.toNat_natCast, Option.isNone_none, Option.isNone_some, Bool.not_true, Bool.not_false, Bool.xor_true, Bool.xor_false, Bool.true_xor, Bool.false_xor, decide_true, decide_false, Bool.and_true, Bool.true_and, Bool.and_false, Bool.false_and, eq_self, ne_eq, not_false_eq_true, not_true_eq_false, true_and, and_true, and_self, wrapI64, wrapu64, wrapu32, wrapu8, ltT, ltF, leT, leF, eqF, eqT, nltT, nleT, neqFn, bXor, wShr, wAdd, m3]
        refine right_s 17 rfl (by omega) ?_
        simp (disch := omega) only [go_sem, ↓reduceIte, Nat.reduceEqDiff, Nat.reduceLT, Nat.reduceLeDiff, Nat.reduceAdd, Nat.reduceMul, Nat.reduceSub, Nat.reduceDiv, Nat.reduceMod, Int.reduceToNat, Int.reduceLT, Int.reduceLE, Int.reduceAdd, Int.reduceSub, Int.reduceMul, Int.reduceEq, Int.reduceNeg, reduceCtorEq, or_false, false_or, decide_true, decide_false, Int.cast_ofNat_Int, Nat.zero_add, Nat.add_zero, Int.toNat_natCast, Option.isNone_none, Option.isNone_some, Bool.not_true, Bool.not_false, Bool.xor_true, Bool.xor_false, Bool.true_xor, Bool.false_xor, decide_true, decide_false, Bool.and_true, Bool.true_and, Bool.and_false, Bool.false_and, eq_self, ne_eq, not_false_eq_true, not_true_eq_false, true_and, and_true, and_self, wrapI64, wrapu64, wrapu32, wrapu8, ltT, ltF, leT, leF, eqF, eqT, nltT, nleT, neqFn, bXor, wShr, wAdd, m3]
        refine right_s 19 rfl (by omega) ?_
        simp (disch := omega) only [go_sem, ↓reduceIte, Nat.reduceEqDiff, Nat.reduceLT, Nat.reduceLeDiff, Nat.reduceAdd, Nat.reduceMul, Nat.reduceSub, Nat.reduceDiv, Nat.reduceMod, Int.reduceToNat, Int.reduceLT, Int.reduceLE, Int.reduceAdd, Int.reduceSub, Int.reduceMul, Int.reduceEq, Int.reduceNeg, reduceCtorEq, or_false, false_or, decide_true, decide_false, Int.cast_ofNat_Int, Nat.zero_add, Nat.add_zero, Int.toNat_natCast, Option.isNone_none, Option.isNone_some, Bool.not_true, Bool.not_false, Bool.xor_true, Bool.xor_false, Bool.true_xor, Bool.false_xor, decide_true, decide_false, Bool.and_true, Bool.true_and, Bool.and_false, Bool.false_and, eq_self, ne_eq, not_false_eq_true, not_true_eq_false, true_and, and_true, and_self, wrapI64, wrapu64, wrapu32, wrapu8, ltT, ltF, leT, leF, eqF, eqT, nltT, nleT, neqFn, bXor, wShr, wAdd, m10, a1]
        exact ⟨k + 1, hkl, by omega, ent_drop ⟨rfl, rfl, rfl, rfl, trivial⟩ ⟨congrArg (fun r => some (Blk.rows 187 1 64 64 r)) hup, rfl, rfl, trivial⟩ (by simp)⟩
      · have : k = 48 := by omega
        subst this
        simp (disch := omega) only [go_sem, ↓reduceIte, Nat.reduceEqDiff, Nat.reduceLT, Nat.reduceLeDiff, Nat.reduceAdd, Nat.reduceMul, Nat.reduceSub, Nat.reduceDiv, Nat.reduceMod, Int.reduceToNat, Int.reduceLT, Int.reduceLE, Int.reduceAdd, Int.reduceSub, Int.reduceMul, Int.reduceEq, Int.reduceNeg, reduceCtorEq, or_false, false_or, decide_true, decide_false, Int.cast_ofNat_Int, Nat.zero_add, Nat.add_zero, Int.toNat_natCast, Option.isNone_none, Option.isNone_some, Bool.not_true, Bool.not_false, Bool.xor_true, Bool.xor_false, Bool.true_xor, Bool.false_xor, decide_true, decide_false, Bool.and_true, Bool.true_and, Bool.and_false, Bool.false_and, eq_self, ne_eq, not_false_eq_true, not_true_eq_false, true_and, and_true, and_self, wrapI64, wrapu64, wrapu32, wrapu8, ltT, ltF, leT, leF, eqF, eqT, nltT, nleT, neqFn]
        refine scall_pure [] (.agg (keys.map c32)) (.agg (keys.map v32).toArray) Try.call130 keys_c rfl (fun _ => rfl) (fun ρ => by show _ = Value.agg (CV.denL ρ (keys.map c32)).toArray; rw [CV.denL_eq, List.map_map]; rfl) ?_
        simp (disch := omega) only [go_sem, ↓reduceIte, Nat.reduceEqDiff, Nat.reduceLT, Nat.reduceLeDiff, Nat.reduceAdd, Nat.reduceMul, Nat.reduceSub, Nat.reduceDiv, Nat.reduceMod, Int.reduceToNat, Int.reduceLT, Int.reduceLE, Int.reduceAdd, Int.reduceSub, Int.reduceMul, Int.reduceEq, Int.reduceNeg, reduceCtorEq, or_false, false_or, decide_true, decide_false, Int.cast_ofNat_Int, Nat.zero_add, Nat.add_zero, Int.toNat_natCast, Option.isNone_none, Option.isNone_some, Bool.not_true, Bool.not_false, Bool.xor_true, Bool.xor_false, Bool.true_xor, Bool.false_xor, decide_true, decide_false, Bool.and_true, Bool.true_and, Bool.and_false, Bool.false_and, eq_self, ne_eq, not_false_eq_true, not_true_eq_false, true_and, and_true, and_self, wrapI64, wrapu64, wrapu32, wrapu8, ltT, ltF, leT, leF, eqF, eqT, nltT, nleT, neqFn, klen, kall]
        refine wO_of (y := keys.map c32) (by kernel_rfl) ?_
        refine sdraw [.t 0, .t 1, .t 2, .t 3, .t 4, .t 5, .t 6, .t 7, .t 8, .t 9, .t 10, .t 11, .t 12, .t 13, .t 14, .t 15, .t 16, .t 17, .t 18, .t 19, .t 20, .t 21, .t 22, .t 23] 24 [(0, _)] rfl (by kernel_rfl) ⟨rfl, trivial⟩ ?_
        simp (disch := omega) only [go_sem, ↓reduceIte, Nat.reduceEqDiff, Nat.reduceLT, Nat.reduceLeDiff, Nat.reduceAdd, Nat.reduceMul, Nat.reduceSub, Nat.reduceDiv, Nat.reduceMod, Int.reduceToNat, Int.reduceLT, Int.reduceLE, Int.reduceAdd, Int.reduceSub, Int.reduceMul, Int.reduceEq, Int.reduceNeg, reduceCtorEq, or_false, false_or, decide_true, decide_false, Int.cast_ofNat_Int, Nat.zero_add, Nat.add_zero, Int.toNat_natCast, Option.isNone_none, Option.isNone_some, Bool.not_true, Bool.not_false, Bool.xor_true, Bool.xor_false, Bool.true_xor, Bool.false_xor, decide_true, decide_false, Bool.and_true, Bool.true_and, Bool.and_false, Bool.false_and, eq_self, ne_eq, not_false_eq_true, not_true_eq_false, true_and, and_true, and_self, wrapI64, wrapu64, wrapu32, wrapu8, ltT, ltF, leT, leF, eqF, eqT, nltT, nleT, neqFn]
        refine sloop (fun p : Nat × S8 => ⟨[(108, .c (.v (.int .i64 (p.1 : Nat)))), (13, .c (c32 p.2.a)), (14, .c (c32 p.2.b)), (15, .c (c32 p.2.c)), (16, .c (c32 p.2.d)), (17, .c (c32 p.2.e)), (18, .c (c32 p.2.f)), (19, .c (c32 p.2.g)), (20, .c (c32 p.2.h)), (12, .c (.p 4 0 0)), (6, .c (.p 2 0 0)), (4, .c (.p 1 0 0)), (2, .c (.p 0 0 0))], [(4, .rows 187 1 64 64 fun i => [c32 (kf i)]), (2, .rows 187 1 64 64 fun i => [c32 (ws (bl b) 48 i)]), (1, .cells 181 [c32 0, c32 0, c32 0, c32 0, c32 0, c32 0, c32 0, c32 0]), (0, .cells 181 [c32 s.a, c32 s.b, c32 s.c, c32 s.d, c32 s.e, c32 s.f, c32 s.g, c32 s.h])], 5⟩) (fun p => p.1 ≤ 64 ∧ rnd kf (wk (bl b) 48) (64 - p.1) p.1 p.2 = rnd kf (wk (bl b) 48) 64 0 s) (fun p => 64 - p.1) (0, s) ⟨Nat.zero_le _, rfl⟩
          (Ent.trans (ent_cells_rows (m := 64) (r := fun i => [c32 (kf i)]) 4 rfl rfl (fun i hi => ⟨rfl, ?_⟩)) (ent_drop ⟨rfl, rfl, rfl, rfl, rfl, rfl, rfl, rfl, rfl, rfl, rfl, rfl, rfl, trivial⟩ ⟨rfl, rfl, rfl, rfl, trivial⟩ (by simp))) (fun p hp => ?_)
        · show some (c32 (kf i)) = (keys.map c32)[i]?
          unfold kf
          rw [List.getElem?_map, List.getD_eq_getElem?_getD]
          have : i < keys.length := hi
          rw [List.getElem?_eq_getElem this]; rfl
        obtain ⟨n, st⟩ := p
        obtain ⟨hn, hst⟩ : n ≤ 64 ∧ rnd kf (wk (bl b) 48) (64 - n) n st = rnd kf (wk (bl b) 48) 64 0 s := hp
        by_cases hnl : n < 64
        · have hw : ws (bl b) 48 n = wk (bl b) 48 n := by unfold ws; rw [if_pos (by omega)]
          simp (disch := omega) only [go_sem, ↓reduceIte, Nat.reduceEqDiff, Nat.reduceLT, Nat.reduceLeDiff, Nat.reduceAdd, Nat.reduceMul, Nat.reduceSub, Nat.reduceDiv, Nat.reduceMod, Int.reduceToNat, Int.reduceLT, Int.reduceLE, Int.reduceAdd, Int.reduceSub, Int.reduceMul, Int.reduceEq, Int.reduceNeg, reduceCtorEq, or_false, false_or, decide_true, decide_false, Int.cast_ofNat_Int, Nat.zero_add, Nat.add_zero, Int.toNat_natCast, Option.isNone_none, Option.isNone_some, Bool.not_true, Bool.not_false, Bool.xor_true, Bool.xor_false, Bool.true_xor, Bool.false_xor, decide_true, decide_false, Bool.and_true, Bool.true_and, Bool.and_false, Bool.false_and, eq_self, ne_eq, not_false_eq_true, not_true_eq_false, true_and, and_true, and_self, wrapI64, wrapu64, wrapu32, wrapu8, ltT, ltF, leT, leF, eqF, eqT, nltT, nleT, neqFn]
          refine sdraw [.t 0, .t 1, .t 3, .t 6, .t 10, .t 11, .t 12, .t 13, .t 14, .t 15, .t 16, .t 17, .t 19, .t 20, .t 21, .t 23, .t 24, .t 25, .r 2, .r 4, .t 5, .r 7, .t 8, .t 9, .t 18, .t 22, .t 26, .t 27] 28 [(2, _), (4, _)] rfl (by kernel_rfl) ⟨rfl, rfl, trivial⟩ ?_
          simp (disch := omega) only [go_sem, ↓reduceIte, Nat.reduceEqDiff, Nat.reduceLT, Nat.reduceLeDiff, Nat.reduceAdd, Nat.reduceMul, Nat.reduceSub, Nat.reduceDiv, Nat.reduceMod, Int.reduceToNat, Int.reduceLT, Int.reduceLE, Int.reduceAdd, Int.reduceSub, Int.reduceMul, Int.reduceEq, Int.reduceNeg, reduceCtorEq, or_false, false_or, decide_true, decide_false, Int.cast_ofNat_Int, Nat.zero_add, Nat.add_zero, Int.toNat_natCast, Option.isNone_none, Option.isNone_some, Bool.not_true, Bool.not_false, Bool.xor_true, Bool.xor_false, Bool.true_xor, Bool.false_xor, decide_true, decide_false, Bool.and_true, Bool.true_and, Bool.and_false, Bool.false_and, eq_self, ne_eq, not_false_eq_true, not_true_eq_false, true_and, and_true, and_self, wrapI64, wrapu64, wrapu32, wrapu8, ltT, ltF, leT, leF, eqF, eqT, nltT, nleT, neqFn]
          refine right_s 6 rfl (by omega) ?_
          simp (disch := omega) only [go_sem, ↓reduceIte, Nat.reduceEqDiff, Nat.reduceLT, Nat.reduceLeDiff, Nat.reduceAdd, Nat.reduceMul, Nat.reduceSub, Nat.reduceDiv, Nat.reduceMod, Int.reduceToNat, Int.reduceLT, Int.reduceLE, Int.reduceAdd, Int.reduceSub, Int.reduceMul, Int.reduceEq, Int.reduceNeg, reduceCtorEq, or_false, false_or, decide_true, decide_false, Int.cast_ofNat_Int, Nat.zero_add, Nat.add_zero, Int.toNat_natCast, Option.isNone_none, Option.isNone_some, Bool.not_true, Bool.not_false, Bool.xor_true, Bool.xor_false, Bool.true_xor, Bool.false_xor, decide_true, decide_false, Bool.and_true, Bool.true_and, Bool.and_false, Bool.false_and, eq_self, ne_eq, not_false_eq_true, not_true_eq_false, true_and, and_true, and_self, wrapI64, wrapu64, wrapu32, wrapu8, ltT, ltF, leT, leF, eqF, eqT, nltT, nleT, neqFn]
          refine right_s 11 rfl (by omega) ?_
          simp (disch := omega) only [go_sem, ↓reduceIte, Nat.reduceEqDiff, Nat.reduceLT, Nat.reduceLeDiff, Nat.reduceAdd, Nat.reduceMul, Nat.reduceSub, Nat.reduceDiv, Nat.reduceMod, Int.reduceToNat, Int.reduceLT, Int.reduceLE, Int.reduceAdd, Int.reduceSub, Int.reduceMul, Int.reduceEq, Int.reduceNeg, reduceCtorEq, or_false, false_or, decide_true, decide_false, Int.cast_ofNat_Int, Nat.zero_add, Nat.add_zero, Int.toNat_natCast, Option.isNone_none, Option.isNone_some, Bool.not_true, Bool.not_false, Bool.xor_true, Bool.xor_false, Bool.true_xor, Bool.false_xor, decide_true, decide_false, Bool.and_true, Bool.true_and, Bool.and_false, Bool.false_and, eq_self, ne_eq, not_false_eq_true, not_true_eq_false, true_and, and_true, and_self, wrapI64, wrapu64, wrapu32, wrapu8, ltT, ltF, leT, leF, eqF, eqT, nltT, nleT, neqFn, bXor, wShr, wAdd]
          refine right_s 25 rfl (by omega) ?_
          simp (disch := omega) only [go_sem, ↓reduceIte, Nat.reduceEqDiff, Nat.reduceLT, Nat.reduceLeDiff, Nat.reduceAdd, Nat.reduceMul, Nat.reduceSub, Nat.reduceDiv, Nat.reduceMod, Int.reduceToNat, Int.reduceLT, Int.reduceLE, Int.reduceAdd, Int.reduceSub, Int.reduceMul, Int.reduceEq, Int.reduceNeg, reduceCtorEq, or_false, false_or, decide_true, decide_false, Int.cast_ofNat_Int, Nat.zero_add, Nat.add_zero, Int.toNat_natCast, Option.isNone_none, Option.isNone_some, Bool.not_true, Bool.not_false, Bool.xor_true, Bool.xor_false, Bool.true_xor, Bool.false_xor, decide_true, decide_false, Bool.and_true, Bool.true_and, Bool.and_false, Bool.false_and, eq_self, ne_eq, not_false_eq_true, not_true_eq_false, true_and, and_true, and_self, wrapI64, wrapu64, wrapu32, wrapu8, ltT, ltF, leT, leF, eqF, eqT, nltT, nleT, neqFn, bXor, wShr, wAdd, bAnd, bNot2]
          refine right_s 2 rfl (by omega) ?_
          simp (disch := omega) only [go_sem, ↓reduceIte, Nat.reduceEqDiff, Nat.reduceLT, Nat.reduceLeDiff, Nat.reduceAdd, Nat.reduceMul, Nat.reduceSub, Nat.reduceDiv, Nat.reduceMod, Int.reduceToNat, Int.reduceLT, Int.reduceLE, Int.reduceAdd, Int.reduceSub, Int.reduceMul, Int.reduceEq, Int.reduceNeg, reduceCtorEq, or_false, false_or, decide_true, decide_false, Int.cast_ofNat_Int, Nat.zero_add, Nat.add_zero, Int.toNat_natCast, Option.isNone_none, Option.isNone_some, Bool.not_true, Bool.not_false, Bool.xor_true, Bool.xor_false, Bool.true_xor, Bool.false_xor, decide_true, decide_false, Bool.and_true, Bool.true_and, Bool.and_false, Bool.false_and, eq_self, ne_eq, not_false_eq_true, not_true_eq_false, true_and, and_true, and_self, wrapI64, wrapu64, wrapu32, wrapu8, ltT, ltF, leT, leF, eqF, eqT, nltT, nleT, neqFn, bXor, wShr, wAdd, bAnd, bNot2]
          refine right_s 13 rfl (by omega) ?_
          simp (disch := omega) only [go_sem, ↓reduceIte, Nat.reduceEqDiff, Nat.reduceLT, Nat.reduceLeDiff, Nat.reduceAdd, Nat.reduceMul, Nat.reduceSub, Nat.reduceDiv, Nat.reduceMod, Int.reduceToNat, Int.reduceLT, Int.reduceLE, Int.reduceAdd, Int.reduceSub, Int.reduceMul, Int.reduceEq, Int.reduceNeg, reduceCtorEq, or_false, false_or, decide_true, decide_false, Int.cast_ofNat_Int, Nat.zero_add, Nat.add_zero, Int.toNat_natCast, Option.isNone_none, Option.isNone_some, Bool.not_true, Bool.not_false, Bool.xor_true, Bool.xor_false, Bool.true_xor, Bool.false_xor, decide_true, decide_false, Bool.and_true, Bool.true_and, Bool.and_false, Bool.false_and, eq_self, ne_eq, not_false_eq_true, not_true_eq_false, true_and, and_true, and_self, wrapI64, wrapu64, wrapu32, wrapu8, ltT, ltF, leT, leF, eqF, eqT, nltT, nleT, neqFn, bXor, wShr, wAdd, bAnd, bNot2]
          refine right_s 22 rfl (by omega) ?_
          simp (disch := omega) only [go_sem, ↓reduceIte, Nat.reduceEqDiff, Nat.reduceLT, Nat.reduceLeDiff, Nat.reduceAdd, Nat.reduceMul, Nat.reduceSub, Nat.reduceDiv, Nat.reduceMod, Int.reduceToNat, Int.reduceLT, Int.reduceLE, Int.reduceAdd, Int.reduceSub, Int.reduceMul, Int.reduceEq, Int.reduceNeg, reduceCtorEq, or_false, false_or, decide_true, decide_false, Int.cast_ofNat_Int, Nat.zero_add, Nat.add_zero, Int.toNat_natCast, Option.isNone_none, Option.isNone_some, Bool.not_true, Bool.not_false, Bool.xor_true, Bool.xor_false, Bool.true_xor, Bool.false_xor, decide_true, decide_false, Bool.and_true, Bool.true_and, Bool.and_false, Bool.false_and, eq_self, ne_eq, not_false_eq_true, not_true_eq_false, true_and, and_true, and_self, wrapI64, wrapu64, wrapu32, wrapu8, ltT, ltF, leT, leF, eqF, eqT, nltT, nleT, neqFn, bXor, wShr, wAdd, bAnd, bNot2]
          refine ⟨(n + 1, stp st (kf n) (ws (bl b) 48 n)), ⟨hnl, ?_⟩, by show 64 - (n + 1) < 64 - n; omega, ent_drop ⟨rfl, rfl, rfl, rfl, rfl, rfl, rfl, rfl, rfl, rfl, rfl, rfl, rfl, trivial⟩ ⟨rfl, rfl, rfl, rfl, trivial⟩ (by simp)⟩
          rw [hw, ← hst]
          show rnd _ _ (64 - (n + 1)) (n + 1) _ = _
          have e : 64 - n = (64 - (n + 1)) + 1 := by omega
          rw [e, rnd_s]
        · have : n = 64 := by omega
          subst this
          simp (disch := omega) only [go_sem, ↓reduceIte, Nat.reduceEqDiff, Nat.reduceLT, Nat.reduceLeDiff, Nat.reduceAdd, Nat.reduceMul, Nat.reduceSub, Nat.reduceDiv, Nat.reduceMod, Int.reduceToNat, Int.reduceLT, Int.reduceLE, Int.reduceAdd, Int.reduceSub, Int.reduceMul, Int.reduceEq, Int.reduceNeg, reduceCtorEq, or_false, false_or, decide_true, decide_false, Int.cast_ofNat_Int, Nat.zero_add, Nat.add_zero, Int.toNat_natCast, Option.isNone_none, Option.isNone_some, Bool.not_true, Bool.not_false, Bool.xor_true, Bool.xor_false, Bool.true_xor, Bool.false_xor, decide_true, decide_false, Bool.and_true, Bool.true_and, Bool.and_false, Bool.false_and, eq_self, ne_eq, not_false_eq_true, not_true_eq_false, true_and, and_true, and_self, wrapI64, wrapu64, wrapu32, wrapu8, ltT, ltF, leT, leF, eqF, eqT, nltT, nleT, neqFn]
          refine sloop_rounds 9 ?_
          simp (disch := omega) only [go_sem, ↓reduceIte, Nat.reduceEqDiff, Nat.reduceLT, Nat.reduceLeDiff, Nat.reduceAdd, Nat.reduceMul, Nat.reduceSub, Nat.reduceDiv, Nat.reduceMod, Int.reduceToNat, Int.reduceLT, Int.reduceLE, Int.reduceAdd, Int.reduceSub, Int.reduceMul, Int.reduceEq, Int.reduceNeg, reduceCtorEq, or_false, false_or, decide_true, decide_false, Int.cast_ofNat_Int, Nat.zero_add, Nat.add_zero, Int.toNat_natCast, Option.isNone_none, Option.isNone_some, Bool.not_true, Bool.not_false, Bool.xor_true, Bool.xor_false, Bool.true_xor, Bool.false_xor, decide_true, decide_false, Bool.and_true, Bool.true_and, Bool.and_false, Bool.false_and, eq_self, ne_eq, not_false_eq_true, not_true_eq_false, true_and, and_true, and_self, wrapI64, wrapu64, wrapu32, wrapu8, ltT, ltF, leT, leF, eqF, eqT, nltT, nleT, neqFn, wAdd]
          rw [Nat.sub_self, rnd_z] at hst
          have hc : cmp s (bl b) = add8 s st := by unfold cmp; rw [← hst]
          rw [hc]
          exact fun ρ a w hs _ => ⟨rfl, hs.grown⟩
end Go.Proofs.Ytbdffcgbleiiaaa
