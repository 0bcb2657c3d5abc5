/-
  pack: Text; what is read: Number, Vary, Text. Conditions: none.
-/
import Derived.Test.YtbdffcgbleiiaaaPack
namespace Go.Proofs.Ytbdffcgbleiiaaa
open Go.RowKit Go.Sx Go.Sha Go.Pk
set_option linter.unusedVariables false
set_option linter.unusedSimpArgs false

def Rd.v (r : Rd) : Value := .agg #[.string (strN r.rest), .bool r.bad]
abbrev Rd.s (r : Rd) : SV := .agg [.v (.string (strN r.rest)), .v (.bool r.bad)]
section
variable {C : Cx} {fr : List (Nat × SV)} {hp : List (Nat × Blk)} {nx : Nat} {d : Option Tmp} {K : St → Prop}
theorem vary_s {n : Nat} (hn : n < 18446744073709551616) (h : dOk C.N d ∧ kput K ⟨fr, hp, nx⟩ d (.c (.v (.string (strN (vary n)))))) : SCall Try.prog C 118 [.c (.v (.int .u64 (n : Int)))] d K ⟨fr, hp, nx⟩ :=
  scall_pure [.int .u64 (n : Int)] _ (.string (strN (vary n))) Try.call118 (vary_c n hn) rfl (fun _ => rfl) (fun _ => rfl) h
theorem number_s {n : Nat} (k : Nat) {m : Int} (hm : m = (k : Int)) (hk : k = 1 ∨ k = 2 ∨ k = 4 ∨ k = 8) (h : dOk C.N d ∧ kput K ⟨fr, hp, nx⟩ d (.c (.v (.string (strN (be n k)))))) : SCall Try.prog C 87 [.c (.v (.int .u64 (n : Int))), .c (.v (.int .i64 m))] d K ⟨fr, hp, nx⟩ := by
  subst hm
  exact scall_pure [.int .u64 (n : Int), .int .i64 (k : Int)] _ (.string (strN (be n k))) Try.call87 (number_c n k hk) rfl (fun _ => rfl) (fun _ => rfl) h
end
theorem strN_eq {a b : List Nat} (ha : ∀ x, x ∈ a → x < 256) (hb : ∀ x, x ∈ b → x < 256) : (strN a = strN b) ↔ a = b := ⟨fun h => by rw [← bl_strN ha, ← bl_strN hb, h], fun h => by rw [h]⟩
theorem text_c (s : ByteArray) (hs : s.size ≤ 4611686018427387000) (w : World) : Calls Try.prog 88 #[.string s] w fun e w' => e = .returned (.string (strN (vary s.size ++ bl s))) ∧ Below w.heap.size w w' := by
  refine calls_pure 9 _ Try.func88 rfl Try.ntmps88 Try.results88 [.c (.v (.string s))] (by simp) (fun _ => rfl) ?_
  have hl := varyF_len 10 s.size
  have hz := strN_size (vary s.size)
  have hv : (strN (vary s.size)).size + s.size ≤ 9223372036854775807 := by rw [hz]; unfold vary; omega
  have he : strN (vary s.size) ++ s = strN (vary s.size ++ bl s) := by rw [strN_app, strN_bl]
  simp (disch := omega) only [go_sem, ↓reduceIte, Nat.reduceEqDiff, Nat.reduceLT, Nat.reduceLeDiff, Nat.reduceAdd, Nat.reduceMul, Nat.reduceSub, Nat.reduceDiv, Nat.reduceMod, Int.reduceToNat, Int.reduceLT, Int.reduceLE, Int.reduceAdd, Int.reduceSub, Int.reduceMul, Int.reduceEq, Int.reduceNeg, reduceCtorEq, or_false, false_or, decide_true, decide_false, Int.cast_ofNat_Int, Nat.zero_add, Nat.add_zero, Int.toNat_natCast, Option.isNone_none, Option.isNone_some, Bool.not_true, Bool.not_false, Bool.xor_true, Bool.xor_false, Bool.true_xor, Bool.false_xor, decide_true, decide_false, Bool.and_true, Bool.true_and, Bool.and_false, Bool.false_and, eq_self, ne_eq, not_false_eq_true, not_true_eq_false, true_and, and_true, and_self, wrapI64, wrapu64, wrapu32, wrapu8, ltT, ltF, leT, leF, eqF, eqT, nltT, nleT, neqFn]
  refine vary_s (by omega) ?_
  simp (disch := omega) only [go_sem, ↓reduceIte, Nat.reduceEqDiff, Nat.reduceLT, Nat.reduceLeDiff, Nat.reduceAdd, Nat.reduceMul, Nat.reduceSub, Nat.reduceDiv, Nat.reduceMod, Int.reduceToNat, Int.reduceLT, Int.reduceLE, Int.reduceAdd, Int.reduceSub, Int.reduceMul, Int.reduceEq, Int.reduceNeg, reduceCtorEq, or_false, false_or, decide_true, decide_false, Int.cast_ofNat_Int, Nat.zero_add, Nat.add_zero, Int.toNat_natCast, Option.isNone_none, Option.isNone_some, Bool.not_true, Bool.not_false, Bool.xor_true, Bool.xor_false, Bool.true_xor, Bool.false_xor, decide_true, decide_false, Bool.and_true, Bool.true_and, Bool.and_false, Bool.false_and, eq_self, ne_eq, not_false_eq_true, not_true_eq_false, true_and, and_true, and_self, wrapI64, wrapu64, wrapu32, wrapu8, ltT, ltF, leT, leF, eqF, eqT, nltT, nleT, neqFn, hv, he]
  exact fun ρ a w hs _ => ⟨rfl, hs.grown⟩
theorem bad_c (w : World) : Calls Try.prog 121 #[] w fun e w' => e = .returned (Rd.v Rd.no) ∧ Below w.heap.size w w' := by
  refine calls_pure 2 _ Try.func121 rfl Try.ntmps121 Try.results121 [] (by simp) (fun _ => rfl) ?_
  simp only [go_sem, ↓reduceIte, Nat.reduceEqDiff, Nat.reduceLT, Nat.reduceLeDiff, Nat.reduceAdd, Nat.reduceMul, Nat.reduceSub, Nat.reduceDiv, Nat.reduceMod, Int.reduceToNat, Int.reduceLT, Int.reduceLE, Int.reduceAdd, Int.reduceSub, Int.reduceMul, Int.reduceEq, Int.reduceNeg, reduceCtorEq, or_false, false_or, decide_true, decide_false, Int.cast_ofNat_Int, Nat.zero_add, Nat.add_zero, Int.toNat_natCast, Option.isNone_none, Option.isNone_some, Bool.not_true, Bool.not_false, Bool.xor_true, Bool.xor_false, Bool.true_xor, Bool.false_xor, decide_true, decide_false, Bool.and_true, Bool.true_and, Bool.and_false, Bool.false_and, eq_self, ne_eq, not_false_eq_true, not_true_eq_false, true_and, and_true, and_self]
  exact fun ρ a w hs _ => ⟨rfl, hs.grown⟩
theorem bad_s {C : Cx} {fr : List (Nat × SV)} {hp : List (Nat × Blk)} {nx : Nat} {d : Option Tmp} {K : St → Prop} (h : dOk C.N d ∧ kput K ⟨fr, hp, nx⟩ d (.agg [.v (.string ⟨#[]⟩), .v (.bool true)])) : SCall Try.prog C 121 [] d K ⟨fr, hp, nx⟩ :=
  scall_pure [] _ (Rd.v Rd.no) Try.call121 bad_c rfl (fun _ => rfl) (fun _ => rfl) h
theorem m8' : min 8 64 = 8 := rfl
set_option maxRecDepth 100000 in
set_option maxHeartbeats 1000000 in
theorem rnum_c (r : Rd) (hr : r.ok) (hl : r.rest.length ≤ 9223372036854775807) (k : Nat) (hk : 1 ≤ k ∧ k ≤ 8) (w : World) : Calls Try.prog 90 #[Rd.v r, .int .i64 (k : Int)] w fun e w' => e = .returned (.tuple #[.int .u64 ((numR r k).1 : Int), Rd.v (numR r k).2]) ∧ Below w.heap.size w w' := by
  refine calls_pure 48 _ Try.func90 rfl Try.ntmps90 Try.results90 [.agg [.v (.string (strN r.rest)), .v (.bool r.bad)], .c (.v (.int .i64 (k : Int)))] (by simp) (fun _ => rfl) ?_
  obtain ⟨R, b⟩ := r
  have hr : ∀ x, x ∈ R → x < 256 := hr
  have hl : R.length ≤ 9223372036854775807 := hl
  have hsz := strN_size R
  cases b
  case true =>
    have e : numR ⟨R, true⟩ k = (0, Rd.no) := by unfold numR; rw [if_pos (.inl rfl)]
    rw [e]
    simp (disch := omega) only [go_sem, ↓reduceIte, Nat.reduceEqDiff, Nat.reduceLT, Nat.reduceLeDiff, Nat.reduceAdd, Nat.reduceMul, Nat.reduceSub, Nat.reduceDiv, Nat.reduceMod, Int.reduceToNat, Int.reduceLT, Int.reduceLE, Int.reduceAdd, Int.reduceSub, Int.reduceMul, Int.reduceEq, Int.reduceNeg, reduceCtorEq, or_false, false_or, decide_true, decide_false, Int.cast_ofNat_Int, Nat.zero_add, Nat.add_zero, Int.toNat_natCast, Option.isNone_none, Option.isNone_some, Bool.not_true, Bool.not_false, Bool.xor_true, Bool.xor_false, Bool.true_xor, Bool.false_xor, decide_true, decide_false, Bool.and_true, Bool.true_and, Bool.and_false, Bool.false_and, eq_self, ne_eq, not_false_eq_true, not_true_eq_false, true_and, and_true, and_self, wrapI64, wrapu64, wrapu32, wrapu8, ltT, ltF, leT, leF, eqF, eqT, nltT, nleT, neqFn]
    refine bad_s ?_
    simp (disch := omega) only [go_sem, ↓reduceIte, Nat.reduceEqDiff, Nat.reduceLT, Nat.reduceLeDiff, Nat.reduceAdd, Nat.reduceMul, Nat.reduceSub, Nat.reduceDiv, Nat.reduceMod, Int.reduceToNat, Int.reduceLT, Int.reduceLE, Int.reduceAdd, Int.reduceSub, Int.reduceMul, Int.reduceEq, Int.reduceNeg, reduceCtorEq, or_false, false_or, decide_true, decide_false, Int.cast_ofNat_Int, Nat.zero_add, Nat.add_zero, Int.toNat_natCast, Option.isNone_none, Option.isNone_some, Bool.not_true, Bool.not_false, Bool.xor_true, Bool.xor_false, Bool.true_xor, Bool.false_xor, decide_true, decide_false, Bool.and_true, Bool.true_and, Bool.and_false, Bool.false_and, eq_self, ne_eq, not_false_eq_true, not_true_eq_false, true_and, and_true, and_self, wrapI64, wrapu64, wrapu32, wrapu8, ltT, ltF, leT, leF, eqF, eqT, nltT, nleT, neqFn]
    exact fun ρ a w hs _ => ⟨rfl, hs.grown⟩
  by_cases hkl : R.length < k
  · have e : numR ⟨R, false⟩ k = (0, Rd.no) := by unfold numR; rw [if_pos (.inr hkl)]
    rw [e]
    simp (disch := omega) only [go_sem, ↓reduceIte, Nat.reduceEqDiff, Nat.reduceLT, Nat.reduceLeDiff, Nat.reduceAdd, Nat.reduceMul, Nat.reduceSub, Nat.reduceDiv, Nat.reduceMod, Int.reduceToNat, Int.reduceLT, Int.reduceLE, Int.reduceAdd, Int.reduceSub, Int.reduceMul, Int.reduceEq, Int.reduceNeg, reduceCtorEq, or_false, false_or, decide_true, decide_false, Int.cast_ofNat_Int, Nat.zero_add, Nat.add_zero, Int.toNat_natCast, Option.isNone_none, Option.isNone_some, Bool.not_true, Bool.not_false, Bool.xor_true, Bool.xor_false, Bool.true_xor, Bool.false_xor, decide_true, decide_false, Bool.and_true, Bool.true_and, Bool.and_false, Bool.false_and, eq_self, ne_eq, not_false_eq_true, not_true_eq_false, true_and, and_true, and_self, wrapI64, wrapu64, wrapu32, wrapu8, ltT, ltF, leT, leF, eqF, eqT, nltT, nleT, neqFn, hsz]
    refine bad_s ?_
    simp (disch := omega) only [go_sem, ↓reduceIte, Nat.reduceEqDiff, Nat.reduceLT, Nat.reduceLeDiff, Nat.reduceAdd, Nat.reduceMul, Nat.reduceSub, Nat.reduceDiv, Nat.reduceMod, Int.reduceToNat, Int.reduceLT, Int.reduceLE, Int.reduceAdd, Int.reduceSub, Int.reduceMul, Int.reduceEq, Int.reduceNeg, reduceCtorEq, or_false, false_or, decide_true, decide_false, Int.cast_ofNat_Int, Nat.zero_add, Nat.add_zero, Int.toNat_natCast, Option.isNone_none, Option.isNone_some, Bool.not_true, Bool.not_false, Bool.xor_true, Bool.xor_false, Bool.true_xor, Bool.false_xor, decide_true, decide_false, Bool.and_true, Bool.true_and, Bool.and_false, Bool.false_and, eq_self, ne_eq, not_false_eq_true, not_true_eq_false, true_and, and_true, and_self, wrapI64, wrapu64, wrapu32, wrapu8, ltT, ltF, leT, leF, eqF, eqT, nltT, nleT, neqFn]
    exact fun ρ a w hs _ => ⟨rfl, hs.grown⟩
  have e : numR ⟨R, false⟩ k = (val (R.take k), ⟨R.drop k, false⟩) := by unfold numR; rw [if_neg (by simp; omega)]
  rw [e]
  have hex : (strN R).extract 0 k = strN (R.take k) := by rw [extract_strN, List.drop_zero]
  have hex2 : (strN R).extract k R.length = strN (R.drop k) := by rw [extract_strN, List.take_length]
  have hT : (R.take k).length = k := by simp; omega
  have hTs := strN_size (R.take k)
  rw [hT] at hTs
  have hTb : bl (strN (R.take k)) = R.take k := bl_strN fun x hx => hr x (List.mem_of_mem_take hx)
  simp (disch := omega) only [go_sem, ↓reduceIte, Nat.reduceEqDiff, Nat.reduceLT, Nat.reduceLeDiff, Nat.reduceAdd, Nat.reduceMul, Nat.reduceSub, Nat.reduceDiv, Nat.reduceMod, Int.reduceToNat, Int.reduceLT, Int.reduceLE, Int.reduceAdd, Int.reduceSub, Int.reduceMul, Int.reduceEq, Int.reduceNeg, reduceCtorEq, or_false, false_or, decide_true, decide_false, Int.cast_ofNat_Int, Nat.zero_add, Nat.add_zero, Int.toNat_natCast, Option.isNone_none, Option.isNone_some, Bool.not_true, Bool.not_false, Bool.xor_true, Bool.xor_false, Bool.true_xor, Bool.false_xor, decide_true, decide_false, Bool.and_true, Bool.true_and, Bool.and_false, Bool.false_and, eq_self, ne_eq, not_false_eq_true, not_true_eq_false, true_and, and_true, and_self, wrapI64, wrapu64, wrapu32, wrapu8, ltT, ltF, leT, leF, eqF, eqT, nltT, nleT, neqFn, hsz, hex]
  refine sbytes2 rfl tkind9 tkind110 tint5 ⟨by show (30 : Nat) < 48; omega, fun c' hc' => ?_⟩
  simp (disch := omega) only [go_sem, ↓reduceIte, Nat.reduceEqDiff, Nat.reduceLT, Nat.reduceLeDiff, Nat.reduceAdd, Nat.reduceMul, Nat.reduceSub, Nat.reduceDiv, Nat.reduceMod, Int.reduceToNat, Int.reduceLT, Int.reduceLE, Int.reduceAdd, Int.reduceSub, Int.reduceMul, Int.reduceEq, Int.reduceNeg, reduceCtorEq, or_false, false_or, decide_true, decide_false, Int.cast_ofNat_Int, Nat.zero_add, Nat.add_zero, Int.toNat_natCast, Option.isNone_none, Option.isNone_some, Bool.not_true, Bool.not_false, Bool.xor_true, Bool.xor_false, Bool.true_xor, Bool.false_xor, decide_true, decide_false, Bool.and_true, Bool.true_and, Bool.and_false, Bool.false_and, eq_self, ne_eq, not_false_eq_true, not_true_eq_false, true_and, and_true, and_self, wrapI64, wrapu64, wrapu32, wrapu8, ltT, ltF, leT, leF, eqF, eqT, nltT, nleT, neqFn, hTs, hTb]
  refine sloop (fun i : Nat => ⟨[(32, .c (.v (.int .i64 (i : Int)))), (31, .c (.v (.int .i64 (k : Int)))), (30, .c (.s 2 0 k c')), (4, .c (.v (.int .u64 (val (R.take i) : Int)))), (1, .c (.v (.int .i64 (k : Int)))), (2, .c (.p 0 0 0)), (5, .c (.p 1 0 0))], [(2, .rows 5 1 k c' (brL (R.take k))), (1, .cells 152 [.v (.string ⟨#[]⟩), .v (.bool false)]), (0, .cells 152 [.v (.string (strN R)), .v (.bool false)])], 3⟩) (fun i => i ≤ k) (fun i => k - i) 0 (Nat.zero_le _) (ent_drop ⟨rfl, rfl, rfl, rfl, rfl, rfl, rfl, trivial⟩ ⟨rfl, rfl, rfl, trivial⟩ (by simp)) (fun i hi => ?_)
  have hi : i ≤ k := hi
  by_cases hik : i < k
  · obtain ⟨x, hx⟩ : ∃ x, R[i]? = some x := ⟨_, List.getElem?_eq_getElem (by omega)⟩
    have hx2 : (R.take k)[i]? = some x := by rw [List.getElem?_take_of_lt hik, hx]
    have hrow := brL_get hx2
    have hx256 := hr x (List.mem_of_getElem? hx)
    have hv := val_s hx
    simp (disch := omega) only [go_sem, ↓reduceIte, Nat.reduceEqDiff, Nat.reduceLT, Nat.reduceLeDiff, Nat.reduceAdd, Nat.reduceMul, Nat.reduceSub, Nat.reduceDiv, Nat.reduceMod, Int.reduceToNat, Int.reduceLT, Int.reduceLE, Int.reduceAdd, Int.reduceSub, Int.reduceMul, Int.reduceEq, Int.reduceNeg, reduceCtorEq, or_false, false_or, decide_true, decide_false, Int.cast_ofNat_Int, Nat.zero_add, Nat.add_zero, Int.toNat_natCast, Option.isNone_none, Option.isNone_some, Bool.not_true, Bool.not_false, Bool.xor_true, Bool.xor_false, Bool.true_xor, Bool.false_xor, decide_true, decide_false, Bool.and_true, Bool.true_and, Bool.and_false, Bool.false_and, eq_self, ne_eq, not_false_eq_true, not_true_eq_false, true_and, and_true, and_self, wrapI64, wrapu64, wrapu32, wrapu8, ltT, ltF, leT, leF, eqF, eqT, nltT, nleT, neqFn, hrow, wShl64, m8', bOr64]
    rw [← hv]
    exact ⟨i + 1, hik, by omega, ent_drop ⟨rfl, rfl, rfl, rfl, rfl, rfl, rfl, trivial⟩ ⟨rfl, rfl, rfl, trivial⟩ (by simp)⟩
  · have : i = k := by omega
    subst this
    simp (disch := omega) only [go_sem, ↓reduceIte, Nat.reduceEqDiff, Nat.reduceLT, Nat.reduceLeDiff, Nat.reduceAdd, Nat.reduceMul, Nat.reduceSub, Nat.reduceDiv, Nat.reduceMod, Int.reduceToNat, Int.reduceLT, Int.reduceLE, Int.reduceAdd, Int.reduceSub, Int.reduceMul, Int.reduceEq, Int.reduceNeg, reduceCtorEq, or_false, false_or, decide_true, decide_false, Int.cast_ofNat_Int, Nat.zero_add, Nat.add_zero, Int.toNat_natCast, Option.isNone_none, Option.isNone_some, Bool.not_true, Bool.not_false, Bool.xor_true, Bool.xor_false, Bool.true_xor, Bool.false_xor, decide_true, decide_false, Bool.and_true, Bool.true_and, Bool.and_false, Bool.false_and, eq_self, ne_eq, not_false_eq_true, not_true_eq_false, true_and, and_true, and_self, wrapI64, wrapu64, wrapu32, wrapu8, ltT, ltF, leT, leF, eqF, eqT, nltT, nleT, neqFn]
    refine sdraw [.t 0, .t 1, .t 2, .t 3, .t 4, .t 5, .t 6, .r 7] 7 [(0, _)] rfl (by kernel_rfl) ⟨rfl, trivial⟩ ?_
    simp (disch := omega) only [go_sem, ↓reduceIte, Nat.reduceEqDiff, Nat.reduceLT, Nat.reduceLeDiff, Nat.reduceAdd, Nat.reduceMul, Nat.reduceSub, Nat.reduceDiv, Nat.reduceMod, Int.reduceToNat, Int.reduceLT, Int.reduceLE, Int.reduceAdd, Int.reduceSub, Int.reduceMul, Int.reduceEq, Int.reduceNeg, reduceCtorEq, or_false, false_or, decide_true, decide_false, Int.cast_ofNat_Int, Nat.zero_add, Nat.add_zero, Int.toNat_natCast, Option.isNone_none, Option.isNone_some, Bool.not_true, Bool.not_false, Bool.xor_true, Bool.xor_false, Bool.true_xor, Bool.false_xor, decide_true, decide_false, Bool.and_true, Bool.true_and, Bool.and_false, Bool.false_and, eq_self, ne_eq, not_false_eq_true, not_true_eq_false, true_and, and_true, and_self, wrapI64, wrapu64, wrapu32, wrapu8, ltT, ltF, leT, leF, eqF, eqT, nltT, nleT, neqFn, hsz, hex2]
    exact fun ρ a w hs _ => ⟨rfl, hs.grown⟩
end Go.Proofs.Ytbdffcgbleiiaaa
