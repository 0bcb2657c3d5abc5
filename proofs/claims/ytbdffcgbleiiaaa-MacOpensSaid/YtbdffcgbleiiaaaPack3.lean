/-
  pack: what is read: Vary, Text. Conditions: none.
-/
import Derived.Test.YtbdffcgbleiiaaaPack2
namespace Go.Proofs.Ytbdffcgbleiiaaa
open Go.RowKit Go.Sx Go.Sha Go.Pk
set_option linter.unusedVariables false
set_option linter.unusedSimpArgs false

theorem vary_lt {n x : Nat} (h : x ∈ vary n) : x < 256 := varyF_lt 10 n x h
set_option maxRecDepth 100000 in
set_option maxHeartbeats 2000000 in
theorem rvary_c (r : Rd) (hr : r.ok) (hl : r.rest.length ≤ 9223372036854775807) (w : World) : Calls Try.prog 122 #[Rd.v r] w fun e w' => e = .returned (.tuple #[.int .u64 ((varR r).1 : Int), Rd.v (varR r).2]) ∧ Below w.heap.size w w' := by
  refine calls_pure 48 _ Try.func122 rfl Try.ntmps122 Try.results122 [.agg [.v (.string (strN r.rest)), .v (.bool r.bad)]] (by simp) (fun _ => rfl) ?_
  obtain ⟨R, b⟩ := r
  have hr : ∀ x, x ∈ R → x < 256 := hr
  have hl : R.length ≤ 9223372036854775807 := hl
  have hsz := strN_size R
  have hbl := bl_strN hr
  cases b
  case true =>
    have e : varR ⟨R, true⟩ = (0, Rd.no) := by unfold varR; rw [if_pos rfl]
    rw [e]
    simp (disch := omega) only [go_sem, ↓reduceIte, Nat.reduceEqDiff, Nat.reduceLT, Nat.reduceLeDiff, Nat.reduceAdd, Nat.reduceMul, Nat.reduceSub, Nat.reduceDiv, Nat.reduceMod, Int.reduceToNat, Int.reduceLT, Int.reduceLE, Int.reduceAdd, Int.reduceSub, Int.reduceMul, Int.reduceEq, Int.reduceNeg, reduceCtorEq, or_false, false_or, decide_true, decide_false, Int.cast_ofNat_Int, Nat.zero_add, Nat.add_zero, Int.toNat_natCast, Option.isNone_none, Option.isNone_some, Bool.not_true, Bool.not_false, Bool.xor_true, Bool.xor_false, Bool.true_xor, Bool.false_xor, decide_true, decide_false, Bool.and_true, Bool.true_and, Bool.and_false, Bool.false_and, eq_self, ne_eq, not_false_eq_true, not_true_eq_false, true_and, and_true, and_self, wrapI64, wrapu64, wrapu32, wrapu8, ltT, ltF, leT, leF, eqF, eqT, nltT, nleT, neqFn]
    refine bad_s ?_
    simp (disch := omega) only [go_sem, ↓reduceIte, Nat.reduceEqDiff, Nat.reduceLT, Nat.reduceLeDiff, Nat.reduceAdd, Nat.reduceMul, Nat.reduceSub, Nat.reduceDiv, Nat.reduceMod, Int.reduceToNat, Int.reduceLT, Int.reduceLE, Int.reduceAdd, Int.reduceSub, Int.reduceMul, Int.reduceEq, Int.reduceNeg, reduceCtorEq, or_false, false_or, decide_true, decide_false, Int.cast_ofNat_Int, Nat.zero_add, Nat.add_zero, Int.toNat_natCast, Option.isNone_none, Option.isNone_some, Bool.not_true, Bool.not_false, Bool.xor_true, Bool.xor_false, Bool.true_xor, Bool.false_xor, decide_true, decide_false, Bool.and_true, Bool.true_and, Bool.and_false, Bool.false_and, eq_self, ne_eq, not_false_eq_true, not_true_eq_false, true_and, and_true, and_self, wrapI64, wrapu64, wrapu32, wrapu8, ltT, ltF, leT, leF, eqF, eqT, nltT, nleT, neqFn]
    exact fun ρ a w hs _ => ⟨rfl, hs.grown⟩
  have e : varR ⟨R, false⟩ = varGo R 10 0 0 := by unfold varR; rw [if_neg (by simp)]
  rw [e]
  obtain ⟨m, hm, hm10⟩ : ∃ m : Nat, min (R.length : Int) 10 = (m : Int) ∧ m = min R.length 10 := ⟨min R.length 10, by omega, rfl⟩
  simp (disch := omega) only [go_sem, ↓reduceIte, Nat.reduceEqDiff, Nat.reduceLT, Nat.reduceLeDiff, Nat.reduceAdd, Nat.reduceMul, Nat.reduceSub, Nat.reduceDiv, Nat.reduceMod, Int.reduceToNat, Int.reduceLT, Int.reduceLE, Int.reduceAdd, Int.reduceSub, Int.reduceMul, Int.reduceEq, Int.reduceNeg, reduceCtorEq, or_false, false_or, decide_true, decide_false, Int.cast_ofNat_Int, Nat.zero_add, Nat.add_zero, Int.toNat_natCast, Option.isNone_none, Option.isNone_some, Bool.not_true, Bool.not_false, Bool.xor_true, Bool.xor_false, Bool.true_xor, Bool.false_xor, decide_true, decide_false, Bool.and_true, Bool.true_and, Bool.and_false, Bool.false_and, eq_self, ne_eq, not_false_eq_true, not_true_eq_false, true_and, and_true, and_self, wrapI64, wrapu64, wrapu32, wrapu8, ltT, ltF, leT, leF, eqF, eqT, nltT, nleT, neqFn, hsz, hm]
  refine sloop (fun p : Nat × Nat => ⟨[(14, .c (.v (.int .i64 (p.1 : Int)))), (13, .c (.v (.int .i64 (m : Int)))), (4, .c (.v (.int .u64 (p.2 : Int)))), (2, .c (.v (.int .u64 0))), (1, .c (.p 0 0 0)), (3, .c (.p 1 0 0))], [(1, .cells 152 [.v (.string ⟨#[]⟩), .v (.bool false)]), (0, .cells 152 [.v (.string (strN R)), .v (.bool false)])], 2⟩) (fun p => (p.1 ≤ m ∧ p.2 < 18446744073709551616) ∧ varGo R (10 - p.1) p.1 p.2 = varGo R 10 0 0) (fun p => m - p.1) (0, 0) ⟨⟨Nat.zero_le _, by decide⟩, rfl⟩ (ent_drop ⟨rfl, rfl, rfl, rfl, rfl, rfl, trivial⟩ ⟨rfl, rfl, trivial⟩ (by simp)) (fun p hp => ?_)
  obtain ⟨k, n⟩ := p
  obtain ⟨⟨hk, hn⟩, hgo⟩ : (k ≤ m ∧ n < 18446744073709551616) ∧ varGo R (10 - k) k n = varGo R 10 0 0 := hp
  by_cases hkm : k < m
  · obtain ⟨x, hx⟩ : ∃ x, R[k]? = some x := ⟨_, List.getElem?_eq_getElem (by omega)⟩
    have hx256 := hr x (List.mem_of_getElem? hx)
    have hbt : bt (strN R) (k : Int) = (x : Int) := bt_get (by rw [hbl, hx])
    have h127 := bAnd127 x hx256
    have h7 : (7 : Int) * (k : Int) = ((7 * k : Nat) : Int) := by omega
    have hmin : min (7 * k) 64 = 7 * k := by omega
    obtain ⟨v, hv⟩ : ∃ v, o64 n (sl64 (x % 128) (7 * k)) = v := ⟨_, rfl⟩
    have hv64 : v < 18446744073709551616 := by rw [← hv]; exact Nat.mod_lt _ (by omega)
    have hstep : varGo R (10 - k) k n = if 128 ≤ x then varGo R (10 - (k + 1)) (k + 1) v else if R.take (k + 1) = vary v then (v, ⟨R.drop (k + 1), false⟩) else (0, Rd.no) := by
      rw [show 10 - k = (10 - (k + 1)) + 1 by omega, varGo, hx]
      simp only [hv]
    rw [hstep] at hgo
    by_cases hx128 : 128 ≤ x
    · rw [if_pos hx128] at hgo
      simp (disch := omega) only [go_sem, ↓reduceIte, Nat.reduceEqDiff, Nat.reduceLT, Nat.reduceLeDiff, Nat.reduceAdd, Nat.reduceMul, Nat.reduceSub, Nat.reduceDiv, Nat.reduceMod, Int.reduceToNat, Int.reduceLT, Int.reduceLE, Int.reduceAdd, Int.reduceSub, Int.reduceMul, Int.reduceEq, Int.reduceNeg, reduceCtorEq, or_false, false_or, decide_true, decide_false, Int.cast_ofNat_Int, Nat.zero_add, Nat.add_zero, Int.toNat_natCast, Option.isNone_none, Option.isNone_some, Bool.not_true, Bool.not_false, Bool.xor_true, Bool.xor_false, Bool.true_xor, Bool.false_xor, decide_true, decide_false, Bool.and_true, Bool.true_and, Bool.and_false, Bool.false_and, eq_self, ne_eq, not_false_eq_true, not_true_eq_false, true_and, and_true, and_self, wrapI64, wrapu64, wrapu32, wrapu8, ltT, ltF, leT, leF, eqF, eqT, nltT, nleT, neqFn, hsz, hbt, h127, h7, wShl64, hmin, bOr64, hv]
      exact ⟨(k + 1, v), ⟨⟨hkm, hv64⟩, hgo⟩, by show m - (k + 1) < m - k; omega, ent_drop ⟨rfl, rfl, rfl, rfl, rfl, rfl, trivial⟩ ⟨rfl, rfl, trivial⟩ (by simp)⟩
    · rw [if_neg hx128] at hgo
      have a1 : (k : Int) + 1 = ((k + 1 : Nat) : Int) := by omega
      have hex : (strN R).extract 0 (k + 1) = strN (R.take (k + 1)) := by rw [extract_strN, List.drop_zero]
      have hex2 : (strN R).extract (k + 1) R.length = strN (R.drop (k + 1)) := by rw [extract_strN, List.take_length]
      have heq := strN_eq (a := R.take (k + 1)) (b := vary v) (fun x hx => hr x (List.mem_of_mem_take hx)) (fun x hx => vary_lt hx)
      simp (disch := omega) only [go_sem, ↓reduceIte, Nat.reduceEqDiff, Nat.reduceLT, Nat.reduceLeDiff, Nat.reduceAdd, Nat.reduceMul, Nat.reduceSub, Nat.reduceDiv, Nat.reduceMod, Int.reduceToNat, Int.reduceLT, Int.reduceLE, Int.reduceAdd, Int.reduceSub, Int.reduceMul, Int.reduceEq, Int.reduceNeg, reduceCtorEq, or_false, false_or, decide_true, decide_false, Int.cast_ofNat_Int, Nat.zero_add, Nat.add_zero, Int.toNat_natCast, Option.isNone_none, Option.isNone_some, Bool.not_true, Bool.not_false, Bool.xor_true, Bool.xor_false, Bool.true_xor, Bool.false_xor, decide_true, decide_false, Bool.and_true, Bool.true_and, Bool.and_false, Bool.false_and, eq_self, ne_eq, not_false_eq_true, not_true_eq_false, true_and, and_true, and_self, wrapI64, wrapu64, wrapu32, wrapu8, ltT, ltF, leT, leF, eqF, eqT, nltT, nleT, neqFn, hsz, hbt, h127, h7, wShl64, hmin, bOr64, hv]
      refine sdraw [.t 0, .t 1, .t 2, .t 3, .t 4, .t 5, .r 6, .t 7] 8 [(0, _)] rfl (by kernel_rfl) ⟨rfl, trivial⟩ ?_
      simp (disch := omega) only [go_sem, ↓reduceIte, Nat.reduceEqDiff, Nat.reduceLT, Nat.reduceLeDiff, Nat.reduceAdd, Nat.reduceMul, Nat.reduceSub, Nat.reduceDiv, Nat.reduceMod, Int.reduceToNat, Int.reduceLT, Int.reduceLE, Int.reduceAdd, Int.reduceSub, Int.reduceMul, Int.reduceEq, Int.reduceNeg, reduceCtorEq, or_false, false_or, decide_true, decide_false, Int.cast_ofNat_Int, Nat.zero_add, Nat.add_zero, Int.toNat_natCast, Option.isNone_none, Option.isNone_some, Bool.not_true, Bool.not_false, Bool.xor_true, Bool.xor_false, Bool.true_xor, Bool.false_xor, decide_true, decide_false, Bool.and_true, Bool.true_and, Bool.and_false, Bool.false_and, eq_self, ne_eq, not_false_eq_true, not_true_eq_false, true_and, and_true, and_self, wrapI64, wrapu64, wrapu32, wrapu8, ltT, ltF, leT, leF, eqF, eqT, nltT, nleT, neqFn, hsz, a1, hex]
      refine vary_s hv64 ?_
      by_cases hq : R.take (k + 1) = vary v
      · rw [if_pos hq] at hgo
        have hT : (strN (R.take (k + 1)) = strN (vary v)) = True := eq_true (heq.2 hq)
        simp (disch := omega) only [go_sem, ↓reduceIte, Nat.reduceEqDiff, Nat.reduceLT, Nat.reduceLeDiff, Nat.reduceAdd, Nat.reduceMul, Nat.reduceSub, Nat.reduceDiv, Nat.reduceMod, Int.reduceToNat, Int.reduceLT, Int.reduceLE, Int.reduceAdd, Int.reduceSub, Int.reduceMul, Int.reduceEq, Int.reduceNeg, reduceCtorEq, or_false, false_or, decide_true, decide_false, Int.cast_ofNat_Int, Nat.zero_add, Nat.add_zero, Int.toNat_natCast, Option.isNone_none, Option.isNone_some, Bool.not_true, Bool.not_false, Bool.xor_true, Bool.xor_false, Bool.true_xor, Bool.false_xor, decide_true, decide_false, Bool.and_true, Bool.true_and, Bool.and_false, Bool.false_and, eq_self, ne_eq, not_false_eq_true, not_true_eq_false, true_and, and_true, and_self, wrapI64, wrapu64, wrapu32, wrapu8, ltT, ltF, leT, leF, eqF, eqT, nltT, nleT, neqFn, hT]
        refine sdraw [.t 0, .t 1, .t 2, .t 3, .t 4, .t 5, .t 6, .t 7, .r 8] 8 [(0, _)] rfl (by kernel_rfl) ⟨rfl, trivial⟩ ?_
        simp (disch := omega) only [go_sem, ↓reduceIte, Nat.reduceEqDiff, Nat.reduceLT, Nat.reduceLeDiff, Nat.reduceAdd, Nat.reduceMul, Nat.reduceSub, Nat.reduceDiv, Nat.reduceMod, Int.reduceToNat, Int.reduceLT, Int.reduceLE, Int.reduceAdd, Int.reduceSub, Int.reduceMul, Int.reduceEq, Int.reduceNeg, reduceCtorEq, or_false, false_or, decide_true, decide_false, Int.cast_ofNat_Int, Nat.zero_add, Nat.add_zero, Int.toNat_natCast, Option.isNone_none, Option.isNone_some, Bool.not_true, Bool.not_false, Bool.xor_true, Bool.xor_false, Bool.true_xor, Bool.false_xor, decide_true, decide_false, Bool.and_true, Bool.true_and, Bool.and_false, Bool.false_and, eq_self, ne_eq, not_false_eq_true, not_true_eq_false, true_and, and_true, and_self, wrapI64, wrapu64, wrapu32, wrapu8, ltT, ltF, leT, leF, eqF, eqT, nltT, nleT, neqFn, hsz, a1, hex2]
        rw [← hgo]
        exact fun ρ a w hs _ => ⟨rfl, hs.grown⟩
      · rw [if_neg hq] at hgo
        have hF : (strN (R.take (k + 1)) = strN (vary v)) = False := eq_false fun h => hq (heq.1 h)
        simp (disch := omega) only [go_sem, ↓reduceIte, Nat.reduceEqDiff, Nat.reduceLT, Nat.reduceLeDiff, Nat.reduceAdd, Nat.reduceMul, Nat.reduceSub, Nat.reduceDiv, Nat.reduceMod, Int.reduceToNat, Int.reduceLT, Int.reduceLE, Int.reduceAdd, Int.reduceSub, Int.reduceMul, Int.reduceEq, Int.reduceNeg, reduceCtorEq, or_false, false_or, decide_true, decide_false, Int.cast_ofNat_Int, Nat.zero_add, Nat.add_zero, Int.toNat_natCast, Option.isNone_none, Option.isNone_some, Bool.not_true, Bool.not_false, Bool.xor_true, Bool.xor_false, Bool.true_xor, Bool.false_xor, decide_true, decide_false, Bool.and_true, Bool.true_and, Bool.and_false, Bool.false_and, eq_self, ne_eq, not_false_eq_true, not_true_eq_false, true_and, and_true, and_self, wrapI64, wrapu64, wrapu32, wrapu8, ltT, ltF, leT, leF, eqF, eqT, nltT, nleT, neqFn, hF]
        refine bad_s ?_
        simp (disch := omega) only [go_sem, ↓reduceIte, Nat.reduceEqDiff, Nat.reduceLT, Nat.reduceLeDiff, Nat.reduceAdd, Nat.reduceMul, Nat.reduceSub, Nat.reduceDiv, Nat.reduceMod, Int.reduceToNat, Int.reduceLT, Int.reduceLE, Int.reduceAdd, Int.reduceSub, Int.reduceMul, Int.reduceEq, Int.reduceNeg, reduceCtorEq, or_false, false_or, decide_true, decide_false, Int.cast_ofNat_Int, Nat.zero_add, Nat.add_zero, Int.toNat_natCast, Option.isNone_none, Option.isNone_some, Bool.not_true, Bool.not_false, Bool.xor_true, Bool.xor_false, Bool.true_xor, Bool.false_xor, decide_true, decide_false, Bool.and_true, Bool.true_and, Bool.and_false, Bool.false_and, eq_self, ne_eq, not_false_eq_true, not_true_eq_false, true_and, and_true, and_self, wrapI64, wrapu64, wrapu32, wrapu8, ltT, ltF, leT, leF, eqF, eqT, nltT, nleT, neqFn]
        rw [← hgo]
        exact fun ρ a w hs _ => ⟨rfl, hs.grown⟩
  · have hkm' : k = m := by omega
    have hend : varGo R (10 - k) k n = (0, Rd.no) := by
      rcases Nat.lt_or_ge k 10 with h | h
      · rw [show 10 - k = (10 - (k + 1)) + 1 by omega, varGo, List.getElem?_eq_none (by omega)]
      · rw [show 10 - k = 0 by omega]; rfl
    rw [← hgo, hend]
    simp (disch := omega) only [go_sem, ↓reduceIte, Nat.reduceEqDiff, Nat.reduceLT, Nat.reduceLeDiff, Nat.reduceAdd, Nat.reduceMul, Nat.reduceSub, Nat.reduceDiv, Nat.reduceMod, Int.reduceToNat, Int.reduceLT, Int.reduceLE, Int.reduceAdd, Int.reduceSub, Int.reduceMul, Int.reduceEq, Int.reduceNeg, reduceCtorEq, or_false, false_or, decide_true, decide_false, Int.cast_ofNat_Int, Nat.zero_add, Nat.add_zero, Int.toNat_natCast, Option.isNone_none, Option.isNone_some, Bool.not_true, Bool.not_false, Bool.xor_true, Bool.xor_false, Bool.true_xor, Bool.false_xor, decide_true, decide_false, Bool.and_true, Bool.true_and, Bool.and_false, Bool.false_and, eq_self, ne_eq, not_false_eq_true, not_true_eq_false, true_and, and_true, and_self, wrapI64, wrapu64, wrapu32, wrapu8, ltT, ltF, leT, leF, eqF, eqT, nltT, nleT, neqFn]
    refine bad_s ?_
    simp (disch := omega) only [go_sem, ↓reduceIte, Nat.reduceEqDiff, Nat.reduceLT, Nat.reduceLeDiff, Nat.reduceAdd, Nat.reduceMul, Nat.reduceSub, Nat.reduceDiv, Nat.reduceMod, Int.reduceToNat, Int.reduceLT, Int.reduceLE, Int.reduceAdd, Int.reduceSub, Int.reduceMul, Int.reduceEq, Int.reduceNeg, reduceCtorEq, or_false, false_or, decide_true, decide_false, Int.cast_ofNat_Int, Nat.zero_add, Nat.add_zero, Int.toNat_natCast, Option.isNone_none, Option.isNone_some, Bool.not_true, Bool.not_false, Bool.xor_true, Bool.xor_false, Bool.true_xor, Bool.false_xor, decide_true, decide_false, Bool.and_true, Bool.true_and, Bool.and_false, Bool.false_and, eq_self, ne_eq, not_false_eq_true, not_true_eq_false, true_and, and_true, and_self, wrapI64, wrapu64, wrapu32, wrapu8, ltT, ltF, leT, leF, eqF, eqT, nltT, nleT, neqFn]
    exact fun ρ a w hs _ => ⟨rfl, hs.grown⟩
section
variable {C : Cx} {fr : List (Nat × SV)} {hp : List (Nat × Blk)} {nx : Nat} {d : Option Tmp} {K : St → Prop}
theorem rnum_s {r : Rd} (hr : r.ok) (hl : r.rest.length ≤ 9223372036854775807) (k : Nat) {m : Int} (hm : m = (k : Int)) (hk : 1 ≤ k ∧ k ≤ 8) (h : dOk C.N d ∧ kput K ⟨fr, hp, nx⟩ d (.tup [.c (.v (.int .u64 ((numR r k).1 : Int))), .agg [.v (.string (strN (numR r k).2.rest)), .v (.bool (numR r k).2.bad)]])) : SCall Try.prog C 90 [.agg [.v (.string (strN r.rest)), .v (.bool r.bad)], .c (.v (.int .i64 m))] d K ⟨fr, hp, nx⟩ := by
  subst hm
  exact scall_pure [Rd.v r, .int .i64 (k : Int)] _ (.tuple #[.int .u64 ((numR r k).1 : Int), Rd.v (numR r k).2]) Try.call90 (rnum_c r hr hl k hk) rfl (fun _ => rfl) (fun _ => rfl) h
theorem rvary_s {r : Rd} (hr : r.ok) (hl : r.rest.length ≤ 9223372036854775807) (h : dOk C.N d ∧ kput K ⟨fr, hp, nx⟩ d (.tup [.c (.v (.int .u64 ((varR r).1 : Int))), .agg [.v (.string (strN (varR r).2.rest)), .v (.bool (varR r).2.bad)]])) : SCall Try.prog C 122 [.agg [.v (.string (strN r.rest)), .v (.bool r.bad)]] d K ⟨fr, hp, nx⟩ :=
  scall_pure [Rd.v r] _ (.tuple #[.int .u64 ((varR r).1 : Int), Rd.v (varR r).2]) Try.call122 (rvary_c r hr hl) rfl (fun _ => rfl) (fun _ => rfl) h
end
theorem varGo_lt (R : List Nat) : ∀ f k n, (varGo R f k n).1 < 18446744073709551616
  | 0, _, _ => by show 0 < _; omega
  | f + 1, k, n => by
    rw [varGo]
    split
    · show 0 < _; omega
    · split
      · exact varGo_lt R f _ _
      · split
        · exact Nat.mod_lt _ (by omega)
        · show 0 < _; omega
theorem varR_lt (r : Rd) : (varR r).1 < 18446744073709551616 := by
  unfold varR
  split
  · show 0 < _; omega
  · exact varGo_lt _ _ _ _
set_option maxRecDepth 100000 in
set_option maxHeartbeats 1000000 in
theorem rtext_c (r : Rd) (hr : r.ok) (hl : r.rest.length ≤ 9223372036854775807) (k : Nat) (hk : k ≤ 9223372036854775807) (w : World) : Calls Try.prog 91 #[Rd.v r, .int .i64 (k : Int)] w fun e w' => e = .returned (.tuple #[.string (strN (txtR r k).1), Rd.v (txtR r k).2]) ∧ Below w.heap.size w w' := by
  refine calls_pure 38 _ Try.func91 rfl Try.ntmps91 Try.results91 [.agg [.v (.string (strN r.rest)), .v (.bool r.bad)], .c (.v (.int .i64 (k : Int)))] (by simp) (fun _ => rfl) ?_
  obtain ⟨q1, q2⟩ := varR_ok hr
  have q3 := varR_lt r
  simp (disch := omega) only [go_sem, ↓reduceIte, Nat.reduceEqDiff, Nat.reduceLT, Nat.reduceLeDiff, Nat.reduceAdd, Nat.reduceMul, Nat.reduceSub, Nat.reduceDiv, Nat.reduceMod, Int.reduceToNat, Int.reduceLT, Int.reduceLE, Int.reduceAdd, Int.reduceSub, Int.reduceMul, Int.reduceEq, Int.reduceNeg, reduceCtorEq, or_false, false_or, decide_true, decide_false, Int.cast_ofNat_Int, Nat.zero_add, Nat.add_zero, Int.toNat_natCast, Option.isNone_none, Option.isNone_some, Bool.not_true, Bool.not_false, Bool.xor_true, Bool.xor_false, Bool.true_xor, Bool.false_xor, decide_true, decide_false, Bool.and_true, Bool.true_and, Bool.and_false, Bool.false_and, eq_self, ne_eq, not_false_eq_true, not_true_eq_false, true_and, and_true, and_self, wrapI64, wrapu64, wrapu32, wrapu8, ltT, ltF, leT, leF, eqF, eqT, nltT, nleT, neqFn]
  refine rvary_s hr hl ?_
  obtain ⟨p, hp⟩ : ∃ p, varR r = p := ⟨_, rfl⟩
  unfold txtR
  rw [hp] at q1 q2 q3 ⊢
  obtain ⟨n, R, b⟩ := p
  have q1 : ∀ x, x ∈ R → x < 256 := q1
  have q2 : R.length ≤ r.rest.length := q2
  have q3 : n < 18446744073709551616 := q3
  have hsz := strN_size R
  show _ ∧ kput _ _ _ _
  dsimp only
  cases b
  case true =>
    rw [if_pos (.inl rfl)]
    simp (disch := omega) only [go_sem, ↓reduceIte, Nat.reduceEqDiff, Nat.reduceLT, Nat.reduceLeDiff, Nat.reduceAdd, Nat.reduceMul, Nat.reduceSub, Nat.reduceDiv, Nat.reduceMod, Int.reduceToNat, Int.reduceLT, Int.reduceLE, Int.reduceAdd, Int.reduceSub, Int.reduceMul, Int.reduceEq, Int.reduceNeg, reduceCtorEq, or_false, false_or, decide_true, decide_false, Int.cast_ofNat_Int, Nat.zero_add, Nat.add_zero, Int.toNat_natCast, Option.isNone_none, Option.isNone_some, Bool.not_true, Bool.not_false, Bool.xor_true, Bool.xor_false, Bool.true_xor, Bool.false_xor, decide_true, decide_false, Bool.and_true, Bool.true_and, Bool.and_false, Bool.false_and, eq_self, ne_eq, not_false_eq_true, not_true_eq_false, true_and, and_true, and_self, wrapI64, wrapu64, wrapu32, wrapu8, ltT, ltF, leT, leF, eqF, eqT, nltT, nleT, neqFn]
    refine bad_s ?_
    simp (disch := omega) only [go_sem, ↓reduceIte, Nat.reduceEqDiff, Nat.reduceLT, Nat.reduceLeDiff, Nat.reduceAdd, Nat.reduceMul, Nat.reduceSub, Nat.reduceDiv, Nat.reduceMod, Int.reduceToNat, Int.reduceLT, Int.reduceLE, Int.reduceAdd, Int.reduceSub, Int.reduceMul, Int.reduceEq, Int.reduceNeg, reduceCtorEq, or_false, false_or, decide_true, decide_false, Int.cast_ofNat_Int, Nat.zero_add, Nat.add_zero, Int.toNat_natCast, Option.isNone_none, Option.isNone_some, Bool.not_true, Bool.not_false, Bool.xor_true, Bool.xor_false, Bool.true_xor, Bool.false_xor, decide_true, decide_false, Bool.and_true, Bool.true_and, Bool.and_false, Bool.false_and, eq_self, ne_eq, not_false_eq_true, not_true_eq_false, true_and, and_true, and_self, wrapI64, wrapu64, wrapu32, wrapu8, ltT, ltF, leT, leF, eqF, eqT, nltT, nleT, neqFn]
    exact fun ρ a w hs _ => ⟨rfl, hs.grown⟩
  obtain ⟨m, hm, hmk⟩ : ∃ m : Nat, min (k : Int) (R.length : Int) = (m : Int) ∧ m = min k R.length := ⟨min k R.length, by omega, rfl⟩
  rw [← hmk]
  by_cases h : m < n
  · rw [if_pos (.inr h)]
    simp (disch := omega) only [go_sem, ↓reduceIte, Nat.reduceEqDiff, Nat.reduceLT, Nat.reduceLeDiff, Nat.reduceAdd, Nat.reduceMul, Nat.reduceSub, Nat.reduceDiv, Nat.reduceMod, Int.reduceToNat, Int.reduceLT, Int.reduceLE, Int.reduceAdd, Int.reduceSub, Int.reduceMul, Int.reduceEq, Int.reduceNeg, reduceCtorEq, or_false, false_or, decide_true, decide_false, Int.cast_ofNat_Int, Nat.zero_add, Nat.add_zero, Int.toNat_natCast, Option.isNone_none, Option.isNone_some, Bool.not_true, Bool.not_false, Bool.xor_true, Bool.xor_false, Bool.true_xor, Bool.false_xor, decide_true, decide_false, Bool.and_true, Bool.true_and, Bool.and_false, Bool.false_and, eq_self, ne_eq, not_false_eq_true, not_true_eq_false, true_and, and_true, and_self, wrapI64, wrapu64, wrapu32, wrapu8, ltT, ltF, leT, leF, eqF, eqT, nltT, nleT, neqFn, hsz, hm]
    refine bad_s ?_
    simp (disch := omega) only [go_sem, ↓reduceIte, Nat.reduceEqDiff, Nat.reduceLT, Nat.reduceLeDiff, Nat.reduceAdd, Nat.reduceMul, Nat.reduceSub, Nat.reduceDiv, Nat.reduceMod, Int.reduceToNat, Int.reduceLT, Int.reduceLE, Int.reduceAdd, Int.reduceSub, Int.reduceMul, Int.reduceEq, Int.reduceNeg, reduceCtorEq, or_false, false_or, decide_true, decide_false, Int.cast_ofNat_Int, Nat.zero_add, Nat.add_zero, Int.toNat_natCast, Option.isNone_none, Option.isNone_some, Bool.not_true, Bool.not_false, Bool.xor_true, Bool.xor_false, Bool.true_xor, Bool.false_xor, decide_true, decide_false, Bool.and_true, Bool.true_and, Bool.and_false, Bool.false_and, eq_self, ne_eq, not_false_eq_true, not_true_eq_false, true_and, and_true, and_self, wrapI64, wrapu64, wrapu32, wrapu8, ltT, ltF, leT, leF, eqF, eqT, nltT, nleT, neqFn]
    exact fun ρ a w hs _ => ⟨rfl, hs.grown⟩
  · rw [if_neg (by simp; omega)]
    have hex : (strN R).extract 0 n = strN (R.take n) := by rw [extract_strN, List.drop_zero]
    have hex2 : (strN R).extract n R.length = strN (R.drop n) := by rw [extract_strN, List.take_length]
    simp (disch := omega) only [go_sem, ↓reduceIte, Nat.reduceEqDiff, Nat.reduceLT, Nat.reduceLeDiff, Nat.reduceAdd, Nat.reduceMul, Nat.reduceSub, Nat.reduceDiv, Nat.reduceMod, Int.reduceToNat, Int.reduceLT, Int.reduceLE, Int.reduceAdd, Int.reduceSub, Int.reduceMul, Int.reduceEq, Int.reduceNeg, reduceCtorEq, or_false, false_or, decide_true, decide_false, Int.cast_ofNat_Int, Nat.zero_add, Nat.add_zero, Int.toNat_natCast, Option.isNone_none, Option.isNone_some, Bool.not_true, Bool.not_false, Bool.xor_true, Bool.xor_false, Bool.true_xor, Bool.false_xor, decide_true, decide_false, Bool.and_true, Bool.true_and, Bool.and_false, Bool.false_and, eq_self, ne_eq, not_false_eq_true, not_true_eq_false, true_and, and_true, and_self, wrapI64, wrapu64, wrapu32, wrapu8, ltT, ltF, leT, leF, eqF, eqT, nltT, nleT, neqFn, hsz, hm]
    refine sdraw [.t 0, .t 1, .t 2, .t 3, .t 4, .t 5, .t 6, .t 7, .t 8, .t 9, .r 10] 10 [(0, _)] rfl (by kernel_rfl) ⟨rfl, trivial⟩ ?_
    simp (disch := omega) only [go_sem, ↓reduceIte, Nat.reduceEqDiff, Nat.reduceLT, Nat.reduceLeDiff, Nat.reduceAdd, Nat.reduceMul, Nat.reduceSub, Nat.reduceDiv, Nat.reduceMod, Int.reduceToNat, Int.reduceLT, Int.reduceLE, Int.reduceAdd, Int.reduceSub, Int.reduceMul, Int.reduceEq, Int.reduceNeg, reduceCtorEq, or_false, false_or, decide_true, decide_false, Int.cast_ofNat_Int, Nat.zero_add, Nat.add_zero, Int.toNat_natCast, Option.isNone_none, Option.isNone_some, Bool.not_true, Bool.not_false, Bool.xor_true, Bool.xor_false, Bool.true_xor, Bool.false_xor, decide_true, decide_false, Bool.and_true, Bool.true_and, Bool.and_false, Bool.false_and, eq_self, ne_eq, not_false_eq_true, not_true_eq_false, true_and, and_true, and_self, wrapI64, wrapu64, wrapu32, wrapu8, ltT, ltF, leT, leF, eqF, eqT, nltT, nleT, neqFn, hsz, hex, hex2]
    exact fun ρ a w hs _ => ⟨rfl, hs.grown⟩
theorem rtext_s {C : Cx} {fr : List (Nat × SV)} {hp : List (Nat × Blk)} {nx : Nat} {d : Option Tmp} {K : St → Prop} {r : Rd} (hr : r.ok) (hl : r.rest.length ≤ 9223372036854775807) (k : Nat) {m : Int} (hm : m = (k : Int)) (hk : k ≤ 9223372036854775807) (h : dOk C.N d ∧ kput K ⟨fr, hp, nx⟩ d (.tup [.c (.v (.string (strN (txtR r k).1))), .agg [.v (.string (strN (txtR r k).2.rest)), .v (.bool (txtR r k).2.bad)]])) : SCall Try.prog C 91 [.agg [.v (.string (strN r.rest)), .v (.bool r.bad)], .c (.v (.int .i64 m))] d K ⟨fr, hp, nx⟩ := by
  subst hm
  exact scall_pure [Rd.v r, .int .i64 (k : Int)] _ (.tuple #[.string (strN (txtR r k).1), Rd.v (txtR r k).2]) Try.call91 (rtext_c r hr hl k hk) rfl (fun _ => rfl) (fun _ => rfl) h
theorem text_s {C : Cx} {fr : List (Nat × SV)} {hp : List (Nat × Blk)} {nx : Nat} {d : Option Tmp} {K : St → Prop} {s : ByteArray} (hs : s.size ≤ 4611686018427387000) (h : dOk C.N d ∧ kput K ⟨fr, hp, nx⟩ d (.c (.v (.string (strN (vary s.size ++ bl s)))))) : SCall Try.prog C 88 [.c (.v (.string s))] d K ⟨fr, hp, nx⟩ :=
  scall_pure [.string s] _ (.string (strN (vary s.size ++ bl s))) Try.call88 (text_c s hs) rfl (fun _ => rfl) (fun _ => rfl) h
end Go.Proofs.Ytbdffcgbleiiaaa
