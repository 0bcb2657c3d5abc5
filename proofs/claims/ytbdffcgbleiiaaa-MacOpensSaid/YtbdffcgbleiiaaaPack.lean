/-
  pack: Number, Vary, Text; what is read. Conditions: none.
-/
import Derived.Test.YtbdffcgbleiiaaaSha4
import Derived.Test.YtbdffcgbleiiaaaPackM
namespace Go.Proofs.Ytbdffcgbleiiaaa
open Go.RowKit Go.Sx Go.Sha Go.Pk
set_option linter.unusedVariables false
set_option linter.unusedSimpArgs false

theorem num_min : min 0 64 = 0 ∧ min 8 64 = 8 ∧ min 16 64 = 16 ∧ min 24 64 = 24 ∧ min 32 64 = 32 ∧ min 40 64 = 40 ∧ min 48 64 = 48 ∧ min 56 64 = 56 := by decide
set_option maxHeartbeats 1000000 in
set_option maxRecDepth 100000 in
theorem number_c (n k : Nat) (hk : k = 1 ∨ k = 2 ∨ k = 4 ∨ k = 8) (w : World) : Calls Try.prog 87 #[.int .u64 (n : Int), .int .i64 (k : Int)] w fun e w' => e = .returned (.string (strN (be n k))) ∧ Below w.heap.size w w' := by
  refine calls_pure 31 _ Try.func87 rfl Try.ntmps87 Try.results87 [.c (.v (.int .u64 (n : Int))), .c (.v (.int .i64 (k : Int)))] (by simp) (fun _ => rfl) ?_
  have be8 : ∀ m, be m 8 = [sr m 56 % 256, sr m 48 % 256, sr m 40 % 256, sr m 32 % 256, sr m 24 % 256, sr m 16 % 256, sr m 8 % 256, sr m 0 % 256] := fun m => rfl
  have be4 : ∀ m, be m 4 = [sr m 24 % 256, sr m 16 % 256, sr m 8 % 256, sr m 0 % 256] := fun m => rfl
  have be2 : ∀ m, be m 2 = [sr m 8 % 256, sr m 0 % 256] := fun m => rfl
  have be1 : ∀ m, be m 1 = [sr m 0 % 256] := fun m => rfl
  rcases hk with rfl | rfl | rfl | rfl
  all_goals
    simp (disch := omega) only [go_sem, ↓reduceIte, Nat.reduceEqDiff, Nat.reduceLT, Nat.reduceLeDiff, Nat.reduceAdd, Nat.reduceMul, Nat.reduceSub, Nat.reduceDiv, Nat.reduceMod, Int.reduceToNat, Int.reduceLT, Int.reduceLE, Int.reduceAdd, Int.reduceSub, Int.reduceMul, Int.reduceEq, Int.reduceNeg, reduceCtorEq, or_false, false_or, decide_true, decide_false, Int.cast_ofNat_Int, Nat.zero_add, Nat.add_zero, Int.toNat_natCast, Option.isNone_none, Option.isNone_some, Bool.not_true, Bool.not_false, Bool.xor_true, Bool.xor_false, Bool.true_xor, Bool.false_xor, decide_true, decide_false, Bool.and_true, Bool.true_and, Bool.and_false, Bool.false_and, eq_self, ne_eq, not_false_eq_true, not_true_eq_false, true_and, and_true, and_self, wrapI64, wrapu64, wrapu32, wrapu8, ltT, ltF, leT, leF, eqF, eqT, nltT, nleT, neqFn]
    refine sloop_rounds 9 ?_
    simp (disch := omega) only [go_sem, ↓reduceIte, Nat.reduceEqDiff, Nat.reduceLT, Nat.reduceLeDiff, Nat.reduceAdd, Nat.reduceMul, Nat.reduceSub, Nat.reduceDiv, Nat.reduceMod, Int.reduceToNat, Int.reduceLT, Int.reduceLE, Int.reduceAdd, Int.reduceSub, Int.reduceMul, Int.reduceEq, Int.reduceNeg, reduceCtorEq, or_false, false_or, decide_true, decide_false, Int.cast_ofNat_Int, Nat.zero_add, Nat.add_zero, Int.toNat_natCast, Option.isNone_none, Option.isNone_some, Bool.not_true, Bool.not_false, Bool.xor_true, Bool.xor_false, Bool.true_xor, Bool.false_xor, decide_true, decide_false, Bool.and_true, Bool.true_and, Bool.and_false, Bool.false_and, eq_self, ne_eq, not_false_eq_true, not_true_eq_false, true_and, and_true, and_self, wrapI64, wrapu64, wrapu32, wrapu8, ltT, ltF, leT, leF, eqF, eqT, nltT, nleT, neqFn, wShr, wU8, num_min]
  · rw [be1]
    exact fun ρ a w hs _ => ⟨rfl, hs.grown⟩
  · rw [be2]
    exact fun ρ a w hs _ => ⟨rfl, hs.grown⟩
  · rw [be4]
    exact fun ρ a w hs _ => ⟨rfl, hs.grown⟩
  · rw [be8]
    exact fun ρ a w hs _ => ⟨rfl, hs.grown⟩
abbrev VP := Nat × Nat × List Nat × Option Nat
def vF (p : VP) : St := match p with
  | (_, m, _, none) => ⟨[(0, .c (.v (.int .u64 (m : Int)))), (3, .c (.v (.slice none 0 0)))], [], 1⟩
  | (_, m, L, some c) => ⟨[(0, .c (.v (.int .u64 (m : Int)))), (3, .c (.s 0 0 L.length c))], [(0, .rows 5 1 L.length c (brL L))], 1⟩
theorem v_ent (n : Nat) {fr : List (Nat × SV)} {hp : List (Nat × Blk)} {nx : Nat} {C : Cx} {f m c l : Nat} {L : List Nat} (hC : C.n0 = 0) (hl : l = L.length) (f0 : lk fr 0 = .c (.v (.int .u64 (m : Int)))) (f3 : lk fr 3 = .c (.s n 0 l c)) (hg : hget hp n = some (.rows 5 1 l c (brL L))) : Ent C ⟨fr, hp, nx⟩ (vF (f, m, L, some c)) := by
  subst hl
  unfold vF
  refine ent_of (fun k => if k = 0 then n else k) ⟨⟨trivial, f0⟩, ⟨by show 0 < 1; omega, f3⟩, trivial⟩ ⟨⟨by omega, ?_, ?_⟩, trivial⟩ (by simp) (by rw [hC]; omega) (fun k hk => by rw [hC] at hk; exact absurd hk (Nat.not_lt_zero _))
  · intro i hi
    rw [brL_get (List.getElem?_eq_getElem hi)]
    simp [CV.blL, CV.bl]
  · show hget hp n = _
    rw [hg]
    simp only [Blk.rn]
    congr 2
    funext i
    unfold brL
    rw [CV.rnL_eq, List.map_map]; rfl
theorem m7 : min 7 64 = 7 := rfl
set_option maxHeartbeats 1000000 in
theorem vary_c (n : Nat) (hn : n < 18446744073709551616) (w : World) : Calls Try.prog 118 #[.int .u64 (n : Int)] w fun e w' => e = .returned (.string (strN (vary n))) ∧ Below w.heap.size w w' := by
  refine calls_pure 20 _ Try.func118 rfl Try.ntmps118 Try.results118 [.c (.v (.int .u64 (n : Int)))] (by simp) (fun _ => rfl) ?_
  simp (disch := omega) only [go_sem, ↓reduceIte, Nat.reduceEqDiff, Nat.reduceLT, Nat.reduceLeDiff, Nat.reduceAdd, Nat.reduceMul, Nat.reduceSub, Nat.reduceDiv, Nat.reduceMod, Int.reduceToNat, Int.reduceLT, Int.reduceLE, Int.reduceAdd, Int.reduceSub, Int.reduceMul, Int.reduceEq, Int.reduceNeg, reduceCtorEq, or_false, false_or, decide_true, decide_false, Int.cast_ofNat_Int, Nat.zero_add, Nat.add_zero, Int.toNat_natCast, Option.isNone_none, Option.isNone_some, Bool.not_true, Bool.not_false, Bool.xor_true, Bool.xor_false, Bool.true_xor, Bool.false_xor, decide_true, decide_false, Bool.and_true, Bool.true_and, Bool.and_false, Bool.false_and, eq_self, ne_eq, not_false_eq_true, not_true_eq_false, true_and, and_true, and_self, wrapI64, wrapu64, wrapu32, wrapu8, ltT, ltF, leT, leF, eqF, eqT, nltT, nleT, neqFn]
  refine sloop vF (fun p => (p.2.2.1 ++ varyF p.1 p.2.1 = vary n ∧ p.2.1 < 128 ^ (p.1 + 1)) ∧ (p.2.1 < 18446744073709551616 ∧ p.2.2.1.length + p.1 ≤ 10) ∧ (p.2.2.2 = none → p.2.2.1 = []) ∧ ∀ c, p.2.2.2 = some c → p.2.2.1.length ≤ c) (fun p => p.2.1) (10, n, [], none)
    ⟨⟨rfl, Nat.lt_of_lt_of_le hn (by show 18446744073709551616 ≤ 128 ^ 11; decide)⟩, ⟨hn, by simp⟩, fun _ => rfl, fun c hc => by cases hc⟩ (ent_low ⟨rfl, rfl, trivial⟩ trivial (by simp) (by simp [frBl, SV.bl, CV.bl]) trivial (by simp)) (fun p hp => ?_)
  obtain ⟨f, m, L, oc⟩ := p
  obtain ⟨⟨hL, hm⟩, ⟨hm64, hlf⟩, hnone, hsome⟩ : (L ++ varyF f m = vary n ∧ m < 128 ^ (f + 1)) ∧ (m < 18446744073709551616 ∧ L.length + f ≤ 10) ∧ (oc = none → L = []) ∧ ∀ c, oc = some c → L.length ≤ c := hp
  by_cases h : m < 128
  · have hm256 : m % 256 = m := by omega
    have hv : varyF f m = [m] := by
      cases f with
      | zero => rw [varyF, hm256]
      | succ f => rw [varyF, if_pos h]
    rw [hv] at hL
    rcases oc with _ | c
    · obtain rfl := hnone rfl
      unfold vF
      have hb0 : brL [m] 0 = [c8 m] := brL_get rfl
      simp (disch := omega) only [go_sem, ↓reduceIte, Nat.reduceEqDiff, Nat.reduceLT, Nat.reduceLeDiff, Nat.reduceAdd, Nat.reduceMul, Nat.reduceSub, Nat.reduceDiv, Nat.reduceMod, Int.reduceToNat, Int.reduceLT, Int.reduceLE, Int.reduceAdd, Int.reduceSub, Int.reduceMul, Int.reduceEq, Int.reduceNeg, reduceCtorEq, or_false, false_or, decide_true, decide_false, Int.cast_ofNat_Int, Nat.zero_add, Nat.add_zero, Int.toNat_natCast, Option.isNone_none, Option.isNone_some, Bool.not_true, Bool.not_false, Bool.xor_true, Bool.xor_false, Bool.true_xor, Bool.false_xor, decide_true, decide_false, Bool.and_true, Bool.true_and, Bool.and_false, Bool.false_and, eq_self, ne_eq, not_false_eq_true, not_true_eq_false, true_and, and_true, and_self, wrapI64, wrapu64, wrapu32, wrapu8, ltT, ltF, leT, leF, eqF, eqT, nltT, nleT, neqFn, wU8, hm256]
      refine sappendB_nil [m] rfl rfl tkind110 tsz5 tby5 tz5 rfl rfl ⟨⟨rfl, by decide⟩, Nat.le_refl _, fun i _ => by rw [rows1, Nat.zero_add]⟩ (by omega) ⟨by show (18 : Nat) < 20; omega, fun c' hc' => ?_⟩
      simp (disch := omega) only [go_sem, ↓reduceIte, Nat.reduceEqDiff, Nat.reduceLT, Nat.reduceLeDiff, Nat.reduceAdd, Nat.reduceMul, Nat.reduceSub, Nat.reduceDiv, Nat.reduceMod, Int.reduceToNat, Int.reduceLT, Int.reduceLE, Int.reduceAdd, Int.reduceSub, Int.reduceMul, Int.reduceEq, Int.reduceNeg, reduceCtorEq, or_false, false_or, decide_true, decide_false, Int.cast_ofNat_Int, Nat.zero_add, Nat.add_zero, Int.toNat_natCast, Option.isNone_none, Option.isNone_some, Bool.not_true, Bool.not_false, Bool.xor_true, Bool.xor_false, Bool.true_xor, Bool.false_xor, decide_true, decide_false, Bool.and_true, Bool.true_and, Bool.and_false, Bool.false_and, eq_self, ne_eq, not_false_eq_true, not_true_eq_false, true_and, and_true, and_self, wrapI64, wrapu64, wrapu32, wrapu8, ltT, ltF, leT, leF, eqF, eqT, nltT, nleT, neqFn, hb0]
      rw [← hL]
      exact fun ρ a w hs _ => ⟨rfl, hs.grown⟩
    · have hc1 := hsome c rfl
      unfold vF
      simp (disch := omega) only [go_sem, ↓reduceIte, Nat.reduceEqDiff, Nat.reduceLT, Nat.reduceLeDiff, Nat.reduceAdd, Nat.reduceMul, Nat.reduceSub, Nat.reduceDiv, Nat.reduceMod, Int.reduceToNat, Int.reduceLT, Int.reduceLE, Int.reduceAdd, Int.reduceSub, Int.reduceMul, Int.reduceEq, Int.reduceNeg, reduceCtorEq, or_false, false_or, decide_true, decide_false, Int.cast_ofNat_Int, Nat.zero_add, Nat.add_zero, Int.toNat_natCast, Option.isNone_none, Option.isNone_some, Bool.not_true, Bool.not_false, Bool.xor_true, Bool.xor_false, Bool.true_xor, Bool.false_xor, decide_true, decide_false, Bool.and_true, Bool.true_and, Bool.and_false, Bool.false_and, eq_self, ne_eq, not_false_eq_true, not_true_eq_false, true_and, and_true, and_self, wrapI64, wrapu64, wrapu32, wrapu8, ltT, ltF, leT, leF, eqF, eqT, nltT, nleT, neqFn, wU8, hm256]
      refine sappendB L [m] rfl rfl tkind110 tsz5 tby5 tz5 rfl rfl rfl ⟨rfl, Nat.le_refl _, fun i _ => rfl⟩ ⟨rfl, Nat.le_refl _, by decide, fun i _ => by rw [rows1, Nat.zero_add]⟩ (by omega) ⟨by show (18 : Nat) < 20; omega, fun c' hc' => ?_⟩
      obtain ⟨q, hq⟩ : ∃ q, L.length + 1 = q := ⟨_, rfl⟩
      rw [hq] at hc' ⊢
      have hby := byL_br (L := L ++ [m]) (n := q) (i := 0) (by simp; omega)
      rw [List.drop_zero, List.take_of_length_le (by simp; omega)] at hby
      simp (disch := omega) only [go_sem, ↓reduceIte, Nat.reduceEqDiff, Nat.reduceLT, Nat.reduceLeDiff, Nat.reduceAdd, Nat.reduceMul, Nat.reduceSub, Nat.reduceDiv, Nat.reduceMod, Int.reduceToNat, Int.reduceLT, Int.reduceLE, Int.reduceAdd, Int.reduceSub, Int.reduceMul, Int.reduceEq, Int.reduceNeg, reduceCtorEq, or_false, false_or, decide_true, decide_false, Int.cast_ofNat_Int, Nat.zero_add, Nat.add_zero, Int.toNat_natCast, Option.isNone_none, Option.isNone_some, Bool.not_true, Bool.not_false, Bool.xor_true, Bool.xor_false, Bool.true_xor, Bool.false_xor, decide_true, decide_false, Bool.and_true, Bool.true_and, Bool.and_false, Bool.false_and, eq_self, ne_eq, not_false_eq_true, not_true_eq_false, true_and, and_true, and_self, wrapI64, wrapu64, wrapu32, wrapu8, ltT, ltF, leT, leF, eqF, eqT, nltT, nleT, neqFn, hby, strB_map]
      rw [← hL]
      exact fun ρ a w hs _ => ⟨rfl, hs.grown⟩
  · obtain ⟨g, rfl⟩ : ∃ g, f = g + 1 := ⟨f - 1, by
      cases f with
      | zero => simp at hm; omega
      | succ f => rfl⟩
    rw [varyF, if_neg h] at hL
    have hL' : (L ++ [m % 128 + 128]) ++ varyF g (m / 128) = vary n := by rw [← hL]; simp
    have hpow : m / 128 < 128 ^ (g + 1) := by
      rw [Nat.div_lt_iff_lt_mul (by omega), ← Nat.pow_succ]; exact hm
    have hsr : sr m 7 = m / 128 := rfl
    rcases oc with _ | c
    · obtain rfl := hnone rfl
      unfold vF
      simp (disch := omega) only [go_sem, ↓reduceIte, Nat.reduceEqDiff, Nat.reduceLT, Nat.reduceLeDiff, Nat.reduceAdd, Nat.reduceMul, Nat.reduceSub, Nat.reduceDiv, Nat.reduceMod, Int.reduceToNat, Int.reduceLT, Int.reduceLE, Int.reduceAdd, Int.reduceSub, Int.reduceMul, Int.reduceEq, Int.reduceNeg, reduceCtorEq, or_false, false_or, decide_true, decide_false, Int.cast_ofNat_Int, Nat.zero_add, Nat.add_zero, Int.toNat_natCast, Option.isNone_none, Option.isNone_some, Bool.not_true, Bool.not_false, Bool.xor_true, Bool.xor_false, Bool.true_xor, Bool.false_xor, decide_true, decide_false, Bool.and_true, Bool.true_and, Bool.and_false, Bool.false_and, eq_self, ne_eq, not_false_eq_true, not_true_eq_false, true_and, and_true, and_self, wrapI64, wrapu64, wrapu32, wrapu8, ltT, ltF, leT, leF, eqF, eqT, nltT, nleT, neqFn, wU8, bOr128]
      refine sappendB_nil [m % 128 + 128] rfl rfl tkind110 tsz5 tby5 tz5 rfl rfl ⟨⟨rfl, by decide⟩, Nat.le_refl _, fun i _ => by rw [rows1, Nat.zero_add]⟩ (by omega) ⟨by show (13 : Nat) < 20; omega, fun c' hc' => ?_⟩
      simp (disch := omega) only [go_sem, ↓reduceIte, Nat.reduceEqDiff, Nat.reduceLT, Nat.reduceLeDiff, Nat.reduceAdd, Nat.reduceMul, Nat.reduceSub, Nat.reduceDiv, Nat.reduceMod, Int.reduceToNat, Int.reduceLT, Int.reduceLE, Int.reduceAdd, Int.reduceSub, Int.reduceMul, Int.reduceEq, Int.reduceNeg, reduceCtorEq, or_false, false_or, decide_true, decide_false, Int.cast_ofNat_Int, Nat.zero_add, Nat.add_zero, Int.toNat_natCast, Option.isNone_none, Option.isNone_some, Bool.not_true, Bool.not_false, Bool.xor_true, Bool.xor_false, Bool.true_xor, Bool.false_xor, decide_true, decide_false, Bool.and_true, Bool.true_and, Bool.and_false, Bool.false_and, eq_self, ne_eq, not_false_eq_true, not_true_eq_false, true_and, and_true, and_self, wrapI64, wrapu64, wrapu32, wrapu8, ltT, ltF, leT, leF, eqF, eqT, nltT, nleT, neqFn, wShr, m7, hsr]
      exact ⟨(g, m / 128, [m % 128 + 128], some c'), ⟨⟨hL', hpow⟩, ⟨by show m / 128 < _; omega, by show 1 + g ≤ 10; simp at hlf; omega⟩, (fun h => by cases h), fun c hc => by injection hc with hc; subst hc; exact hc'⟩, by show m / 128 < m; omega, v_ent (f := g) 2 rfl rfl rfl rfl rfl⟩
    · have hc1 := hsome c rfl
      unfold vF
      simp (disch := omega) only [go_sem, ↓reduceIte, Nat.reduceEqDiff, Nat.reduceLT, Nat.reduceLeDiff, Nat.reduceAdd, Nat.reduceMul, Nat.reduceSub, Nat.reduceDiv, Nat.reduceMod, Int.reduceToNat, Int.reduceLT, Int.reduceLE, Int.reduceAdd, Int.reduceSub, Int.reduceMul, Int.reduceEq, Int.reduceNeg, reduceCtorEq, or_false, false_or, decide_true, decide_false, Int.cast_ofNat_Int, Nat.zero_add, Nat.add_zero, Int.toNat_natCast, Option.isNone_none, Option.isNone_some, Bool.not_true, Bool.not_false, Bool.xor_true, Bool.xor_false, Bool.true_xor, Bool.false_xor, decide_true, decide_false, Bool.and_true, Bool.true_and, Bool.and_false, Bool.false_and, eq_self, ne_eq, not_false_eq_true, not_true_eq_false, true_and, and_true, and_self, wrapI64, wrapu64, wrapu32, wrapu8, ltT, ltF, leT, leF, eqF, eqT, nltT, nleT, neqFn, wU8, bOr128]
      refine sappendB L [m % 128 + 128] rfl rfl tkind110 tsz5 tby5 tz5 rfl rfl rfl ⟨rfl, Nat.le_refl _, fun i _ => rfl⟩ ⟨rfl, Nat.le_refl _, by decide, fun i _ => by rw [rows1, Nat.zero_add]⟩ (by omega) ⟨by show (13 : Nat) < 20; omega, fun c' hc' => ?_⟩
      simp (disch := omega) only [go_sem, ↓reduceIte, Nat.reduceEqDiff, Nat.reduceLT, Nat.reduceLeDiff, Nat.reduceAdd, Nat.reduceMul, Nat.reduceSub, Nat.reduceDiv, Nat.reduceMod, Int.reduceToNat, Int.reduceLT, Int.reduceLE, Int.reduceAdd, Int.reduceSub, Int.reduceMul, Int.reduceEq, Int.reduceNeg, reduceCtorEq, or_false, false_or, decide_true, decide_false, Int.cast_ofNat_Int, Nat.zero_add, Nat.add_zero, Int.toNat_natCast, Option.isNone_none, Option.isNone_some, Bool.not_true, Bool.not_false, Bool.xor_true, Bool.xor_false, Bool.true_xor, Bool.false_xor, decide_true, decide_false, Bool.and_true, Bool.true_and, Bool.and_false, Bool.false_and, eq_self, ne_eq, not_false_eq_true, not_true_eq_false, true_and, and_true, and_self, wrapI64, wrapu64, wrapu32, wrapu8, ltT, ltF, leT, leF, eqF, eqT, nltT, nleT, neqFn, wShr, m7, hsr]
      exact ⟨(g, m / 128, L ++ [m % 128 + 128], some c'), ⟨⟨hL', hpow⟩, ⟨by show m / 128 < _; omega, by show (L ++ [m % 128 + 128]).length + g ≤ 10; simp; omega⟩, (fun h => by cases h), fun c hc => by injection hc with hc; subst hc; simpa using hc'⟩, by show m / 128 < m; omega, v_ent (f := g) 2 rfl (by simp) rfl rfl rfl⟩
end Go.Proofs.Ytbdffcgbleiiaaa
