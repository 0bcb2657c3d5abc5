/-
  mac: Open, May, a token by its parts. Conditions: none.
-/
import Derived.Test.YtbdffcgbleiiaaaMac3
namespace Go.Proofs.Ytbdffcgbleiiaaa
open Go.RowKit Go.Sx Go.Sha Go.Pk
set_option linter.unusedVariables false
set_option linter.unusedSimpArgs false

theorem numR_len (r : Rd) (k : Nat) : (numR r k).2.rest.length ≤ r.rest.length := by
  unfold numR
  split
  · exact Nat.zero_le _
  · simp
theorem txtR_len {r : Rd} (h : r.ok) (k : Nat) : (txtR r k).2.rest.length ≤ r.rest.length := by
  unfold txtR
  split
  · exact Nat.zero_le _
  · have := (varR_ok h).2
    simp; omega
def o1 (S : List Nat) : Nat × Rd := numR ⟨S, false⟩ 1
def o2 (S : List Nat) : List Nat × Rd := txtR (o1 S).2 16
def o3 (S : List Nat) : Nat × Rd := numR (o2 S).2 1
def o4 (S : List Nat) : Nat × Rd := numR (o3 S).2 8
def otk (S : List Nat) : Tk := ⟨IntKind.i64.wrap ((o1 S).1 : Int), strN (o2 S).1, IntKind.i64.wrap ((o3 S).1 : Int), (o4 S).1⟩
def oOk (k S : List Nat) (now : Nat) : Bool := !(o4 S).2.bad && (decide ((o4 S).2.rest.length = 32) && ((otk S).right && (decide (now < (otk S).un) && decide (hmL k (S.take (S.length - 32)) = (o4 S).2.rest))))
def openT (k S : List Nat) (now : Nat) : Tk := if oOk k S now then otk S else Tk.zero
def openE (k S : List Nat) (now : Nat) : Int := if oOk k S now then 0 else 8
set_option maxRecDepth 100000 in
set_option maxHeartbeats 2000000 in
theorem open_c (k : ByteArray) (hk : k.size ≤ 4611686018427387000) (S : List Nat) (hS : ∀ x, x ∈ S → x < 256) (hl : S.length ≤ 4611686018427386000) (now : Nat) (w : World) : Calls Try.prog 49 #[.string k, .string (strN S), .int .u64 (now : Int)] w fun e w' => e = .returned (.tuple #[(openT (bl k) S now).v, .int .i64 (openE (bl k) S now)]) ∧ Below w.heap.size w w' := by
  refine calls_pure 75 _ Try.func49 rfl Try.ntmps49 Try.results49 [.c (.v (.string k)), .c (.v (.string (strN S))), .c (.v (.int .u64 (now : Int)))] (by simp) (fun _ => rfl) ?_
  have h0 : Rd.ok ⟨S, false⟩ := hS
  have h1 : (o1 S).2.ok := numR_ok h0 1
  have l1 : (o1 S).2.rest.length ≤ S.length := numR_len _ 1
  obtain ⟨h2, b2⟩ : (o2 S).2.ok ∧ ∀ x, x ∈ (o2 S).1 → x < 256 := txtR_ok h1 16
  have l2 : (o2 S).2.rest.length ≤ (o1 S).2.rest.length := txtR_len h1 16
  have h3 : (o3 S).2.ok := numR_ok h2 1
  have l3 : (o3 S).2.rest.length ≤ (o2 S).2.rest.length := numR_len _ 1
  have h4 : (o4 S).2.ok := numR_ok h3 8
  have l4 : (o4 S).2.rest.length ≤ (o3 S).2.rest.length := numR_len _ 8
  have fail : oOk (bl k) S now = false → openT (bl k) S now = Tk.zero ∧ openE (bl k) S now = 8 := fun h => by
    unfold openT openE; rw [h]; exact ⟨rfl, rfl⟩
  simp (disch := omega) only [go_sem, ↓reduceIte, Nat.reduceEqDiff, Nat.reduceLT, Nat.reduceLeDiff, Nat.reduceAdd, Nat.reduceMul, Nat.reduceSub, Nat.reduceDiv, Nat.reduceMod, Int.reduceToNat, Int.reduceLT, Int.reduceLE, Int.reduceAdd, Int.reduceSub, Int.reduceMul, Int.reduceEq, Int.reduceNeg, reduceCtorEq, or_false, false_or, decide_true, decide_false, Int.cast_ofNat_Int, Nat.zero_add, Nat.add_zero, Int.toNat_natCast, Option.isNone_none, Option.isNone_some, Bool.not_true, Bool.not_false, Bool.xor_true, Bool.xor_false, Bool.true_xor, Bool.false_xor, decide_true, decide_false, Bool.and_true, Bool.true_and, Bool.and_false, Bool.false_and, eq_self, ne_eq, not_false_eq_true, not_true_eq_false, true_and, and_true, and_self, wrapI64, wrapu64, wrapu32, wrapu8, ltT, ltF, leT, leF, eqF, eqT, nltT, nleT, neqFn]
  refine rnum_s h0 (by show S.length ≤ _; omega) 1 rfl (by omega) ?_
  rw [show numR ⟨S, false⟩ 1 = o1 S from rfl]
  simp (disch := omega) only [go_sem, ↓reduceIte, Nat.reduceEqDiff, Nat.reduceLT, Nat.reduceLeDiff, Nat.reduceAdd, Nat.reduceMul, Nat.reduceSub, Nat.reduceDiv, Nat.reduceMod, Int.reduceToNat, Int.reduceLT, Int.reduceLE, Int.reduceAdd, Int.reduceSub, Int.reduceMul, Int.reduceEq, Int.reduceNeg, reduceCtorEq, or_false, false_or, decide_true, decide_false, Int.cast_ofNat_Int, Nat.zero_add, Nat.add_zero, Int.toNat_natCast, Option.isNone_none, Option.isNone_some, Bool.not_true, Bool.not_false, Bool.xor_true, Bool.xor_false, Bool.true_xor, Bool.false_xor, decide_true, decide_false, Bool.and_true, Bool.true_and, Bool.and_false, Bool.false_and, eq_self, ne_eq, not_false_eq_true, not_true_eq_false, true_and, and_true, and_self, wrapI64, wrapu64, wrapu32, wrapu8, ltT, ltF, leT, leF, eqF, eqT, nltT, nleT, neqFn]
  refine rtext_s h1 (by omega) 16 rfl (by omega) ?_
  rw [show txtR (o1 S).2 16 = o2 S from rfl]
  simp (disch := omega) only [go_sem, ↓reduceIte, Nat.reduceEqDiff, Nat.reduceLT, Nat.reduceLeDiff, Nat.reduceAdd, Nat.reduceMul, Nat.reduceSub, Nat.reduceDiv, Nat.reduceMod, Int.reduceToNat, Int.reduceLT, Int.reduceLE, Int.reduceAdd, Int.reduceSub, Int.reduceMul, Int.reduceEq, Int.reduceNeg, reduceCtorEq, or_false, false_or, decide_true, decide_false, Int.cast_ofNat_Int, Nat.zero_add, Nat.add_zero, Int.toNat_natCast, Option.isNone_none, Option.isNone_some, Bool.not_true, Bool.not_false, Bool.xor_true, Bool.xor_false, Bool.true_xor, Bool.false_xor, decide_true, decide_false, Bool.and_true, Bool.true_and, Bool.and_false, Bool.false_and, eq_self, ne_eq, not_false_eq_true, not_true_eq_false, true_and, and_true, and_self, wrapI64, wrapu64, wrapu32, wrapu8, ltT, ltF, leT, leF, eqF, eqT, nltT, nleT, neqFn]
  refine rnum_s h2 (by omega) 1 rfl (by omega) ?_
  rw [show numR (o2 S).2 1 = o3 S from rfl]
  simp (disch := omega) only [go_sem, ↓reduceIte, Nat.reduceEqDiff, Nat.reduceLT, Nat.reduceLeDiff, Nat.reduceAdd, Nat.reduceMul, Nat.reduceSub, Nat.reduceDiv, Nat.reduceMod, Int.reduceToNat, Int.reduceLT, Int.reduceLE, Int.reduceAdd, Int.reduceSub, Int.reduceMul, Int.reduceEq, Int.reduceNeg, reduceCtorEq, or_false, false_or, decide_true, decide_false, Int.cast_ofNat_Int, Nat.zero_add, Nat.add_zero, Int.toNat_natCast, Option.isNone_none, Option.isNone_some, Bool.not_true, Bool.not_false, Bool.xor_true, Bool.xor_false, Bool.true_xor, Bool.false_xor, decide_true, decide_false, Bool.and_true, Bool.true_and, Bool.and_false, Bool.false_and, eq_self, ne_eq, not_false_eq_true, not_true_eq_false, true_and, and_true, and_self, wrapI64, wrapu64, wrapu32, wrapu8, ltT, ltF, leT, leF, eqF, eqT, nltT, nleT, neqFn]
  refine rnum_s h3 (by omega) 8 rfl (by omega) ?_
  rw [show numR (o3 S).2 8 = o4 S from rfl]
  have hsz := strN_size (o4 S).2.rest
  cases hb : (o4 S).2.bad
  case true =>
    obtain ⟨f1, f2⟩ := fail (by unfold oOk; rw [hb]; rfl)
    rw [f1, f2]
    simp (disch := omega) only [go_sem, ↓reduceIte, Nat.reduceEqDiff, Nat.reduceLT, Nat.reduceLeDiff, Nat.reduceAdd, Nat.reduceMul, Nat.reduceSub, Nat.reduceDiv, Nat.reduceMod, Int.reduceToNat, Int.reduceLT, Int.reduceLE, Int.reduceAdd, Int.reduceSub, Int.reduceMul, Int.reduceEq, Int.reduceNeg, reduceCtorEq, or_false, false_or, decide_true, decide_false, Int.cast_ofNat_Int, Nat.zero_add, Nat.add_zero, Int.toNat_natCast, Option.isNone_none, Option.isNone_some, Bool.not_true, Bool.not_false, Bool.xor_true, Bool.xor_false, Bool.true_xor, Bool.false_xor, decide_true, decide_false, Bool.and_true, Bool.true_and, Bool.and_false, Bool.false_and, eq_self, ne_eq, not_false_eq_true, not_true_eq_false, true_and, and_true, and_self, wrapI64, wrapu64, wrapu32, wrapu8, ltT, ltF, leT, leF, eqF, eqT, nltT, nleT, neqFn]
    exact fun ρ a w hs _ => ⟨rfl, hs.grown⟩
  by_cases h32 : (o4 S).2.rest.length = 32
  case neg =>
    obtain ⟨f1, f2⟩ := fail (by unfold oOk; rw [hb, decide_eq_false h32]; rfl)
    rw [f1, f2]
    simp (disch := omega) only [go_sem, ↓reduceIte, Nat.reduceEqDiff, Nat.reduceLT, Nat.reduceLeDiff, Nat.reduceAdd, Nat.reduceMul, Nat.reduceSub, Nat.reduceDiv, Nat.reduceMod, Int.reduceToNat, Int.reduceLT, Int.reduceLE, Int.reduceAdd, Int.reduceSub, Int.reduceMul, Int.reduceEq, Int.reduceNeg, reduceCtorEq, or_false, false_or, decide_true, decide_false, Int.cast_ofNat_Int, Nat.zero_add, Nat.add_zero, Int.toNat_natCast, Option.isNone_none, Option.isNone_some, Bool.not_true, Bool.not_false, Bool.xor_true, Bool.xor_false, Bool.true_xor, Bool.false_xor, decide_true, decide_false, Bool.and_true, Bool.true_and, Bool.and_false, Bool.false_and, eq_self, ne_eq, not_false_eq_true, not_true_eq_false, true_and, and_true, and_self, wrapI64, wrapu64, wrapu32, wrapu8, ltT, ltF, leT, leF, eqF, eqT, nltT, nleT, neqFn, hsz]
    exact fun ρ a w hs _ => ⟨rfl, hs.grown⟩
  simp (disch := omega) only [go_sem, ↓reduceIte, Nat.reduceEqDiff, Nat.reduceLT, Nat.reduceLeDiff, Nat.reduceAdd, Nat.reduceMul, Nat.reduceSub, Nat.reduceDiv, Nat.reduceMod, Int.reduceToNat, Int.reduceLT, Int.reduceLE, Int.reduceAdd, Int.reduceSub, Int.reduceMul, Int.reduceEq, Int.reduceNeg, reduceCtorEq, or_false, false_or, decide_true, decide_false, Int.cast_ofNat_Int, Nat.zero_add, Nat.add_zero, Int.toNat_natCast, Option.isNone_none, Option.isNone_some, Bool.not_true, Bool.not_false, Bool.xor_true, Bool.xor_false, Bool.true_xor, Bool.false_xor, decide_true, decide_false, Bool.and_true, Bool.true_and, Bool.and_false, Bool.false_and, eq_self, ne_eq, not_false_eq_true, not_true_eq_false, true_and, and_true, and_self, wrapI64, wrapu64, wrapu32, wrapu8, ltT, ltF, leT, leF, eqF, eqT, nltT, nleT, neqFn, hsz, h32]
  refine tright_s (t := otk S) ?_
  cases hrt : (otk S).right
  · obtain ⟨f1, f2⟩ := fail (by unfold oOk; rw [hb, hrt]; cases decide ((o4 S).2.rest.length = 32) <;> rfl)
    rw [f1, f2]
    simp (disch := omega) only [go_sem, ↓reduceIte, Nat.reduceEqDiff, Nat.reduceLT, Nat.reduceLeDiff, Nat.reduceAdd, Nat.reduceMul, Nat.reduceSub, Nat.reduceDiv, Nat.reduceMod, Int.reduceToNat, Int.reduceLT, Int.reduceLE, Int.reduceAdd, Int.reduceSub, Int.reduceMul, Int.reduceEq, Int.reduceNeg, reduceCtorEq, or_false, false_or, decide_true, decide_false, Int.cast_ofNat_Int, Nat.zero_add, Nat.add_zero, Int.toNat_natCast, Option.isNone_none, Option.isNone_some, Bool.not_true, Bool.not_false, Bool.xor_true, Bool.xor_false, Bool.true_xor, Bool.false_xor, decide_true, decide_false, Bool.and_true, Bool.true_and, Bool.and_false, Bool.false_and, eq_self, ne_eq, not_false_eq_true, not_true_eq_false, true_and, and_true, and_self, wrapI64, wrapu64, wrapu32, wrapu8, ltT, ltF, leT, leF, eqF, eqT, nltT, nleT, neqFn]
    exact fun ρ a w hs _ => ⟨rfl, hs.grown⟩
  by_cases hun : now < (o4 S).1
  case neg =>
    obtain ⟨f1, f2⟩ := fail (by
      unfold oOk
      rw [show decide (now < (otk S).un) = false from decide_eq_false hun]
      cases (o4 S).2.bad <;> cases decide ((o4 S).2.rest.length = 32) <;> cases (otk S).right <;> rfl)
    rw [f1, f2]
    simp (disch := omega) only [go_sem, ↓reduceIte, Nat.reduceEqDiff, Nat.reduceLT, Nat.reduceLeDiff, Nat.reduceAdd, Nat.reduceMul, Nat.reduceSub, Nat.reduceDiv, Nat.reduceMod, Int.reduceToNat, Int.reduceLT, Int.reduceLE, Int.reduceAdd, Int.reduceSub, Int.reduceMul, Int.reduceEq, Int.reduceNeg, reduceCtorEq, or_false, false_or, decide_true, decide_false, Int.cast_ofNat_Int, Nat.zero_add, Nat.add_zero, Int.toNat_natCast, Option.isNone_none, Option.isNone_some, Bool.not_true, Bool.not_false, Bool.xor_true, Bool.xor_false, Bool.true_xor, Bool.false_xor, decide_true, decide_false, Bool.and_true, Bool.true_and, Bool.and_false, Bool.false_and, eq_self, ne_eq, not_false_eq_true, not_true_eq_false, true_and, and_true, and_self, wrapI64, wrapu64, wrapu32, wrapu8, ltT, ltF, leT, leF, eqF, eqT, nltT, nleT, neqFn]
    exact fun ρ a w hs _ => ⟨rfl, hs.grown⟩
  have hss := strN_size S
  obtain ⟨n, hn⟩ : ∃ n : Nat, (S.length : Int) - 32 = (n : Int) := ⟨S.length - 32, by omega⟩
  have hn2 : S.length - 32 = n := by omega
  have hex : (strN S).extract 0 n = strN (S.take n) := by rw [extract_strN, List.drop_zero]
  have hTb : bl (strN (S.take n)) = S.take n := bl_strN fun x hx => hS x (List.mem_of_mem_take hx)
  have hTs := strN_size (S.take n)
  have hTl : (S.take n).length ≤ S.length := by simp; omega
  simp (disch := omega) only [go_sem, ↓reduceIte, Nat.reduceEqDiff, Nat.reduceLT, Nat.reduceLeDiff, Nat.reduceAdd, Nat.reduceMul, Nat.reduceSub, Nat.reduceDiv, Nat.reduceMod, Int.reduceToNat, Int.reduceLT, Int.reduceLE, Int.reduceAdd, Int.reduceSub, Int.reduceMul, Int.reduceEq, Int.reduceNeg, reduceCtorEq, or_false, false_or, decide_true, decide_false, Int.cast_ofNat_Int, Nat.zero_add, Nat.add_zero, Int.toNat_natCast, Option.isNone_none, Option.isNone_some, Bool.not_true, Bool.not_false, Bool.xor_true, Bool.xor_false, Bool.true_xor, Bool.false_xor, decide_true, decide_false, Bool.and_true, Bool.true_and, Bool.and_false, Bool.false_and, eq_self, ne_eq, not_false_eq_true, not_true_eq_false, true_and, and_true, and_self, wrapI64, wrapu64, wrapu32, wrapu8, ltT, ltF, leT, leF, eqF, eqT, nltT, nleT, neqFn, hss, hn, hex]
  refine sdraw [.t 0, .t 1, .t 3, .t 4, .r 2, .r 5, .t 6] 7 [(1, _)] rfl (by kernel_rfl) ⟨rfl, trivial⟩ ?_
  simp (disch := omega) only [go_sem, ↓reduceIte, Nat.reduceEqDiff, Nat.reduceLT, Nat.reduceLeDiff, Nat.reduceAdd, Nat.reduceMul, Nat.reduceSub, Nat.reduceDiv, Nat.reduceMod, Int.reduceToNat, Int.reduceLT, Int.reduceLE, Int.reduceAdd, Int.reduceSub, Int.reduceMul, Int.reduceEq, Int.reduceNeg, reduceCtorEq, or_false, false_or, decide_true, decide_false, Int.cast_ofNat_Int, Nat.zero_add, Nat.add_zero, Int.toNat_natCast, Option.isNone_none, Option.isNone_some, Bool.not_true, Bool.not_false, Bool.xor_true, Bool.xor_false, Bool.true_xor, Bool.false_xor, decide_true, decide_false, Bool.and_true, Bool.true_and, Bool.and_false, Bool.false_and, eq_self, ne_eq, not_false_eq_true, not_true_eq_false, true_and, and_true, and_self, wrapI64, wrapu64, wrapu32, wrapu8, ltT, ltF, leT, leF, eqF, eqT, nltT, nleT, neqFn]
  refine msum_s hk (by omega) ?_
  rw [hTb]
  simp (disch := omega) only [go_sem, ↓reduceIte, Nat.reduceEqDiff, Nat.reduceLT, Nat.reduceLeDiff, Nat.reduceAdd, Nat.reduceMul, Nat.reduceSub, Nat.reduceDiv, Nat.reduceMod, Int.reduceToNat, Int.reduceLT, Int.reduceLE, Int.reduceAdd, Int.reduceSub, Int.reduceMul, Int.reduceEq, Int.reduceNeg, reduceCtorEq, or_false, false_or, decide_true, decide_false, Int.cast_ofNat_Int, Nat.zero_add, Nat.add_zero, Int.toNat_natCast, Option.isNone_none, Option.isNone_some, Bool.not_true, Bool.not_false, Bool.xor_true, Bool.xor_false, Bool.true_xor, Bool.false_xor, decide_true, decide_false, Bool.and_true, Bool.true_and, Bool.and_false, Bool.false_and, eq_self, ne_eq, not_false_eq_true, not_true_eq_false, true_and, and_true, and_self, wrapI64, wrapu64, wrapu32, wrapu8, ltT, ltF, leT, leF, eqF, eqT, nltT, nleT, neqFn]
  refine equal_s ?_
  have heq : (strN (hmL (bl k) (S.take n)) = strN (o4 S).2.rest) ↔ hmL (bl k) (S.take n) = (o4 S).2.rest := strN_eq (fun x hx => shaL_lt _ x hx) h4
  by_cases hq : hmL (bl k) (S.take n) = (o4 S).2.rest
  · have hok : oOk (bl k) S now = true := by
      unfold oOk
      rw [hb, decide_eq_true h32, hrt, show decide (now < (otk S).un) = true from decide_eq_true hun, hn2, decide_eq_true hq]; rfl
    have f1 : openT (bl k) S now = otk S ∧ openE (bl k) S now = 0 := by unfold openT openE; rw [hok]; exact ⟨rfl, rfl⟩
    rw [f1.1, f1.2, decide_eq_true (heq.2 hq)]
    simp (disch := omega) only [go_sem, ↓reduceIte, Nat.reduceEqDiff, Nat.reduceLT, Nat.reduceLeDiff, Nat.reduceAdd, Nat.reduceMul, Nat.reduceSub, Nat.reduceDiv, Nat.reduceMod, Int.reduceToNat, Int.reduceLT, Int.reduceLE, Int.reduceAdd, Int.reduceSub, Int.reduceMul, Int.reduceEq, Int.reduceNeg, reduceCtorEq, or_false, false_or, decide_true, decide_false, Int.cast_ofNat_Int, Nat.zero_add, Nat.add_zero, Int.toNat_natCast, Option.isNone_none, Option.isNone_some, Bool.not_true, Bool.not_false, Bool.xor_true, Bool.xor_false, Bool.true_xor, Bool.false_xor, decide_true, decide_false, Bool.and_true, Bool.true_and, Bool.and_false, Bool.false_and, eq_self, ne_eq, not_false_eq_true, not_true_eq_false, true_and, and_true, and_self, wrapI64, wrapu64, wrapu32, wrapu8, ltT, ltF, leT, leF, eqF, eqT, nltT, nleT, neqFn]
    exact fun ρ a w hs _ => ⟨rfl, hs.grown⟩
  · obtain ⟨f1, f2⟩ := fail (by
      unfold oOk
      rw [hn2, decide_eq_false hq]
      cases (o4 S).2.bad <;> cases decide ((o4 S).2.rest.length = 32) <;> cases (otk S).right <;> cases decide (now < (otk S).un) <;> rfl)
    rw [f1, f2, decide_eq_false fun h => hq (heq.1 h)]
    simp (disch := omega) only [go_sem, ↓reduceIte, Nat.reduceEqDiff, Nat.reduceLT, Nat.reduceLeDiff, Nat.reduceAdd, Nat.reduceMul, Nat.reduceSub, Nat.reduceDiv, Nat.reduceMod, Int.reduceToNat, Int.reduceLT, Int.reduceLE, Int.reduceAdd, Int.reduceSub, Int.reduceMul, Int.reduceEq, Int.reduceNeg, reduceCtorEq, or_false, false_or, decide_true, decide_false, Int.cast_ofNat_Int, Nat.zero_add, Nat.add_zero, Int.toNat_natCast, Option.isNone_none, Option.isNone_some, Bool.not_true, Bool.not_false, Bool.xor_true, Bool.xor_false, Bool.true_xor, Bool.false_xor, decide_true, decide_false, Bool.and_true, Bool.true_and, Bool.and_false, Bool.false_and, eq_self, ne_eq, not_false_eq_true, not_true_eq_false, true_and, and_true, and_self, wrapI64, wrapu64, wrapu32, wrapu8, ltT, ltF, leT, leF, eqF, eqT, nltT, nleT, neqFn]
    exact fun ρ a w hs _ => ⟨rfl, hs.grown⟩
end Go.Proofs.Ytbdffcgbleiiaaa
