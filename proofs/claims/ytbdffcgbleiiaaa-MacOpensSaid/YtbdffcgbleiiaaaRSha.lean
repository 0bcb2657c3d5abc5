/-
  The document's digest: its table. Conditions: none.
-/
import Derived.Test.YtbdffcgbleiiaaaMac
import Derived.Test.YtbdffcgbleiiaaaSx17
namespace Go.Proofs.Ytbdffcgbleiiaaa
open Go.RowKit Go.Sx Go.Sha Go.Pk
set_option linter.unusedVariables false
set_option linter.unusedSimpArgs false

def a64 (a b : Nat) : Nat := (a + b) % 18446744073709551616
def m64 (a b : Nat) : Nat := (a * b) % 18446744073709551616
theorem wAdd64 (a b : Nat) : IntKind.u64.wrap ((a : Int) + (b : Int)) = ((a64 a b : Nat) : Int) := by
  simp [IntKind.wrap, IntKind.bits, IntKind.signed, a64]
theorem wMul64 (a b : Nat) : IntKind.u64.wrap ((a : Int) * (b : Int)) = ((m64 a b : Nat) : Int) := by
  simp [IntKind.wrap, IntKind.bits, IntKind.signed, m64]
theorem og_comm (a b : Nat) : og a b = og b a := by unfold og; rw [Nat.or_comm]
theorem rturn_c (x n : Nat) (h : 0 < n ∧ n < 32) (w : World) : Calls Try.prog 139 #[v32 x, .int .i64 n] w fun e w' => e = .returned (v32 (rr x n)) ∧ Below w.heap.size w w' := by
  have h1 : min n 32 = n := by omega
  have h2 : min (32 - n) 32 = 32 - n := by omega
  have h3 : (32 : Int) - (n : Int) = ((32 - n : Nat) : Int) := by omega
  have h4 : (0 : Int) ≤ (n : Int) := by omega
  have h5 : (0 : Int) ≤ ((32 - n : Nat) : Int) := by omega
  have hr : rr x n = og (sr x n) (sl x (32 - n)) := og_comm _ _
  rw [hr]
  refine calls_pure 13 _ Try.func139 rfl Try.ntmps139 Try.results139 [.c (c32 x), .c (.v (.int .i64 n))] (by simp) (fun _ => rfl) ?_
  simp (disch := omega) only [go_sem, ↓reduceIte, Nat.reduceEqDiff, Nat.reduceLT, Nat.reduceLeDiff, Nat.reduceAdd, Nat.reduceMul, Nat.reduceSub, Nat.reduceDiv, Nat.reduceMod, Int.reduceToNat, Int.reduceLT, Int.reduceLE, Int.reduceAdd, Int.reduceSub, Int.reduceMul, Int.reduceEq, Int.reduceNeg, reduceCtorEq, or_false, false_or, decide_true, decide_false, Int.cast_ofNat_Int, Nat.zero_add, Nat.add_zero, Int.toNat_natCast, Option.isNone_none, Option.isNone_some, Bool.not_true, Bool.not_false, Bool.xor_true, Bool.xor_false, Bool.true_xor, Bool.false_xor, decide_true, decide_false, Bool.and_true, Bool.true_and, Bool.and_false, Bool.false_and, eq_self, ne_eq, not_false_eq_true, not_true_eq_false, true_and, and_true, and_self, wrapI64, wrapu64, wrapu32, wrapu8, ltT, ltF, leT, leF, eqF, eqT, nltT, nleT, neqFn]
  refine sdraw [.t 0, .t 1, .t 2, .t 3, .t 4, .t 5, .t 6, .t 7, .t 8] 9 [] rfl (by kernel_rfl) trivial ?_
  simp (disch := omega) only [go_sem, ↓reduceIte, Nat.reduceEqDiff, Nat.reduceLT, Nat.reduceLeDiff, Nat.reduceAdd, Nat.reduceMul, Nat.reduceSub, Nat.reduceDiv, Nat.reduceMod, Int.reduceToNat, Int.reduceLT, Int.reduceLE, Int.reduceAdd, Int.reduceSub, Int.reduceMul, Int.reduceEq, Int.reduceNeg, reduceCtorEq, or_false, false_or, decide_true, decide_false, Int.cast_ofNat_Int, Nat.zero_add, Nat.add_zero, Int.toNat_natCast, Option.isNone_none, Option.isNone_some, Bool.not_true, Bool.not_false, Bool.xor_true, Bool.xor_false, Bool.true_xor, Bool.false_xor, decide_true, decide_false, Bool.and_true, Bool.true_and, Bool.and_false, Bool.false_and, eq_self, ne_eq, not_false_eq_true, not_true_eq_false, true_and, and_true, and_self, wrapI64, wrapu64, wrapu32, wrapu8, ltT, ltF, leT, leF, eqF, eqT, nltT, nleT, neqFn, h1, h2, h3, h4, h5, wShl, wShr, bOr, IntKind.bits]
  exact fun ρ a w hs _ => ⟨rfl, hs.grown⟩
theorem rturn_s {C : Cx} {fr : List (Nat × SV)} {hp : List (Nat × Blk)} {nx : Nat} {d : Option Tmp} {K : St → Prop} {x : Nat} (n : Nat) {m : Int} (hm : m = (n : Int)) (h : 0 < n ∧ n < 32) (hk : dOk C.N d ∧ kput K ⟨fr, hp, nx⟩ d (.c (c32 (rr x n)))) : SCall Try.prog C 139 [.c (c32 x), .c (.v (.int .i64 m))] d K ⟨fr, hp, nx⟩ := by
  subst hm
  exact scall_pure [v32 x, .int .i64 n] _ (v32 (rr x n)) Try.call139 (rturn_c x n h) rfl (fun _ => rfl) (fun _ => rfl) hk
/-- Is there no divisor from 'd' on? -/
def prF : Nat → Nat → Nat → Bool
  | 0, _, _ => false
  | f + 1, n, d => if m64 d d ≤ n then (if n % d = 0 then false else prF f n (a64 d 1)) else decide (1 < n)
theorem tmodN (a b : Nat) : ((a : Int)).tmod (b : Int) = ((a % b : Nat) : Int) := rfl
abbrev c64 (n : Nat) : CV := .v (.int .u64 (n : Int))
theorem rprime_c (n : Nat) (hn : n < 1000) (w : World) : Calls Try.prog 137 #[.int .u64 (n : Int)] w fun e w' => e = .returned (.bool (prF 40 n 2)) ∧ Below w.heap.size w w' := by
  refine calls_pure 17 _ Try.func137 rfl Try.ntmps137 Try.results137 [.c (c64 n)] (by simp) (fun _ => rfl) ?_
  simp (disch := omega) only [go_sem, ↓reduceIte, Nat.reduceEqDiff, Nat.reduceLT, Nat.reduceLeDiff, Nat.reduceAdd, Nat.reduceMul, Nat.reduceSub, Nat.reduceDiv, Nat.reduceMod, Int.reduceToNat, Int.reduceLT, Int.reduceLE, Int.reduceAdd, Int.reduceSub, Int.reduceMul, Int.reduceEq, Int.reduceNeg, reduceCtorEq, or_false, false_or, decide_true, decide_false, Int.cast_ofNat_Int, Nat.zero_add, Nat.add_zero, Int.toNat_natCast, Option.isNone_none, Option.isNone_some, Bool.not_true, Bool.not_false, Bool.xor_true, Bool.xor_false, Bool.true_xor, Bool.false_xor, decide_true, decide_false, Bool.and_true, Bool.true_and, Bool.and_false, Bool.false_and, eq_self, ne_eq, not_false_eq_true, not_true_eq_false, true_and, and_true, and_self, wrapI64, wrapu64, wrapu32, wrapu8, ltT, ltF, leT, leF, eqF, eqT, nltT, nleT, neqFn]
  refine sloop (fun p : Nat × Nat => ⟨[(0, .c (c64 n)), (2, .c (.v (.bool false))), (3, .c (c64 p.2))], [], 0⟩) (fun p => (p.2 + p.1 = 42 ∧ 2 ≤ p.2 ∧ (p.2 = 2 ∨ (p.2 - 1) * (p.2 - 1) ≤ n)) ∧ prF p.1 n p.2 = prF 40 n 2) (fun p => p.1) (40, 2) ⟨⟨rfl, by decide, .inl rfl⟩, rfl⟩ (ent_drop ⟨rfl, rfl, rfl, trivial⟩ trivial (by simp)) (fun p hp => ?_)
  obtain ⟨f, d⟩ := p
  obtain ⟨⟨hf, hd, hdn⟩, hp⟩ : (d + f = 42 ∧ 2 ≤ d ∧ (d = 2 ∨ (d - 1) * (d - 1) ≤ n)) ∧ prF f n d = prF 40 n 2 := hp
  have hd32 : d ≤ 32 := by
    rcases hdn with h | h
    · omega
    · apply Decidable.byContradiction
      intro hc
      have : 32 * 32 ≤ (d - 1) * (d - 1) := Nat.mul_le_mul (by omega) (by omega)
      omega
  have hmm : m64 d d = d * d := by
    unfold m64
    have : d * d ≤ 42 * 42 := Nat.mul_le_mul (by omega) (by omega)
    omega
  obtain ⟨g, rfl⟩ : ∃ g, f = g + 1 := ⟨f - 1, by omega⟩
  have ha : a64 d 1 = d + 1 := by unfold a64; omega
  have ha2 : (d : Int) + 1 = ((d + 1 : Nat) : Int) := by omega
  rw [← hp, prF, hmm, ha]
  by_cases h : d * d ≤ n
  · rw [if_pos h]
    by_cases h0 : n % d = 0
    · rw [if_pos h0]
      simp (disch := omega) only [go_sem, ↓reduceIte, Nat.reduceEqDiff, Nat.reduceLT, Nat.reduceLeDiff, Nat.reduceAdd, Nat.reduceMul, Nat.reduceSub, Nat.reduceDiv, Nat.reduceMod, Int.reduceToNat, Int.reduceLT, Int.reduceLE, Int.reduceAdd, Int.reduceSub, Int.reduceMul, Int.reduceEq, Int.reduceNeg, reduceCtorEq, or_false, false_or, decide_true, decide_false, Int.cast_ofNat_Int, Nat.zero_add, Nat.add_zero, Int.toNat_natCast, Option.isNone_none, Option.isNone_some, Bool.not_true, Bool.not_false, Bool.xor_true, Bool.xor_false, Bool.true_xor, Bool.false_xor, decide_true, decide_false, Bool.and_true, Bool.true_and, Bool.and_false, Bool.false_and, eq_self, ne_eq, not_false_eq_true, not_true_eq_false, true_and, and_true, and_self, wrapI64, wrapu64, wrapu32, wrapu8, ltT, ltF, leT, leF, eqF, eqT, nltT, nleT, neqFn, wMul64, hmm, tmodN, h0]
      exact fun ρ a w hs _ => ⟨rfl, hs.grown⟩
    · rw [if_neg h0]
      simp (disch := omega) only [go_sem, ↓reduceIte, Nat.reduceEqDiff, Nat.reduceLT, Nat.reduceLeDiff, Nat.reduceAdd, Nat.reduceMul, Nat.reduceSub, Nat.reduceDiv, Nat.reduceMod, Int.reduceToNat, Int.reduceLT, Int.reduceLE, Int.reduceAdd, Int.reduceSub, Int.reduceMul, Int.reduceEq, Int.reduceNeg, reduceCtorEq, or_false, false_or, decide_true, decide_false, Int.cast_ofNat_Int, Nat.zero_add, Nat.add_zero, Int.toNat_natCast, Option.isNone_none, Option.isNone_some, Bool.not_true, Bool.not_false, Bool.xor_true, Bool.xor_false, Bool.true_xor, Bool.false_xor, decide_true, decide_false, Bool.and_true, Bool.true_and, Bool.and_false, Bool.false_and, eq_self, ne_eq, not_false_eq_true, not_true_eq_false, true_and, and_true, and_self, wrapI64, wrapu64, wrapu32, wrapu8, ltT, ltF, leT, leF, eqF, eqT, nltT, nleT, neqFn, wMul64, hmm, tmodN, ha2]
      exact ⟨(g, d + 1), ⟨⟨by show d + 1 + g = 42; omega, by show 2 ≤ d + 1; omega, .inr (by show (d + 1 - 1) * (d + 1 - 1) ≤ n; rw [Nat.add_sub_cancel]; exact h)⟩, rfl⟩, Nat.lt_succ_self _, ent_drop ⟨rfl, rfl, rfl, trivial⟩ trivial (by simp)⟩
  · rw [if_neg h]
    have hlt : ((d * d : Nat) : Int) > (n : Int) := by omega
    obtain ⟨b, hb⟩ : ∃ b, decide ((1 : Int) < (n : Int)) = b := ⟨_, rfl⟩
    have hb2 : decide (1 < n) = b := by rw [← hb]; exact decide_eq_decide.2 (by omega)
    rw [hb2]
    simp (disch := omega) only [go_sem, ↓reduceIte, Nat.reduceEqDiff, Nat.reduceLT, Nat.reduceLeDiff, Nat.reduceAdd, Nat.reduceMul, Nat.reduceSub, Nat.reduceDiv, Nat.reduceMod, Int.reduceToNat, Int.reduceLT, Int.reduceLE, Int.reduceAdd, Int.reduceSub, Int.reduceMul, Int.reduceEq, Int.reduceNeg, reduceCtorEq, or_false, false_or, decide_true, decide_false, Int.cast_ofNat_Int, Nat.zero_add, Nat.add_zero, Int.toNat_natCast, Option.isNone_none, Option.isNone_some, Bool.not_true, Bool.not_false, Bool.xor_true, Bool.xor_false, Bool.true_xor, Bool.false_xor, decide_true, decide_false, Bool.and_true, Bool.true_and, Bool.and_false, Bool.false_and, eq_self, ne_eq, not_false_eq_true, not_true_eq_false, true_and, and_true, and_self, wrapI64, wrapu64, wrapu32, wrapu8, ltT, ltF, leT, leF, eqF, eqT, nltT, nleT, neqFn, wMul64, hmm, hb]
    exact fun ρ a w hs _ => ⟨rfl, hs.grown⟩
/-- One row of a product: by parts of 32 bits. -/
def st3 (a l0 l1 x y z : Nat) : Nat × Nat × Nat := (a64 (a64 (m64 a l0) x) 0 % 4294967296, a64 (a64 (m64 a l1) y) (a64 (a64 (m64 a l0) x) 0 / 4294967296) % 4294967296, a64 z (a64 (a64 (m64 a l1) y) (a64 (a64 (m64 a l0) x) 0 / 4294967296) / 4294967296))
def sq1 (l0 l1 : Nat) : Nat × Nat × Nat := st3 l0 l0 l1 0 0 0
def sq2 (l0 l1 : Nat) : Nat × Nat × Nat := st3 l1 l0 l1 (sq1 l0 l1).2.1 (sq1 l0 l1).2.2 0
def sqA (l0 l1 : Nat) : Nat → Nat → Nat
  | 0, _ => 0
  | 1, 0 => (sq1 l0 l1).1
  | 1, 1 => (sq1 l0 l1).2.1
  | 1, 2 => (sq1 l0 l1).2.2
  | 1, _ => 0
  | _, 0 => (sq1 l0 l1).1
  | _, 1 => (sq2 l0 l1).1
  | _, 2 => (sq2 l0 l1).2.1
  | _, 3 => (sq2 l0 l1).2.2
  | _, _ => 0
def cu1 (q : Nat → Nat) (l0 l1 : Nat) : Nat × Nat × Nat := st3 (q 0) l0 l1 0 0 0
def cu2 (q : Nat → Nat) (l0 l1 : Nat) : Nat × Nat × Nat := st3 (q 1) l0 l1 (cu1 q l0 l1).2.1 (cu1 q l0 l1).2.2 0
def cu3 (q : Nat → Nat) (l0 l1 : Nat) : Nat × Nat × Nat := st3 (q 2) l0 l1 (cu2 q l0 l1).2.1 (cu2 q l0 l1).2.2 0
def cu4 (q : Nat → Nat) (l0 l1 : Nat) : Nat × Nat × Nat := st3 (q 3) l0 l1 (cu3 q l0 l1).2.1 (cu3 q l0 l1).2.2 0
def cuA (q : Nat → Nat) (l0 l1 : Nat) : Nat → Nat → Nat
  | 0, _ => 0
  | 1, 0 => (cu1 q l0 l1).1
  | 1, 1 => (cu1 q l0 l1).2.1
  | 1, 2 => (cu1 q l0 l1).2.2
  | 1, _ => 0
  | 2, 0 => (cu1 q l0 l1).1
  | 2, 1 => (cu2 q l0 l1).1
  | 2, 2 => (cu2 q l0 l1).2.1
  | 2, 3 => (cu2 q l0 l1).2.2
  | 2, _ => 0
  | 3, 0 => (cu1 q l0 l1).1
  | 3, 1 => (cu2 q l0 l1).1
  | 3, 2 => (cu3 q l0 l1).1
  | 3, 3 => (cu3 q l0 l1).2.1
  | 3, 4 => (cu3 q l0 l1).2.2
  | 3, _ => 0
  | _, 0 => (cu1 q l0 l1).1
  | _, 1 => (cu2 q l0 l1).1
  | _, 2 => (cu3 q l0 l1).1
  | _, 3 => (cu4 q l0 l1).1
  | _, 4 => (cu4 q l0 l1).2.1
  | _, 5 => (cu4 q l0 l1).2.2
  | _, _ => 0
def cab (x p : Nat) : Bool :=
  if p < m64 (m64 (x / 4294967296) (x / 4294967296)) (x / 4294967296) then true else
  let c := cuA (sqA (x % 4294967296) (x / 4294967296) 2) (x % 4294967296) (x / 4294967296) 4
  decide (p ≤ a64 (c 3) (sl64 (c 4) 32)) && (decide (p < a64 (c 3) (sl64 (c 4) 32)) || decide (0 < a64 (a64 (c 0) (c 1)) (c 2)))
theorem mn32 : min 32 64 = 32 := rfl
theorem tmod32 (x : Nat) : ((x : Int)).tmod 4294967296 = ((x % 4294967296 : Nat) : Int) := rfl
theorem sr32 (x : Nat) : sr x 32 = x / 4294967296 := rfl
theorem wAdd0 (a : Nat) : IntKind.u64.wrap ((a : Int) + 0) = ((a64 a 0 : Nat) : Int) := wAdd64 a 0
abbrev z6 : List CV := [c64 0, c64 0, c64 0, c64 0, c64 0, c64 0]
set_option maxHeartbeats 4000000 in
set_option maxRecDepth 100000 in
theorem rcab_c (x p : Nat) (w : World) : Calls Try.prog 149 #[.int .u64 (x : Int), .int .u64 (p : Int)] w fun e w' => e = .returned (.bool (cab x p)) ∧ Below w.heap.size w w' := by
  refine calls_pure 139 _ Try.func149 rfl Try.ntmps149 Try.results149 [.c (c64 x), .c (c64 p)] (by simp) (fun _ => rfl) ?_
  unfold cab
  obtain ⟨l1, hl1⟩ : ∃ l, x / 4294967296 = l := ⟨_, rfl⟩
  obtain ⟨l0, hl0⟩ : ∃ l, x % 4294967296 = l := ⟨_, rfl⟩
  rw [hl1, hl0]
  by_cases h : p < m64 (m64 l1 l1) l1
  · rw [if_pos h]
    simp (disch := omega) only [go_sem, ↓reduceIte, Nat.reduceEqDiff, Nat.reduceLT, Nat.reduceLeDiff, Nat.reduceAdd, Nat.reduceMul, Nat.reduceSub, Nat.reduceDiv, Nat.reduceMod, Int.reduceToNat, Int.reduceLT, Int.reduceLE, Int.reduceAdd, Int.reduceSub, Int.reduceMul, Int.reduceEq, Int.reduceNeg, reduceCtorEq, or_false, false_or, decide_true, decide_false, Int.cast_ofNat_Int, Nat.zero_add, Nat.add_zero, Int.toNat_natCast, Option.isNone_none, Option.isNone_some, Bool.not_true, Bool.not_false, Bool.xor_true, Bool.xor_false, Bool.true_xor, Bool.false_xor, decide_true, decide_false, Bool.and_true, Bool.true_and, Bool.and_false, Bool.false_and, eq_self, ne_eq, not_false_eq_true, not_true_eq_false, true_and, and_true, and_self, wrapI64, wrapu64, wrapu32, wrapu8, ltT, ltF, leT, leF, eqF, eqT, nltT, nleT, neqFn, wShr, mn32, sr32, hl1, wMul64]
    exact fun ρ a w hs _ => ⟨rfl, hs.grown⟩
  rw [if_neg h]
  simp (disch := omega) only [go_sem, ↓reduceIte, Nat.reduceEqDiff, Nat.reduceLT, Nat.reduceLeDiff, Nat.reduceAdd, Nat.reduceMul, Nat.reduceSub, Nat.reduceDiv, Nat.reduceMod, Int.reduceToNat, Int.reduceLT, Int.reduceLE, Int.reduceAdd, Int.reduceSub, Int.reduceMul, Int.reduceEq, Int.reduceNeg, reduceCtorEq, or_false, false_or, decide_true, decide_false, Int.cast_ofNat_Int, Nat.zero_add, Nat.add_zero, Int.toNat_natCast, Option.isNone_none, Option.isNone_some, Bool.not_true, Bool.not_false, Bool.xor_true, Bool.xor_false, Bool.true_xor, Bool.false_xor, decide_true, decide_false, Bool.and_true, Bool.true_and, Bool.and_false, Bool.false_and, eq_self, ne_eq, not_false_eq_true, not_true_eq_false, true_and, and_true, and_self, wrapI64, wrapu64, wrapu32, wrapu8, ltT, ltF, leT, leF, eqF, eqT, nltT, nleT, neqFn, wShr, mn32, sr32, hl1, wMul64, tmod32, hl0]
  refine sloop (fun i : Nat => ⟨[(8, .c (.v (.int .i64 (i : Int)))), (7, .c (.p 1 0 0)), (6, .c (.p 0 0 0)), (1, .c (c64 p))], [(1, .cells 221 [c64 (sqA l0 l1 i 0), c64 (sqA l0 l1 i 1), c64 (sqA l0 l1 i 2), c64 (sqA l0 l1 i 3), c64 (sqA l0 l1 i 4), c64 (sqA l0 l1 i 5)]), (0, .cells 221 [c64 l0, c64 l1, c64 0, c64 0, c64 0, c64 0])], 2⟩) (fun i => i ≤ 2) (fun i => 2 - i) 0 (Nat.zero_le _) (ent_drop ⟨rfl, rfl, rfl, rfl, trivial⟩ ⟨rfl, rfl, trivial⟩ (by simp)) (fun i hi => ?_)
  have hi : i ≤ 2 := hi
  match i, hi with
  | 0, _ =>
    simp (disch := omega) only [go_sem, ↓reduceIte, Nat.reduceEqDiff, Nat.reduceLT, Nat.reduceLeDiff, Nat.reduceAdd, Nat.reduceMul, Nat.reduceSub, Nat.reduceDiv, Nat.reduceMod, Int.reduceToNat, Int.reduceLT, Int.reduceLE, Int.reduceAdd, Int.reduceSub, Int.reduceMul, Int.reduceEq, Int.reduceNeg, reduceCtorEq, or_false, false_or, decide_true, decide_false, Int.cast_ofNat_Int, Nat.zero_add, Nat.add_zero, Int.toNat_natCast, Option.isNone_none, Option.isNone_some, Bool.not_true, Bool.not_false, Bool.xor_true, Bool.xor_false, Bool.true_xor, Bool.false_xor, decide_true, decide_false, Bool.and_true, Bool.true_and, Bool.and_false, Bool.false_and, eq_self, ne_eq, not_false_eq_true, not_true_eq_false, true_and, and_true, and_self, wrapI64, wrapu64, wrapu32, wrapu8, ltT, ltF, leT, leF, eqF, eqT, nltT, nleT, neqFn]
    refine sloop_rounds 3 ?_
    simp (disch := omega) only [go_sem, ↓reduceIte, Nat.reduceEqDiff, Nat.reduceLT, Nat.reduceLeDiff, Nat.reduceAdd, Nat.reduceMul, Nat.reduceSub, Nat.reduceDiv, Nat.reduceMod, Int.reduceToNat, Int.reduceLT, Int.reduceLE, Int.reduceAdd, Int.reduceSub, Int.reduceMul, Int.reduceEq, Int.reduceNeg, reduceCtorEq, or_false, false_or, decide_true, decide_false, Int.cast_ofNat_Int, Nat.zero_add, Nat.add_zero, Int.toNat_natCast, Option.isNone_none, Option.isNone_some, Bool.not_true, Bool.not_false, Bool.xor_true, Bool.xor_false, Bool.true_xor, Bool.false_xor, decide_true, decide_false, Bool.and_true, Bool.true_and, Bool.and_false, Bool.false_and, eq_self, ne_eq, not_false_eq_true, not_true_eq_false, true_and, and_true, and_self, wrapI64, wrapu64, wrapu32, wrapu8, ltT, ltF, leT, leF, eqF, eqT, nltT, nleT, neqFn]
    refine sdraw [.t 0, .t 1, .t 2, .t 3, .t 4, .t 5, .t 6, .t 7, .t 8, .t 9, .t 10, .t 11, .t 12, .t 13, .t 14, .t 15] 16 [(0, _), (1, _)] rfl (by kernel_rfl) ⟨rfl, rfl, trivial⟩ ?_
    simp (disch := omega) only [go_sem, ↓reduceIte, Nat.reduceEqDiff, Nat.reduceLT, Nat.reduceLeDiff, Nat.reduceAdd, Nat.reduceMul, Nat.reduceSub, Nat.reduceDiv, Nat.reduceMod, Int.reduceToNat, Int.reduceLT, Int.reduceLE, Int.reduceAdd, Int.reduceSub, Int.reduceMul, Int.reduceEq, Int.reduceNeg, reduceCtorEq, or_false, false_or, decide_true, decide_false, Int.cast_ofNat_Int, Nat.zero_add, Nat.add_zero, Int.toNat_natCast, Option.isNone_none, Option.isNone_some, Bool.not_true, Bool.not_false, Bool.xor_true, Bool.xor_false, Bool.true_xor, Bool.false_xor, decide_true, decide_false, Bool.and_true, Bool.true_and, Bool.and_false, Bool.false_and, eq_self, ne_eq, not_false_eq_true, not_true_eq_false, true_and, and_true, and_self, wrapI64, wrapu64, wrapu32, wrapu8, ltT, ltF, leT, leF, eqF, eqT, nltT, nleT, neqFn, wMul64, wAdd64, wAdd0, tmod32, wShr, mn32, sr32]
    refine sdraw [.t 0, .t 1, .t 2, .t 3, .t 4, .t 5, .t 6, .t 7, .t 8, .t 9, .t 10, .t 11, .t 12, .t 13, .t 14, .t 15] 16 [(0, _), (1, _)] rfl (by kernel_rfl) ⟨rfl, rfl, trivial⟩ ?_
    simp (disch := omega) only [go_sem, ↓reduceIte, Nat.reduceEqDiff, Nat.reduceLT, Nat.reduceLeDiff, Nat.reduceAdd, Nat.reduceMul, Nat.reduceSub, Nat.reduceDiv, Nat.reduceMod, Int.reduceToNat, Int.reduceLT, Int.reduceLE, Int.reduceAdd, Int.reduceSub, Int.reduceMul, Int.reduceEq, Int.reduceNeg, reduceCtorEq, or_false, false_or, decide_true, decide_false, Int.cast_ofNat_Int, Nat.zero_add, Nat.add_zero, Int.toNat_natCast, Option.isNone_none, Option.isNone_some, Bool.not_true, Bool.not_false, Bool.xor_true, Bool.xor_false, Bool.true_xor, Bool.false_xor, decide_true, decide_false, Bool.and_true, Bool.true_and, Bool.and_false, Bool.false_and, eq_self, ne_eq, not_false_eq_true, not_true_eq_false, true_and, and_true, and_self, wrapI64, wrapu64, wrapu32, wrapu8, ltT, ltF, leT, leF, eqF, eqT, nltT, nleT, neqFn, wMul64, wAdd64, wAdd0, tmod32, wShr, mn32, sr32]
    exact ⟨1, by decide, by decide, ent_drop ⟨rfl, rfl, rfl, rfl, trivial⟩ ⟨rfl, rfl, trivial⟩ (by simp)⟩
  | 1, _ =>
    simp (disch := omega) only [go_sem, ↓reduceIte, Nat.reduceEqDiff, Nat.reduceLT, Nat.reduceLeDiff, Nat.reduceAdd, Nat.reduceMul, Nat.reduceSub, Nat.reduceDiv, Nat.reduceMod, Int.reduceToNat, Int.reduceLT, Int.reduceLE, Int.reduceAdd, Int.reduceSub, Int.reduceMul, Int.reduceEq, Int.reduceNeg, reduceCtorEq, or_false, false_or, decide_true, decide_false, Int.cast_ofNat_Int, Nat.zero_add, Nat.add_zero, Int.toNat_natCast, Option.isNone_none, Option.isNone_some, Bool.not_true, Bool.not_false, Bool.xor_true, Bool.xor_false, Bool.true_xor, Bool.false_xor, decide_true, decide_false, Bool.and_true, Bool.true_and, Bool.and_false, Bool.false_and, eq_self, ne_eq, not_false_eq_true, not_true_eq_false, true_and, and_true, and_self, wrapI64, wrapu64, wrapu32, wrapu8, ltT, ltF, leT, leF, eqF, eqT, nltT, nleT, neqFn]
    refine sloop_rounds 3 ?_
    simp (disch := omega) only [go_sem, ↓reduceIte, Nat.reduceEqDiff, Nat.reduceLT, Nat.reduceLeDiff, Nat.reduceAdd, Nat.reduceMul, Nat.reduceSub, Nat.reduceDiv, Nat.reduceMod, Int.reduceToNat, Int.reduceLT, Int.reduceLE, Int.reduceAdd, Int.reduceSub, Int.reduceMul, Int.reduceEq, Int.reduceNeg, reduceCtorEq, or_false, false_or, decide_true, decide_false, Int.cast_ofNat_Int, Nat.zero_add, Nat.add_zero, Int.toNat_natCast, Option.isNone_none, Option.isNone_some, Bool.not_true, Bool.not_false, Bool.xor_true, Bool.xor_false, Bool.true_xor, Bool.false_xor, decide_true, decide_false, Bool.and_true, Bool.true_and, Bool.and_false, Bool.false_and, eq_self, ne_eq, not_false_eq_true, not_true_eq_false, true_and, and_true, and_self, wrapI64, wrapu64, wrapu32, wrapu8, ltT, ltF, leT, leF, eqF, eqT, nltT, nleT, neqFn]
    refine sdraw [.t 0, .t 1, .t 2, .t 3, .t 4, .t 5, .t 6, .t 7, .t 8, .t 9, .t 10, .t 11, .t 12, .t 13, .t 14, .t 15] 16 [(0, _), (1, _)] rfl (by kernel_rfl) ⟨rfl, rfl, trivial⟩ ?_
    simp (disch := omega) only [go_sem, ↓reduceIte, Nat.reduceEqDiff, Nat.reduceLT, Nat.reduceLeDiff, Nat.reduceAdd, Nat.reduceMul, Nat.reduceSub, Nat.reduceDiv, Nat.reduceMod, Int.reduceToNat, Int.reduceLT, Int.reduceLE, Int.reduceAdd, Int.reduceSub, Int.reduceMul, Int.reduceEq, Int.reduceNeg, reduceCtorEq, or_false, false_or, decide_true, decide_false, Int.cast_ofNat_Int, Nat.zero_add, Nat.add_zero, Int.toNat_natCast, Option.isNone_none, Option.isNone_some, Bool.not_true, Bool.not_false, Bool.xor_true, Bool.xor_false, Bool.true_xor, Bool.false_xor, decide_true, decide_false, Bool.and_true, Bool.true_and, Bool.and_false, Bool.false_and, eq_self, ne_eq, not_false_eq_true, not_true_eq_false, true_and, and_true, and_self, wrapI64, wrapu64, wrapu32, wrapu8, ltT, ltF, leT, leF, eqF, eqT, nltT, nleT, neqFn, wMul64, wAdd64, wAdd0, tmod32, wShr, mn32, sr32]
    refine sdraw [.t 0, .t 1, .t 2, .t 3, .t 4, .t 5, .t 6, .t 7, .t 8, .t 9, .t 10, .t 11, .t 12, .t 13, .t 14, .t 15] 16 [(0, _), (1, _)] rfl (by kernel_rfl) ⟨rfl, rfl, trivial⟩ ?_
    simp (disch := omega) only [go_sem, ↓reduceIte, Nat.reduceEqDiff, Nat.reduceLT, Nat.reduceLeDiff, Nat.reduceAdd, Nat.reduceMul, Nat.reduceSub, Nat.reduceDiv, Nat.reduceMod, Int.reduceToNat, Int.reduceLT, Int.reduceLE, Int.reduceAdd, Int.reduceSub, Int.reduceMul, Int.reduceEq, Int.reduceNeg, reduceCtorEq, or_false, false_or, decide_true, decide_false, Int.cast_ofNat_Int, Nat.zero_add, Nat.add_zero, Int.toNat_natCast, Option.isNone_none, Option.isNone_some, Bool.not_true, Bool.not_false, Bool.xor_true, Bool.xor_false, Bool.true_xor, Bool.false_xor, decide_true, decide_false, Bool.and_true, Bool.true_and, Bool.and_false, Bool.false_and, eq_self, ne_eq, not_false_eq_true, not_true_eq_false, true_and, and_true, and_self, wrapI64, wrapu64, wrapu32, wrapu8, ltT, ltF, leT, leF, eqF, eqT, nltT, nleT, neqFn, wMul64, wAdd64, wAdd0, tmod32, wShr, mn32, sr32]
    exact ⟨2, by decide, by decide, ent_drop ⟨rfl, rfl, rfl, rfl, trivial⟩ ⟨rfl, rfl, trivial⟩ (by simp)⟩
  | 2, _ =>
    simp (disch := omega) only [go_sem, ↓reduceIte, Nat.reduceEqDiff, Nat.reduceLT, Nat.reduceLeDiff, Nat.reduceAdd, Nat.reduceMul, Nat.reduceSub, Nat.reduceDiv, Nat.reduceMod, Int.reduceToNat, Int.reduceLT, Int.reduceLE, Int.reduceAdd, Int.reduceSub, Int.reduceMul, Int.reduceEq, Int.reduceNeg, reduceCtorEq, or_false, false_or, decide_true, decide_false, Int.cast_ofNat_Int, Nat.zero_add, Nat.add_zero, Int.toNat_natCast, Option.isNone_none, Option.isNone_some, Bool.not_true, Bool.not_false, Bool.xor_true, Bool.xor_false, Bool.true_xor, Bool.false_xor, decide_true, decide_false, Bool.and_true, Bool.true_and, Bool.and_false, Bool.false_and, eq_self, ne_eq, not_false_eq_true, not_true_eq_false, true_and, and_true, and_self, wrapI64, wrapu64, wrapu32, wrapu8, ltT, ltF, leT, leF, eqF, eqT, nltT, nleT, neqFn]
    obtain ⟨q, hq⟩ : ∃ q, sqA l0 l1 2 = q := ⟨_, rfl⟩
    rw [hq]
    refine sloop (fun i : Nat => ⟨[(13, .c (.v (.int .i64 (i : Int)))), (12, .c (.p 2 0 0)), (7, .c (.p 1 0 0)), (6, .c (.p 0 0 0)), (1, .c (c64 p))], [(2, .cells 221 [c64 (cuA q l0 l1 i 0), c64 (cuA q l0 l1 i 1), c64 (cuA q l0 l1 i 2), c64 (cuA q l0 l1 i 3), c64 (cuA q l0 l1 i 4), c64 (cuA q l0 l1 i 5)]), (1, .cells 221 [c64 (q 0), c64 (q 1), c64 (q 2), c64 (q 3), c64 (q 4), c64 (q 5)]), (0, .cells 221 [c64 l0, c64 l1, c64 0, c64 0, c64 0, c64 0])], 3⟩) (fun i => i ≤ 4) (fun i => 4 - i) 0 (Nat.zero_le _) (ent_drop ⟨rfl, rfl, rfl, rfl, rfl, trivial⟩ ⟨rfl, rfl, rfl, trivial⟩ (by simp)) (fun i hi => ?_)
    have hi : i ≤ 4 := hi
    match i, hi with
    | 0, _ =>
      simp (disch := omega) only [go_sem, ↓reduceIte, Nat.reduceEqDiff, Nat.reduceLT, Nat.reduceLeDiff, Nat.reduceAdd, Nat.reduceMul, Nat.reduceSub, Nat.reduceDiv, Nat.reduceMod, Int.reduceToNat, Int.reduceLT, Int.reduceLE, Int.reduceAdd, Int.reduceSub, Int.reduceMul, Int.reduceEq, Int.reduceNeg, reduceCtorEq, or_false, false_or, decide_true, decide_false, Int.cast_ofNat_Int, Nat.zero_add, Nat.add_zero, Int.toNat_natCast, Option.isNone_none, Option.isNone_some, Bool.not_true, Bool.not_false, Bool.xor_true, Bool.xor_false, Bool.true_xor, Bool.false_xor, decide_true, decide_false, Bool.and_true, Bool.true_and, Bool.and_false, Bool.false_and, eq_self, ne_eq, not_false_eq_true, not_true_eq_false, true_and, and_true, and_self, wrapI64, wrapu64, wrapu32, wrapu8, ltT, ltF, leT, leF, eqF, eqT, nltT, nleT, neqFn]
      refine sloop_rounds 3 ?_
      simp (disch := omega) only [go_sem, ↓reduceIte, Nat.reduceEqDiff, Nat.reduceLT, Nat.reduceLeDiff, Nat.reduceAdd, Nat.reduceMul, Nat.reduceSub, Nat.reduceDiv, Nat.reduceMod, Int.reduceToNat, Int.reduceLT, Int.reduceLE, Int.reduceAdd, Int.reduceSub, Int.reduceMul, Int.reduceEq, Int.reduceNeg, reduceCtorEq, or_false, false_or, decide_true, decide_false, Int.cast_ofNat_Int, Nat.zero_add, Nat.add_zero, Int.toNat_natCast, Option.isNone_none, Option.isNone_some, Bool.not_true, Bool.not_false, Bool.xor_true, Bool.xor_false, Bool.true_xor, Bool.false_xor, decide_true, decide_false, Bool.and_true, Bool.true_and, Bool.and_false, Bool.false_and, eq_self, ne_eq, not_false_eq_true, not_true_eq_false, true_and, and_true, and_self, wrapI64, wrapu64, wrapu32, wrapu8, ltT, ltF, leT, leF, eqF, eqT, nltT, nleT, neqFn]
      refine sdraw [.t 0, .t 1, .t 2, .t 3, .t 4, .t 5, .t 6, .t 7, .t 8, .t 9, .t 10, .t 11, .t 12, .t 13, .t 14, .t 15] 16 [(0, _), (1, _), (2, _)] rfl (by kernel_rfl) ⟨rfl, rfl, rfl, trivial⟩ ?_
      simp (disch := omega) only [go_sem, ↓reduceIte, Nat.reduceEqDiff, Nat.reduceLT, Nat.reduceLeDiff, Nat.reduceAdd, Nat.reduceMul, Nat.reduceSub, Nat.reduceDiv, Nat.reduceMod, Int.reduceToNat, Int.reduceLT, Int.reduceLE, Int.reduceAdd, Int.reduceSub, Int.reduceMul, Int.reduceEq, Int.reduceNeg, reduceCtorEq, or_false, false_or, decide_true, decide_false, Int.cast_ofNat_Int, Nat.zero_add, Nat.add_zero, Int.toNat_natCast, Option.isNone_none, Option.isNone_some, Bool.not_true, Bool.not_false, Bool.xor_true, Bool.xor_false, Bool.true_xor, Bool.false_xor, decide_true, decide_false, Bool.and_true, Bool.true_and, Bool.and_false, Bool.false_and, eq_self, ne_eq, not_false_eq_true, not_true_eq_false, true_and, and_true, and_self, wrapI64, wrapu64, wrapu32, wrapu8, ltT, ltF, leT, leF, eqF, eqT, nltT, nleT, neqFn, wMul64, wAdd64, wAdd0, tmod32, wShr, mn32, sr32]
      refine sdraw [.t 0, .t 1, .t 2, .t 3, .t 4, .t 5, .t 6, .t 7, .t 8, .t 9, .t 10, .t 11, .t 12, .t 13, .t 14, .t 15] 16 [(0, _), (1, _), (2, _)] rfl (by kernel_rfl) ⟨rfl, rfl, rfl, trivial⟩ ?_
      simp (disch := omega) only [go_sem, ↓reduceIte, Nat.reduceEqDiff, Nat.reduceLT, Nat.reduceLeDiff, Nat.reduceAdd, Nat.reduceMul, Nat.reduceSub, Nat.reduceDiv, Nat.reduceMod, Int.reduceToNat, Int.reduceLT, Int.reduceLE, Int.reduceAdd, Int.reduceSub, Int.reduceMul, Int.reduceEq, Int.reduceNeg, reduceCtorEq, or_false, false_or, decide_true, decide_false, Int.cast_ofNat_Int, Nat.zero_add, Nat.add_zero, Int.toNat_natCast, Option.isNone_none, Option.isNone_some, Bool.not_true, Bool.not_false, Bool.xor_true, Bool.xor_false, Bool.true_xor, Bool.false_xor, decide_true, decide_false, Bool.and_true, Bool.true_and, Bool.and_false, Bool.false_and, eq_self, ne_eq, not_false_eq_true, not_true_eq_false, true_and, and_true, and_self, wrapI64, wrapu64, wrapu32, wrapu8, ltT, ltF, leT, leF, eqF, eqT, nltT, nleT, neqFn, wMul64, wAdd64, wAdd0, tmod32, wShr, mn32, sr32]
      exact ⟨1, by decide, by decide, ent_drop ⟨rfl, rfl, rfl, rfl, rfl, trivial⟩ ⟨rfl, rfl, rfl, trivial⟩ (by simp)⟩
    | 1, _ =>
      simp (disch := omega) only [go_sem, ↓reduceIte, Nat.reduceEqDiff, Nat.reduceLT, Nat.reduceLeDiff, Nat.reduceAdd, Nat.reduceMul, Nat.reduceSub, Nat.reduceDiv, Nat.reduceMod, Int.reduceToNat, Int.reduceLT, Int.reduceLE, Int.reduceAdd, Int.reduceSub, Int.reduceMul, Int.reduceEq, Int.reduceNeg, reduceCtorEq, or_false, false_or, decide_true, decide_false, Int.cast_ofNat_Int, Nat.zero_add, Nat.add_zero, Int.toNat_natCast, Option.isNone_none, Option.isNone_some, Bool.not_true, Bool.not_false, Bool.xor_true, Bool.xor_false, Bool.true_xor, Bool.false_xor, decide_true, decide_false, Bool.and_true, Bool.true_and, Bool.and_false, Bool.false_and, eq_self, ne_eq, not_false_eq_true, not_true_eq_false, true_and, and_true, and_self, wrapI64, wrapu64, wrapu32, wrapu8, ltT, ltF, leT, leF, eqF, eqT, nltT, nleT, neqFn]
      refine sloop_rounds 3 ?_
      simp (disch := omega) only [go_sem, ↓reduceIte, Nat.reduceEqDiff, Nat.reduceLT, Nat.reduceLeDiff, Nat.reduceAdd, Nat.reduceMul, Nat.reduceSub, Nat.reduceDiv, Nat.reduceMod, Int.reduceToNat, Int.reduceLT, Int.reduceLE, Int.reduceAdd, Int.reduceSub, Int.reduceMul, Int.reduceEq, Int.reduceNeg, reduceCtorEq, or_false, false_or, decide_true, decide_false, Int.cast_ofNat_Int, Nat.zero_add, Nat.add_zero, Int.toNat_natCast, Option.isNone_none, Option.isNone_some, Bool.not_true, Bool.not_false, Bool.xor_true, Bool.xor_false, Bool.true_xor, Bool.false_xor, decide_true, decide_false, Bool.and_true, Bool.true_and, Bool.and_false, Bool.false_and, eq_self, ne_eq, not_false_eq_true, not_true_eq_false, true_and, and_true, and_self, wrapI64, wrapu64, wrapu32, wrapu8, ltT, ltF, leT, leF, eqF, eqT, nltT, nleT, neqFn]
      refine sdraw [.t 0, .t 1, .t 2, .t 3, .t 4, .t 5, .t 6, .t 7, .t 8, .t 9, .t 10, .t 11, .t 12, .t 13, .t 14, .t 15] 16 [(0, _), (1, _), (2, _)] rfl (by kernel_rfl) ⟨rfl, rfl, rfl, trivial⟩ ?_
      simp (disch := omega) only [go_sem, ↓reduceIte, Nat.reduceEqDiff, Nat.reduceLT, Nat.reduceLeDiff, Nat.reduceAdd, Nat.reduceMul, Nat.reduceSub, Nat.reduceDiv, Nat.reduceMod, Int.reduceToNat, Int.reduceLT, Int.reduceLE, Int.reduceAdd, Int.reduceSub, Int.reduceMul, Int.reduceEq, Int.reduceNeg, reduceCtorEq, or_false, false_or, decide_true, decide_false, Int.cast_ofNat_Int, Nat.zero_add, Nat.add_zero, Int.toNat_natCast, Option.isNone_none, Option.isNone_some, Bool.not_true, Bool.not_false, Bool.xor_true, Bool.xor_false, Bool.true_xor, Bool.false_xor, decide_true, decide_false, Bool.and_true, Bool.true_and, Bool.and_false, Bool.false_and, eq_self, ne_eq, not_false_eq_true, not_true_eq_false, true_and, and_true, and_self, wrapI64, wrapu64, wrapu32, wrapu8, ltT, ltF, leT, leF, eqF, eqT, nltT, nleT, neqFn, wMul64, wAdd64, wAdd0, tmod32, wShr, mn32, sr32]
      refine sdraw [.t 0, .t 1, .t 2, .t 3, .t 4, .t 5, .t 6, .t 7, .t 8, .t 9, .t 10, .t 11, .t 12, .t 13, .t 14, .t 15] 16 [(0, _), (1, _), (2, _)] rfl (by kernel_rfl) ⟨rfl, rfl, rfl, trivial⟩ ?_
      simp (disch := omega) only [go_sem, ↓reduceIte, Nat.reduceEqDiff, Nat.reduceLT, Nat.reduceLeDiff, Nat.reduceAdd, Nat.reduceMul, Nat.reduceSub, Nat.reduceDiv, Nat.reduceMod, Int.reduceToNat, Int.reduceLT, Int.reduceLE, Int.reduceAdd, Int.reduceSub, Int.reduceMul, Int.reduceEq, Int.reduceNeg, reduceCtorEq, or_false, false_or, decide_true, decide_false, Int.cast_ofNat_Int, Nat.zero_add, Nat.add_zero, Int.toNat_natCast, Option.isNone_none, Option.isNone_some, Bool.not_true, Bool.not_false, Bool.xor_true, Bool.xor_false, Bool.true_xor, Bool.false_xor, decide_true, decide_false, Bool.and_true, Bool.true_and, Bool.and_false, Bool.false_and, eq_self, ne_eq, not_false_eq_true, not_true_eq_false, true_and, and_true, and_self, wrapI64, wrapu64, wrapu32, wrapu8, ltT, ltF, leT, leF, eqF, eqT, nltT, nleT, neqFn, wMul64, wAdd64, wAdd0, tmod32, wShr, mn32, sr32]
      exact ⟨2, by decide, by decide, ent_drop ⟨rfl, rfl, rfl, rfl, rfl, trivial⟩ ⟨rfl, rfl, rfl, trivial⟩ (by simp)⟩
    | 2, _ =>
      simp (disch := omega) only [go_sem, ↓reduceIte, Nat.reduceEqDiff, Nat.reduceLT, Nat.reduceLeDiff, Nat.reduceAdd, Nat.reduceMul, Nat.reduceSub, Nat.reduceDiv, Nat.reduceMod, Int.reduceToNat, Int.reduceLT, Int.reduceLE, Int.reduceAdd, Int.reduceSub, Int.reduceMul, Int.reduceEq, Int.reduceNeg, reduceCtorEq, or_false, false_or, decide_true, decide_false, Int.cast_ofNat_Int, Nat.zero_add, Nat.add_zero, Int.toNat_natCast, Option.isNone_none, Option.isNone_some, Bool.not_true, Bool.not_false, Bool.xor_true, Bool.xor_false, Bool.true_xor, Bool.false_xor, decide_true, decide_false, Bool.and_true, Bool.true_and, Bool.and_false, Bool.false_and, eq_self, ne_eq, not_false_eq_true, not_true_eq_false, true_and, and_true, and_self, wrapI64, wrapu64, wrapu32, wrapu8, ltT, ltF, leT, leF, eqF, eqT, nltT, nleT, neqFn]
      refine sloop_rounds 3 ?_
      simp (disch := omega) only [go_sem, ↓reduceIte, Nat.reduceEqDiff, Nat.reduceLT, Nat.reduceLeDiff, Nat.reduceAdd, Nat.reduceMul, Nat.reduceSub, Nat.reduceDiv, Nat.reduceMod, Int.reduceToNat, Int.reduceLT, Int.reduceLE, Int.reduceAdd, Int.reduceSub, Int.reduceMul, Int.reduceEq, Int.reduceNeg, reduceCtorEq, or_false, false_or, decide_true, decide_false, Int.cast_ofNat_Int, Nat.zero_add, Nat.add_zero, Int.toNat_natCast, Option.isNone_none, Option.isNone_some, Bool.not_true, Bool.not_false, Bool.xor_true, Bool.xor_false, Bool.true_xor, Bool.false_xor, decide_true, decide_false, Bool.and_true, Bool.true_and, Bool.and_false, Bool.false_and, eq_self, ne_eq, not_false_eq_true, not_true_eq_false, true_and, and_true, and_self, wrapI64, wrapu64, wrapu32, wrapu8, ltT, ltF, leT, leF, eqF, eqT, nltT, nleT, neqFn]
      refine sdraw [.t 0, .t 1, .t 2, .t 3, .t 4, .t 5, .t 6, .t 7, .t 8, .t 9, .t 10, .t 11, .t 12, .t 13, .t 14, .t 15] 16 [(0, _), (1, _), (2, _)] rfl (by kernel_rfl) ⟨rfl, rfl, rfl, trivial⟩ ?_
      simp (disch := omega) only [go_sem, ↓reduceIte, Nat.reduceEqDiff, Nat.reduceLT, Nat.reduceLeDiff, Nat.reduceAdd, Nat.reduceMul, Nat.reduceSub, Nat.reduceDiv, Nat.reduceMod, Int.reduceToNat, Int.reduceLT, Int.reduceLE, Int.reduceAdd, Int.reduceSub, Int.reduceMul, Int.reduceEq, Int.reduceNeg, reduceCtorEq, or_false, false_or, decide_true, decide_false, Int.cast_ofNat_Int, Nat.zero_add, Nat.add_zero, Int.toNat_natCast, Option.isNone_none, Option.isNone_some, Bool.not_true, Bool.not_false, Bool.xor_true, Bool.xor_false, Bool.true_xor, Bool.false_xor, decide_true, decide_false, Bool.and_true, Bool.true_and, Bool.and_false, Bool.false_and, eq_self, ne_eq, not_false_eq_true, not_true_eq_false, true_and, and_true, and_self, wrapI64, wrapu64, wrapu32, wrapu8, ltT, ltF, leT, leF, eqF, eqT, nltT, nleT, neqFn, wMul64, wAdd64, wAdd0, tmod32, wShr, mn32, sr32]
      refine sdraw [.t 0, .t 1, .t 2, .t 3, .t 4, .t 5, .t 6, .t 7, .t 8, .t 9, .t 10, .t 11, .t 12, .t 13, .t 14, .t 15] 16 [(0, _), (1, _), (2, _)] rfl (by kernel_rfl) ⟨rfl, rfl, rfl, trivial⟩ ?_
      simp (disch := omega) only [go_sem, ↓reduceIte, Nat.reduceEqDiff, Nat.reduceLT, Nat.reduceLeDiff, Nat.reduceAdd, Nat.reduceMul, Nat.reduceSub, Nat.reduceDiv, Nat.reduceMod, Int.reduceToNat, Int.reduceLT, Int.reduceLE, Int.reduceAdd, Int.reduceSub, Int.reduceMul, Int.reduceEq, Int.reduceNeg, reduceCtorEq, or_false, false_or, decide_true, decide_false, Int.cast_ofNat_Int, Nat.zero_add, Nat.add_zero, Int.toNat_natCast, Option.isNone_none, Option.isNone_some, Bool.not_true, Bool.not_false, Bool.xor_true, Bool.xor_false, Bool.true_xor, Bool.false_xor, decide_true, decide_false, Bool.and_true, Bool.true_and, Bool.and_false, Bool.false_and, eq_self, ne_eq, not_false_eq_true, not_true_eq_false, true_and, and_true, and_self, wrapI64, wrapu64, wrapu32, wrapu8, ltT, ltF, leT, leF, eqF, eqT, nltT, nleT, neqFn, wMul64, wAdd64, wAdd0, tmod32, wShr, mn32, sr32]
      exact ⟨3, by decide, by decide, ent_drop ⟨rfl, rfl, rfl, rfl, rfl, trivial⟩ ⟨rfl, rfl, rfl, trivial⟩ (by simp)⟩
    | 3, _ =>
      simp (disch := omega) only [go_sem, ↓reduceIte, Nat.reduceEqDiff, Nat.reduceLT, Nat.reduceLeDiff, Nat.reduceAdd, Nat.reduceMul, Nat.reduceSub, Nat.reduceDiv, Nat.reduceMod, Int.reduceToNat, Int.reduceLT, Int.reduceLE, Int.reduceAdd, Int.reduceSub, Int.reduceMul, Int.reduceEq, Int.reduceNeg, reduceCtorEq, or_false, false_or, decide_true, decide_false, Int.cast_ofNat_Int, Nat.zero_add, Nat.add_zero, Int.toNat_natCast, Option.isNone_none, Option.isNone_some, Bool.not_true, Bool.not_false, Bool.xor_true, Bool.xor_false, Bool.true_xor, Bool.false_xor, decide_true, decide_false, Bool.and_true, Bool.true_and, Bool.and_false, Bool.false_and, eq_self, ne_eq, not_false_eq_true, not_true_eq_false, true_and, and_true, and_self, wrapI64, wrapu64, wrapu32, wrapu8, ltT, ltF, leT, leF, eqF, eqT, nltT, nleT, neqFn]
      refine sloop_rounds 3 ?_
      simp (disch := omega) only [go_sem, ↓reduceIte, Nat.reduceEqDiff, Nat.reduceLT, Nat.reduceLeDiff, Nat.reduceAdd, Nat.reduceMul, Nat.reduceSub, Nat.reduceDiv, Nat.reduceMod, Int.reduceToNat, Int.reduceLT, Int.reduceLE, Int.reduceAdd, Int.reduceSub, Int.reduceMul, Int.reduceEq, Int.reduceNeg, reduceCtorEq, or_false, false_or, decide_true, decide_false, Int.cast_ofNat_Int, Nat.zero_add, Nat.add_zero, Int.toNat_natCast, Option.isNone_none, Option.isNone_some, Bool.not_true, Bool.not_false, Bool.xor_true, Bool.xor_false, Bool.true_xor, Bool.false_xor, decide_true, decide_false, Bool.and_true, Bool.true_and, Bool.and_false, Bool.false_and, eq_self, ne_eq, not_false_eq_true, not_true_eq_false, true_and, and_true, and_self, wrapI64, wrapu64, wrapu32, wrapu8, ltT, ltF, leT, leF, eqF, eqT, nltT, nleT, neqFn]
      refine sdraw [.t 0, .t 1, .t 2, .t 3, .t 4, .t 5, .t 6, .t 7, .t 8, .t 9, .t 10, .t 11, .t 12, .t 13, .t 14, .t 15] 16 [(0, _), (1, _), (2, _)] rfl (by kernel_rfl) ⟨rfl, rfl, rfl, trivial⟩ ?_
      simp (disch := omega) only [go_sem, ↓reduceIte, Nat.reduceEqDiff, Nat.reduceLT, Nat.reduceLeDiff, Nat.reduceAdd, Nat.reduceMul, Nat.reduceSub, Nat.reduceDiv, Nat.reduceMod, Int.reduceToNat, Int.reduceLT, Int.reduceLE, Int.reduceAdd, Int.reduceSub, Int.reduceMul, Int.reduceEq, Int.reduceNeg, reduceCtorEq, or_false, false_or, decide_true, decide_false, Int.cast_ofNat_Int, Nat.zero_add, Nat.add_zero, Int.toNat_natCast, Option.isNone_none, Option.isNone_some, Bool.not_true, Bool.not_false, Bool.xor_true, Bool.xor_false, Bool.true_xor, Bool.false_xor, decide_true, decide_false, Bool.and_true, Bool.true_and, Bool.and_false, Bool.false_and, eq_self, ne_eq, not_false_eq_true, not_true_eq_false, true_and, and_true, and_self, wrapI64, wrapu64, wrapu32, wrapu8, ltT, ltF, leT, leF, eqF, eqT, nltT, nleT, neqFn, wMul64, wAdd64, wAdd0, tmod32, wShr, mn32, sr32]
      refine sdraw [.t 0, .t 1, .t 2, .t 3, .t 4, .t 5, .t 6, .t 7, .t 8, .t 9, .t 10, .t 11, .t 12, .t 13, .t 14, .t 15] 16 [(0, _), (1, _), (2, _)] rfl (by kernel_rfl) ⟨rfl, rfl, rfl, trivial⟩ ?_
      simp (disch := omega) only [go_sem, ↓reduceIte, Nat.reduceEqDiff, Nat.reduceLT, Nat.reduceLeDiff, Nat.reduceAdd, Nat.reduceMul, Nat.reduceSub, Nat.reduceDiv, Nat.reduceMod, Int.reduceToNat, Int.reduceLT, Int.reduceLE, Int.reduceAdd, Int.reduceSub, Int.reduceMul, Int.reduceEq, Int.reduceNeg, reduceCtorEq, or_false, false_or, decide_true, decide_false, Int.cast_ofNat_Int, Nat.zero_add, Nat.add_zero, Int.toNat_natCast, Option.isNone_none, Option.isNone_some, Bool.not_true, Bool.not_false, Bool.xor_true, Bool.xor_false, Bool.true_xor, Bool.false_xor, decide_true, decide_false, Bool.and_true, Bool.true_and, Bool.and_false, Bool.false_and, eq_self, ne_eq, not_false_eq_true, not_true_eq_false, true_and, and_true, and_self, wrapI64, wrapu64, wrapu32, wrapu8, ltT, ltF, leT, leF, eqF, eqT, nltT, nleT, neqFn, wMul64, wAdd64, wAdd0, tmod32, wShr, mn32, sr32]
      exact ⟨4, by decide, by decide, ent_drop ⟨rfl, rfl, rfl, rfl, rfl, trivial⟩ ⟨rfl, rfl, rfl, trivial⟩ (by simp)⟩
    | 4, _ =>
      obtain ⟨c, hc⟩ : ∃ c, cuA q l0 l1 4 = c := ⟨_, rfl⟩
      rw [hc]
      obtain ⟨t, ht⟩ : ∃ t, a64 (c 3) (sl64 (c 4) 32) = t := ⟨_, rfl⟩
      obtain ⟨u, hu⟩ : ∃ u, a64 (a64 (c 0) (c 1)) (c 2) = u := ⟨_, rfl⟩
      rw [ht, hu]
      by_cases g1 : p ≤ t
      · by_cases g2 : p < t
        · rw [decide_eq_true g1, decide_eq_true g2]
          simp (disch := omega) only [go_sem, ↓reduceIte, Nat.reduceEqDiff, Nat.reduceLT, Nat.reduceLeDiff, Nat.reduceAdd, Nat.reduceMul, Nat.reduceSub, Nat.reduceDiv, Nat.reduceMod, Int.reduceToNat, Int.reduceLT, Int.reduceLE, Int.reduceAdd, Int.reduceSub, Int.reduceMul, Int.reduceEq, Int.reduceNeg, reduceCtorEq, or_false, false_or, decide_true, decide_false, Int.cast_ofNat_Int, Nat.zero_add, Nat.add_zero, Int.toNat_natCast, Option.isNone_none, Option.isNone_some, Bool.not_true, Bool.not_false, Bool.xor_true, Bool.xor_false, Bool.true_xor, Bool.false_xor, decide_true, decide_false, Bool.and_true, Bool.true_and, Bool.and_false, Bool.false_and, eq_self, ne_eq, not_false_eq_true, not_true_eq_false, true_and, and_true, and_self, wrapI64, wrapu64, wrapu32, wrapu8, ltT, ltF, leT, leF, eqF, eqT, nltT, nleT, neqFn, wAdd64, wShl64, mn32, ht, hu]
          exact fun ρ a w hs _ => ⟨rfl, hs.grown⟩
        · rw [decide_eq_true g1, decide_eq_false g2]
          obtain ⟨b, hb⟩ : ∃ b, decide ((0 : Int) < (u : Int)) = b := ⟨_, rfl⟩
          have hb2 : decide (0 < u) = b := by rw [← hb]; exact decide_eq_decide.2 (by omega)
          rw [hb2]
          simp (disch := omega) only [go_sem, ↓reduceIte, Nat.reduceEqDiff, Nat.reduceLT, Nat.reduceLeDiff, Nat.reduceAdd, Nat.reduceMul, Nat.reduceSub, Nat.reduceDiv, Nat.reduceMod, Int.reduceToNat, Int.reduceLT, Int.reduceLE, Int.reduceAdd, Int.reduceSub, Int.reduceMul, Int.reduceEq, Int.reduceNeg, reduceCtorEq, or_false, false_or, decide_true, decide_false, Int.cast_ofNat_Int, Nat.zero_add, Nat.add_zero, Int.toNat_natCast, Option.isNone_none, Option.isNone_some, Bool.not_true, Bool.not_false, Bool.xor_true, Bool.xor_false, Bool.true_xor, Bool.false_xor, decide_true, decide_false, Bool.and_true, Bool.true_and, Bool.and_false, Bool.false_and, eq_self, ne_eq, not_false_eq_true, not_true_eq_false, true_and, and_true, and_self, wrapI64, wrapu64, wrapu32, wrapu8, ltT, ltF, leT, leF, eqF, eqT, nltT, nleT, neqFn, wAdd64, wShl64, mn32, ht, hu, hb]
          exact fun ρ a w hs _ => ⟨rfl, hs.grown⟩
      · rw [decide_eq_false g1]
        simp (disch := omega) only [go_sem, ↓reduceIte, Nat.reduceEqDiff, Nat.reduceLT, Nat.reduceLeDiff, Nat.reduceAdd, Nat.reduceMul, Nat.reduceSub, Nat.reduceDiv, Nat.reduceMod, Int.reduceToNat, Int.reduceLT, Int.reduceLE, Int.reduceAdd, Int.reduceSub, Int.reduceMul, Int.reduceEq, Int.reduceNeg, reduceCtorEq, or_false, false_or, decide_true, decide_false, Int.cast_ofNat_Int, Nat.zero_add, Nat.add_zero, Int.toNat_natCast, Option.isNone_none, Option.isNone_some, Bool.not_true, Bool.not_false, Bool.xor_true, Bool.xor_false, Bool.true_xor, Bool.false_xor, decide_true, decide_false, Bool.and_true, Bool.true_and, Bool.and_false, Bool.false_and, eq_self, ne_eq, not_false_eq_true, not_true_eq_false, true_and, and_true, and_self, wrapI64, wrapu64, wrapu32, wrapu8, ltT, ltF, leT, leF, eqF, eqT, nltT, nleT, neqFn, wAdd64, wShl64, mn32, ht, hu]
        exact fun ρ a w hs _ => ⟨rfl, hs.grown⟩
    | n + 5, h => exact absurd h (by omega)
  | n + 3, h => exact absurd h (by omega)
end Go.Proofs.Ytbdffcgbleiiaaa
